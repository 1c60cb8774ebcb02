import Derived.Test.YtjalahhkhcmjaaaHNQ1
/-
  My own texts (road H): HNQ3.
-/
set_option linter.unusedSimpArgs false
set_option linter.unusedVariables false
namespace HT
open Go Go.Proofs HK
structure Deed where
  g : Int
  op : Int
  obj : Int
  cas : Int
deriving DecidableEq
@[simp] def Deed.cl (d : Deed) : List AV := [.int .i64 d.g, .int .i64 d.op, .int .i64 d.obj, .int .i64 d.cas]
def DeedS (l : List Deed) : List (List AV) := l.map Deed.cl
@[simp] theorem DeedS_length (l : List Deed) : (DeedS l).length = l.length := by simp [DeedS]
@[simp] theorem DeedS_get (l : List Deed) (k : Nat) : (DeedS l)[k]? = (l[k]?).map Deed.cl := by simp [DeedS]
@[simp] theorem DeedS_getE (l : List Deed) (k : Nat) (h : k < (DeedS l).length) : (DeedS l)[k] = Deed.cl (l[k]'(by simpa using h)) := by simp [DeedS]
@[simp] theorem DeedS_take (l : List Deed) : List.take l.length (DeedS l) = DeedS l := by
  have := List.take_length (l := DeedS l)
  rwa [DeedS_length] at this
@[simp] theorem DeedS_nil : DeedS [] = [] := rfl
@[simp] theorem DeedS_ren (l : List Deed) (ids : List Nat) (d : Nat) : (DeedS l).map (List.map (renN ids (d + 1))) = DeedS l := by
  simp [DeedS, Function.comp_def]
@[simp] theorem DeedS_low (n : Nat) (l : List Deed) : lowEs n (DeedS l) = true := by
  simp [lowEs, DeedS]
@[simp] theorem DeedS_lowT (n : Nat) (l : List Deed) (k : Nat) : lowEs n ((DeedS l).take k) = true := lowEs_take (DeedS_low n l) k
@[simp] theorem DeedS_str (d : Nat) (l : List Deed) : ((DeedS l).all fun e => e.all (strN (d + 1))) = true := by
  simp [DeedS, -strN, strS_int, strS_bool]
@[simp] theorem DeedS_view (l : List Deed) (h : Heap) (d : Nat) : (DeedS l).map (List.map (viewN h (d + 1))) = DeedS l := by
  simp [DeedS, DeedS, Function.comp_def]
theorem bsz (a : Array UInt8) : (⟨a⟩ : ByteArray).size = a.size := rfl
def isShared (n : Int) : Bool := decide (8 ≤ n) && decide (n ≤ 15)
abbrev spB : ByteArray := ⟨#[32]⟩
abbrev elseB : ByteArray := ⟨#[101, 108, 115, 101]⟩
abbrev waitB : ByteArray := ⟨#[119, 97, 105, 116]⟩
def headB (d : Deed) : ByteArray := numB d.g ++ (spB ++ (wordB d.op ++ (spB ++ chanB d.obj)))
def evT (d : Deed) : ByteArray :=
  if (isShared d.op && isNumB d.g && okA d.obj) = true then
    if d.op = 11 then if d.cas = -3 then headB d ++ (spB ++ waitB) else if okA d.cas = true then headB d ++ (spB ++ anyB d.cas elseB) else noB
    else headB d
  else noB
theorem spWait : (⟨#[32, 119, 97, 105, 116]⟩ : ByteArray) = spB ++ waitB := by decide
theorem chanB_any (n : Int) : anyB n nilB = chanB n := rfl
theorem anyB_size (n : Int) {w : ByteArray} (h : w.size ≤ 10) : (anyB n w).size ≤ 4294967296 := by
  unfold anyB
  have := numB_size n
  split <;> omega
theorem anyB_emp (n : Int) {w : ByteArray} (h : ¬ w = noB) : anyB n w = noB ↔ okA n = false := by
  unfold anyB okA
  by_cases h1 : n = -1
  · simp [h1, h]
  · simp [h1, numB_emp]
theorem joinW_no {xs : List ByteArray} {sep x : ByteArray} (hx : x ∈ xs) (h : x = noB) : joinW xs sep = noB := if_neg (by intro e; have := List.all_eq_true.1 e x hx; simp [h] at this)
theorem joinW_yes {xs : List ByteArray} {sep : ByteArray} (h : ∀ x ∈ xs, ¬ x = noB) : joinW xs sep = joinB sep xs := if_pos (by simpa using h)
theorem ev_no {d : Deed} {r : List ByteArray} (h1 : isShared d.op = true) (h : (isNumB d.g && okA d.obj) = false) : joinW (numB d.g :: wordB d.op :: chanB d.obj :: r) spB = evT d := by
  have : evT d = noB := by unfold evT; rw [if_neg (by rw [h1, Bool.true_and, h]; simp)]
  rw [this]
  cases hg : isNumB d.g with
  | false => exact joinW_no (x := numB d.g) (by simp) ((numB_emp _).2 hg)
  | true =>
    rw [hg, Bool.true_and] at h
    exact joinW_no (x := chanB d.obj) (by simp) ((anyB_emp d.obj (w := nilB) (by decide)).2 h)
theorem ev_sh {d : Deed} (h1 : isShared d.op = true) : 1 ≤ d.op ∧ d.op < 16 := by simp [isShared] at h1; omega
theorem ev_ok {d : Deed} (h1 : isShared d.op = true) (h : (isNumB d.g && okA d.obj) = true) : (isShared d.op && isNumB d.g && okA d.obj) = true ∧ ¬ numB d.g = noB ∧ ¬ wordB d.op = noB ∧ ¬ chanB d.obj = noB := by
  simp only [Bool.and_eq_true] at h
  refine ⟨by simp [h1, h.1, h.2], fun e => ?_, wordB_emp (ev_sh h1), fun e => ?_⟩
  · have := (numB_emp _).1 e; rw [h.1] at this; cases this
  · have := (anyB_emp d.obj (w := nilB) (by decide)).1 e; rw [h.2] at this; cases this
theorem ev3 {d : Deed} (h1 : isShared d.op = true) (h2 : ¬ d.op = 11) : joinW [numB d.g, wordB d.op, chanB d.obj] spB = evT d := by
  cases h : (isNumB d.g && okA d.obj) with
  | false => exact ev_no h1 h
  | true =>
    obtain ⟨q, q1, q2, q3⟩ := ev_ok h1 h
    rw [joinW_yes (by simp [q1, q2, q3])]
    unfold evT
    rw [if_pos q, if_neg h2]
    rfl
theorem ev4 {d : Deed} {x : ByteArray} (h1 : isShared d.op = true) (h2 : d.op = 11) (h3 : (x = waitB ∧ d.cas = -3) ∨ (x = anyB d.cas elseB ∧ ¬ d.cas = -3)) : joinW [numB d.g, wordB d.op, chanB d.obj, x] spB = evT d := by
  cases h : (isNumB d.g && okA d.obj) with
  | false => exact ev_no h1 h
  | true =>
    obtain ⟨q, q1, q2, q3⟩ := ev_ok h1 h
    have hj : joinB spB [numB d.g, wordB d.op, chanB d.obj, x] = headB d ++ (spB ++ x) := by simp [joinB, headB, ByteArray.append_assoc]
    unfold evT
    rw [if_pos q, if_pos h2]
    rcases h3 with ⟨rfl, h4⟩ | ⟨rfl, h4⟩
    · rw [if_pos h4, joinW_yes (by simp only [List.mem_cons, List.not_mem_nil, or_false]; rintro y (rfl | rfl | rfl | rfl) <;> first | assumption | decide), hj]
    · rw [if_neg h4]
      cases h5 : okA d.cas with
      | false => rw [if_neg (by simp)]; exact joinW_no (x := anyB d.cas elseB) (by simp) ((anyB_emp d.cas (by decide)).2 h5)
      | true =>
        have q4 : ¬ anyB d.cas elseB = noB := fun e => by have := (anyB_emp d.cas (w := elseB) (by decide)).1 e; rw [h5] at this; cases this
        rw [if_pos rfl, joinW_yes (by simp [q1, q2, q3, q4]), hj]
theorem evS {d : Deed} (h : (isShared d.op && isNumB d.g && okA d.obj) = false) : evT d = noB := by unfold evT; rw [if_neg (by simp [h])]
theorem evH {d : Deed} (h : (isShared d.op && isNumB d.g && okA d.obj) = true) : evT d = if d.op = 11 then if d.cas = -3 then headB d ++ (spB ++ waitB) else if okA d.cas = true then headB d ++ (spB ++ anyB d.cas elseB) else noB else headB d := by unfold evT; rw [if_pos h]

set_option maxHeartbeats 1000000 in
theorem toDeed_ok (d : Deed) : Fn Try.prog 5 [.agg d.cl] (.agg d.cl) := by
  refine Fn.intro Try.func5 (by decide) rfl (rs := [.cell 2 25]) rfl Try.ntmps5 (by simp) ?_
  refine SW.regionK fun K hK => ?_
  simp -implicitDefEqProofs
  repeat refine ⟨by omega, ?_⟩
  refine hK _ ?_
  clear hK K
  refine SW.regionK fun K hK => ?_
  simp -implicitDefEqProofs
  repeat refine ⟨by omega, ?_⟩
  refine hK _ ?_
  clear hK K
  refine SW.regionK fun K hK => ?_
  simp -implicitDefEqProofs
  repeat refine ⟨by omega, ?_⟩
  refine hK _ ?_
  clear hK K
  refine SW.regionK fun K hK => ?_
  simp -implicitDefEqProofs
  repeat refine ⟨by omega, ?_⟩
  refine hK _ ?_
  clear hK K
  refine SW.regionK fun K hK => ?_
  simp -implicitDefEqProofs
  repeat refine ⟨by omega, ?_⟩
  refine hK _ ?_
  clear hK K
  refine SW.regionK fun K hK => ?_
  simp -implicitDefEqProofs
  repeat refine ⟨by omega, ?_⟩
  refine hK _ ?_
  clear hK K
  refine SW.regionK fun K hK => ?_
  simp -implicitDefEqProofs
  repeat refine ⟨by omega, ?_⟩
  refine hK _ ?_
  clear hK K
  refine SW.ret ?_
  simp [Ex.then, Ex.inBlock]
set_option maxHeartbeats 1000000 in
theorem shared_s (a : Int) : Fn Try.prog 8 [.int .i64 a] (.bool (isShared a)) := by
  refine Fn.intro Try.func8 (by decide) rfl (rs := [.tmp 2]) rfl Try.ntmps8 (by simp) ?_
  refine SW.regionK fun K hK => ?_
  simp -implicitDefEqProofs
  repeat refine ⟨by omega, ?_⟩
  refine hK _ ?_
  clear hK K
  refine SW.regionK fun K hK => ?_
  simp -implicitDefEqProofs
  repeat refine ⟨by omega, ?_⟩
  refine hK _ ?_
  clear hK K
  refine SW.ret ?_
  simp [Ex.then, Ex.inBlock]
  all_goals simp [isShared]
set_option maxHeartbeats 1000000 in
theorem shared_i (a : Int) : Fn Try.prog 12 [.int .i64 a] (.bool (isShared a)) := by
  refine Fn.intro Try.func12 (by decide) rfl (rs := [.tmp 2]) rfl Try.ntmps12 (by simp) ?_
  refine SW.regionK fun K hK => ?_
  simp -implicitDefEqProofs
  repeat refine ⟨by omega, ?_⟩
  refine hK _ ?_
  clear hK K
  refine SW.regionK fun K hK => ?_
  simp -implicitDefEqProofs
  repeat refine ⟨by omega, ?_⟩
  refine hK _ ?_
  clear hK K
  refine SW.ret ?_
  simp [Ex.then, Ex.inBlock]
  all_goals simp [isShared]
set_option maxHeartbeats 1000000 in
theorem evText_s (d : Deed) : Fn Try.prog 4 [.agg d.cl] (.str (evT d)) := by
  refine Fn.intro Try.func4 (by decide) rfl (rs := [.tmp 2]) rfl Try.ntmps4 (by simp) ?_
  obtain ⟨g, op, obj, cas⟩ := d
  have z1 := numB_size g
  have z2 := wordB_size op
  have z3 := anyB_size obj (w := nilB) (by decide)
  have z4 := anyB_size cas (w := elseB) (by decide)
  have z6 := numB_size cas
  have z5 : (chanB obj).size = (anyB obj nilB).size := rfl
  refine SW.regionK fun K hK => ?_
  simp -implicitDefEqProofs
  repeat (refine And.intro (by clear hK; first | omega | (intros; simp_all; done) | (intros; grind)) ?_)
  refine hK _ ?_
  clear hK K
  refine SW.regionK fun K hK => ?_
  simp -implicitDefEqProofs
  repeat (refine And.intro (by clear hK; first | omega | (intros; simp_all; done) | (intros; grind)) ?_)
  first
    | refine CallQ.fzE (l05Num_s obj nilB) (by simp) ?_
    | refine CallK.fzE (l05Num_s obj nilB) (by simp) ?_
  simp -implicitDefEqProofs
  repeat (refine And.intro (by clear hK; first | omega | (intros; simp_all; done) | (intros; grind)) ?_)
  refine hK _ ?_
  clear hK K
  refine SW.seqK fun K1 hK1 => ?_
  refine SW.regionK fun K hK => ?_
  simp -implicitDefEqProofs
  repeat (refine And.intro (by clear hK; first | omega | (intros; simp_all; done) | (intros; grind)) ?_)
  first
    | refine CallQ.fzE (shared_s op) (by simp) ?_
    | refine CallK.fzE (shared_s op) (by simp) ?_
  simp -implicitDefEqProofs
  repeat (refine And.intro (by clear hK; first | omega | (intros; simp_all; done) | (intros; grind)) ?_)
  first
    | refine CallQG.fzE (by simp) (fun _ => isNum_s g) (by simp) ?_
    | refine CallG.fzE (by simp) (fun _ => isNum_s g) (by simp) ?_
    | refine CallQ.fzE (isNum_s g) (by simp) ?_
    | refine CallK.fzE (isNum_s g) (by simp) ?_
  simp -implicitDefEqProofs
  repeat (refine And.intro (by clear hK; first | omega | (intros; simp_all; done) | (intros; grind)) ?_)
  refine hK _ ?_
  clear hK K
  refine SW.cond _ rfl (by simp) ?_ ?_
  case' refine_2 =>
   intro hb1
   first
   | (exfalso; simp at hb1; done)
   | (exfalso; simp at hb1; omega)
   | (
    have hH := evH (d := ⟨g, op, obj, cas⟩) (by revert hb1; simp only []; cases isShared op <;> cases isNumB g <;> cases okA obj <;> simp)
    refine SW.skip ?_
    refine hK1 _ ?_
    refine SW.drawK mixed [.q [(0, false), (1, false), (2, false), (3, false), (4, false), (5, false), (6, false), (7, false), (8, false), (9, false), (10, false), (11, false)]] (by kernel_rfl) rfl fun K hK => ?_
    simp -implicitDefEqProofs [ByteArray.size_append, bsz]
    repeat (refine And.intro (by clear hK; first | omega | (intros; simp_all; done) | (intros; grind)) ?_)
    first
      | refine CallQ.fzE (numT_s g) (by simp) ?_
      | refine CallK.fzE (numT_s g) (by simp) ?_
    simp -implicitDefEqProofs [ByteArray.size_append, bsz]
    repeat (refine And.intro (by clear hK; first | omega | (intros; simp_all; done) | (intros; grind)) ?_)
    first
      | refine CallQ.fzE (opWord_s op) (by simp) ?_
      | refine CallK.fzE (opWord_s op) (by simp) ?_
    simp -implicitDefEqProofs [ByteArray.size_append, bsz]
    repeat (refine And.intro (by clear hK; first | omega | (intros; simp_all; done) | (intros; grind)) ?_)
    refine hK _ ?_
    clear hK K
    refine SW.seqK fun K2 hK2 => ?_
    refine SW.regionK fun K hK => ?_
    simp -implicitDefEqProofs
    repeat (refine And.intro (by clear hK; first | omega | (intros; simp_all; done) | (intros; grind)) ?_)
    refine hK _ ?_
    clear hK K
    refine SW.cond _ rfl (by simp) ?_ ?_
    case' refine_2 =>
     intro hb2
     first
     | (exfalso; simp at hb2; done)
     | (exfalso; simp at hb2; omega)
     | (
      have h11 : op = 11 := by simpa using hb2
      rw [if_pos h11] at hH
      refine SW.skip ?_
      refine hK2 _ ?_
      refine SW.seqK fun K3 hK3 => ?_
      refine SW.regionK fun K hK => ?_
      simp -implicitDefEqProofs
      repeat (refine And.intro (by clear hK; first | omega | (intros; simp_all; done) | (intros; grind)) ?_)
      refine hK _ ?_
      clear hK K
      refine SW.cond _ rfl (by simp) ?_ ?_
      case' refine_2 =>
       intro hb3
       first
       | (exfalso; simp at hb3; done)
       | (exfalso; simp at hb3; omega)
       | (
        rw [if_neg (by simpa using hb3)] at hH
        refine SW.skip ?_
        refine hK3 _ ?_
        refine SW.regionK fun K hK => ?_
        simp -implicitDefEqProofs
        repeat (refine And.intro (by clear hK; first | omega | (intros; simp_all; done) | (intros; grind)) ?_)
        first
          | refine CallQ.fzE (l05Num_s cas elseB) (by simp) ?_
          | refine CallK.fzE (l05Num_s cas elseB) (by simp) ?_
        simp -implicitDefEqProofs
        repeat (refine And.intro (by clear hK; first | omega | (intros; simp_all; done) | (intros; grind)) ?_)
        refine hK _ ?_
        clear hK K
        refine SW.seqK fun K4 hK4 => ?_
        refine SW.regionK fun K hK => ?_
        simp -implicitDefEqProofs
        repeat (refine And.intro (by clear hK; first | omega | (intros; simp_all; done) | (intros; grind)) ?_)
        refine hK _ ?_
        clear hK K
        refine SW.cond _ rfl (by simp) ?_ ?_
        case' refine_2 =>
         intro hb4
         first
         | (exfalso; simp at hb4; done)
         | (exfalso; simp at hb4; omega)
         | (
          have hres : evT ⟨g, op, obj, cas⟩ = headB ⟨g, op, obj, cas⟩ ++ (spB ++ anyB cas elseB) := by rw [hH, if_pos (by simpa using hb4)]
          refine SW.skip ?_
          refine hK4 _ ?_
          refine SW.regionK fun K hK => ?_
          simp -implicitDefEqProofs [ByteArray.size_append, bsz]
          repeat (refine And.intro (by clear hK; first | omega | (intros; simp_all; done) | (intros; grind)) ?_)
          refine hK _ ?_
          clear hK K
          refine SW.ret ?_
          simp [Ex.then, Ex.inBlock]
          all_goals first
            | (rw [hres]; done)
            | (rw [hres]; simp [headB, chanB_any, ByteArray.append_assoc]; done)
            | (rw [hres, spWait]; simp [headB, chanB_any, ByteArray.append_assoc]; done)
            | fail)
        rotate_right
        case' _ =>
         intro hb4
         first
         | (exfalso; simp at hb4; done)
         | (exfalso; simp at hb4; omega)
         | (
          have hres : evT ⟨g, op, obj, cas⟩ = noB := by rw [hH, if_neg (by simpa using hb4)]
          refine SW.regionK fun K hK => ?_
          simp -implicitDefEqProofs
          repeat (refine And.intro (by clear hK; first | omega | (intros; simp_all; done) | (intros; grind)) ?_)
          refine hK _ ?_
          clear hK K
          refine SW.ret ?_
          simp [Ex.then, Ex.inBlock]
          all_goals first
            | (rw [hres]; done)
            | (rw [hres]; simp [headB, chanB_any, ByteArray.append_assoc]; done)
            | (rw [hres, spWait]; simp [headB, chanB_any, ByteArray.append_assoc]; done)
            | fail))
      rotate_right
      case' _ =>
       intro hb3
       first
       | (exfalso; simp at hb3; done)
       | (exfalso; simp at hb3; omega)
       | (
        have hres : evT ⟨g, op, obj, cas⟩ = headB ⟨g, op, obj, cas⟩ ++ (spB ++ waitB) := by rw [hH, if_pos (by simpa using hb3)]
        refine SW.regionK fun K hK => ?_
        simp -implicitDefEqProofs [ByteArray.size_append, bsz]
        repeat (refine And.intro (by clear hK; first | omega | (intros; simp_all; done) | (intros; grind)) ?_)
        refine hK _ ?_
        clear hK K
        refine SW.ret ?_
        simp [Ex.then, Ex.inBlock]
        all_goals first
          | (rw [hres]; done)
          | (rw [hres]; simp [headB, chanB_any, ByteArray.append_assoc]; done)
          | (rw [hres, spWait]; simp [headB, chanB_any, ByteArray.append_assoc]; done)
          | fail))
    rotate_right
    case' _ =>
     intro hb2
     first
     | (exfalso; simp at hb2; done)
     | (exfalso; simp at hb2; omega)
     | (
      have hres : evT ⟨g, op, obj, cas⟩ = headB ⟨g, op, obj, cas⟩ := by rw [hH, if_neg (by simpa using hb2)]
      refine SW.regionK fun K hK => ?_
      simp -implicitDefEqProofs
      repeat (refine And.intro (by clear hK; first | omega | (intros; simp_all; done) | (intros; grind)) ?_)
      refine hK _ ?_
      clear hK K
      refine SW.ret ?_
      simp [Ex.then, Ex.inBlock]
      all_goals first
        | (rw [hres]; done)
        | (rw [hres]; simp [headB, chanB_any, ByteArray.append_assoc]; done)
        | (rw [hres, spWait]; simp [headB, chanB_any, ByteArray.append_assoc]; done)
        | fail))
  rotate_right
  case' _ =>
   intro hb1
   first
   | (exfalso; simp at hb1; done)
   | (exfalso; simp at hb1; omega)
   | (
    have hres := evS (d := ⟨g, op, obj, cas⟩) (by revert hb1; simp only []; cases isShared op <;> cases isNumB g <;> cases okA obj <;> simp)
    refine SW.regionK fun K hK => ?_
    simp -implicitDefEqProofs
    repeat (refine And.intro (by clear hK; first | omega | (intros; simp_all; done) | (intros; grind)) ?_)
    refine hK _ ?_
    clear hK K
    refine SW.ret ?_
    simp [Ex.then, Ex.inBlock]
    all_goals first
      | (rw [hres]; done)
      | (rw [hres]; simp [headB, chanB_any, ByteArray.append_assoc]; done)
      | (rw [hres, spWait]; simp [headB, chanB_any, ByteArray.append_assoc]; done)
      | fail)
set_option maxHeartbeats 1000000 in
theorem evText_i (d : Deed) : Fn Try.prog 6 [.agg d.cl] (.str (evT d)) := by
  refine Fn.intro Try.func6 (by decide) rfl (rs := [.tmp 2]) rfl Try.ntmps6 (by simp) ?_
  obtain ⟨g, op, obj, cas⟩ := d
  have z1 := numB_size g
  have z2 := wordB_size op
  have z3 := anyB_size obj (w := nilB) (by decide)
  have z4 := anyB_size cas (w := elseB) (by decide)
  have z6 := numB_size cas
  have z5 : (chanB obj).size = (anyB obj nilB).size := rfl
  refine SW.regionK fun K hK => ?_
  simp -implicitDefEqProofs
  repeat (refine And.intro (by clear hK; first | omega | (intros; simp_all; done) | (intros; grind)) ?_)
  refine hK _ ?_
  clear hK K
  refine SW.seqK fun K1 hK1 => ?_
  refine SW.regionK fun K hK => ?_
  simp -implicitDefEqProofs
  repeat (refine And.intro (by clear hK; first | omega | (intros; simp_all; done) | (intros; grind)) ?_)
  first
    | refine CallQ.fzE (shared_i op) (by simp) ?_
    | refine CallK.fzE (shared_i op) (by simp) ?_
  simp -implicitDefEqProofs
  repeat (refine And.intro (by clear hK; first | omega | (intros; simp_all; done) | (intros; grind)) ?_)
  refine hK _ ?_
  clear hK K
  refine SW.cond _ rfl (by simp) ?_ ?_
  case' refine_2 =>
   intro hb1
   first
   | (exfalso; simp at hb1; done)
   | (exfalso; simp at hb1; omega)
   | (
    have hs0 : isShared op = true := by simpa using hb1
    refine SW.skip ?_
    refine hK1 _ ?_
    refine SW.drawK mixed [.q [(0, false), (1, false), (2, false), (3, false), (4, false), (5, false), (6, false), (7, false), (8, false), (9, true), (10, false)]] (by kernel_rfl) rfl fun K hK => ?_
    simp -implicitDefEqProofs
    repeat (refine And.intro (by clear hK; first | omega | (intros; simp_all; done) | (intros; grind)) ?_)
    first
      | refine CallQ.fzE (numT_i g) (by simp) ?_
      | refine CallK.fzE (numT_i g) (by simp) ?_
    simp -implicitDefEqProofs
    repeat (refine And.intro (by clear hK; first | omega | (intros; simp_all; done) | (intros; grind)) ?_)
    first
      | refine CallQ.fzE (opWord_i op) (by simp) ?_
      | refine CallK.fzE (opWord_i op) (by simp) ?_
    simp -implicitDefEqProofs
    repeat (refine And.intro (by clear hK; first | omega | (intros; simp_all; done) | (intros; grind)) ?_)
    first
      | refine CallQ.fzE (chanT_i obj) (by simp) ?_
      | refine CallK.fzE (chanT_i obj) (by simp) ?_
    simp -implicitDefEqProofs
    repeat (refine And.intro (by clear hK; first | omega | (intros; simp_all; done) | (intros; grind)) ?_)
    refine hK _ ?_
    clear hK K
    refine SW.seqK fun K2 hK2 => ?_
    refine SW.regionK fun K hK => ?_
    simp -implicitDefEqProofs
    repeat (refine And.intro (by clear hK; first | omega | (intros; simp_all; done) | (intros; grind)) ?_)
    refine hK _ ?_
    clear hK K
    refine SW.cond _ rfl (by simp) ?_ ?_
    case' refine_2 =>
     intro hb2
     first
     | (exfalso; simp at hb2; done)
     | (exfalso; simp at hb2; omega)
     | (
      have k3 := ev3 (d := ⟨g, op, obj, cas⟩) hs0 (by simpa using hb2)
      refine SW.skip ?_)
    rotate_right
    case' _ =>
     intro hb2
     first
     | (exfalso; simp at hb2; done)
     | (exfalso; simp at hb2; omega)
     | (
      have h11 : op = 11 := by simpa using hb2
      refine SW.regionK fun K hK => ?_
      simp -implicitDefEqProofs
      repeat (refine And.intro (by clear hK; first | omega | (intros; simp_all; done) | (intros; grind)) ?_)
      refine hK _ ?_
      clear hK K
      refine SW.block ?_
      refine SW.regionK fun K hK => ?_
      simp -implicitDefEqProofs
      repeat (refine And.intro (by clear hK; first | omega | (intros; simp_all; done) | (intros; grind)) ?_)
      refine hK _ ?_
      clear hK K
      refine SW.cond _ rfl (by simp) ?_ ?_
      case' refine_2 =>
       intro hb3
       first
       | (exfalso; simp at hb3; done)
       | (exfalso; simp at hb3; omega)
       | (
        have h9 : ¬ cas = -1 := by simpa using hb3
        refine SW.regionK fun K hK => ?_
        simp -implicitDefEqProofs
        repeat (refine And.intro (by clear hK; first | omega | (intros; simp_all; done) | (intros; grind)) ?_)
        refine hK _ ?_
        clear hK K
        refine SW.cond _ rfl (by simp) ?_ ?_
        case' refine_2 =>
         intro hb4
         first
         | (exfalso; simp at hb4; done)
         | (exfalso; simp at hb4; omega)
         | (
          have kN := ev4 (d := ⟨g, op, obj, cas⟩) (x := numB cas) hs0 h11 (.inr ⟨(if_neg h9).symm, by simpa using hb4⟩)
          refine SW.regionE fun K hK => ?_
          simp -implicitDefEqProofs
          repeat (refine And.intro (by clear hK; first | omega | (intros; simp_all; done) | (intros; grind)) ?_)
          first
            | refine CallQ.fzE (numT_i cas) (by simp) ?_
            | refine CallK.fzE (numT_i cas) (by simp) ?_
          simp -implicitDefEqProofs
          repeat (refine And.intro (by clear hK; first | omega | (intros; simp_all; done) | (intros; grind)) ?_)
          refine hK _ ?_
          clear hK K)
        rotate_right
        case' _ =>
         intro hb4
         first
         | (exfalso; simp at hb4; done)
         | (exfalso; simp at hb4; omega)
         | (
          have kW := ev4 (d := ⟨g, op, obj, cas⟩) (x := waitB) hs0 h11 (.inl ⟨rfl, by simpa using hb4⟩)
          refine SW.regionE fun K hK => ?_
          simp -implicitDefEqProofs
          repeat (refine And.intro (by clear hK; first | omega | (intros; simp_all; done) | (intros; grind)) ?_)
          refine hK _ ?_
          clear hK K))
      rotate_right
      case' _ =>
       intro hb3
       first
       | (exfalso; simp at hb3; done)
       | (exfalso; simp at hb3; omega)
       | (
        have kE := ev4 (d := ⟨g, op, obj, cas⟩) (x := elseB) hs0 h11 (.inr (by have h9 : cas = -1 := (by simpa using hb3); subst h9; exact ⟨rfl, by simp⟩))
        refine SW.regionE fun K hK => ?_
        simp -implicitDefEqProofs
        repeat (refine And.intro (by clear hK; first | omega | (intros; simp_all; done) | (intros; grind)) ?_)
        refine hK _ ?_
        clear hK K))
    all_goals (
     refine hK2 _ ?_
     refine SW.regionK fun K hK => ?_
     simp -implicitDefEqProofs
     repeat (refine And.intro (by clear hK; first | omega | (intros; simp_all; done) | (intros; grind)) ?_)
     first
       | (have _ := k3; refine CallS.mono (CallS.frame [1] (joined_i [numB g, wordB op, chanB obj] spB (by simp only [joinB, ByteArray.size_append, bsz]; simp; omega) (by simp)) (by simp) (by simp [lowN]) (by simp) (by simp) (by simp [renH]) (by simp) (by simp) ?_) ?_)
       | (have _ := kE; refine CallS.mono (CallS.frame [3] (joined_i [numB g, wordB op, chanB obj, elseB] spB (by simp only [joinB, ByteArray.size_append, bsz]; simp; omega) (by simp)) (by simp) (by simp [lowN]) (by simp) (by simp) (by simp [renH]) (by simp) (by simp) ?_) ?_)
       | (have _ := kW; refine CallS.mono (CallS.frame [3] (joined_i [numB g, wordB op, chanB obj, waitB] spB (by simp only [joinB, ByteArray.size_append, bsz]; simp; omega) (by simp)) (by simp) (by simp [lowN]) (by simp) (by simp) (by simp [renH]) (by simp) (by simp) ?_) ?_)
       | (have _ := kN; refine CallS.mono (CallS.frame [3] (joined_i [numB g, wordB op, chanB obj, numB cas] spB (by simp only [joinB, ByteArray.size_append, bsz]; simp; omega) (by simp)) (by simp) (by simp [lowN]) (by simp) (by simp) (by simp [renH]) (by simp) (by simp) ?_) ?_)
     · rintro o h' ⟨rfl, rfl⟩
       exact ⟨by simp, by simp [nfzB, lowN, nfz, strN], rfl, rfl⟩
     rintro o h' ⟨o0, h0, ⟨rfl, rfl⟩, rfl, rfl⟩
     simp -implicitDefEqProofs
     repeat (refine And.intro (by clear hK; first | omega | (intros; simp_all; done) | (intros; grind)) ?_)
     refine hK _ ?_
     clear hK K
     refine SW.ret ?_
     simp [Ex.then, Ex.inBlock]
     all_goals first
       | (rw [hres]; done)
       | exact k3
       | exact kE
       | exact kW
       | exact kN
       | fail))
  rotate_right
  case' _ =>
   intro hb1
   first
   | (exfalso; simp at hb1; done)
   | (exfalso; simp at hb1; omega)
   | (
    have hs0 : isShared op = false := by simpa using hb1
    have hres := evS (d := ⟨g, op, obj, cas⟩) (by simp [hs0])
    refine SW.regionK fun K hK => ?_
    simp -implicitDefEqProofs
    repeat (refine And.intro (by clear hK; first | omega | (intros; simp_all; done) | (intros; grind)) ?_)
    refine hK _ ?_
    clear hK K
    refine SW.ret ?_
    simp [Ex.then, Ex.inBlock]
    all_goals first
      | (rw [hres]; done)
      | exact k3
      | exact kE
      | exact kW
      | exact kN
      | fail)
end HT
