import Derived.Test.YtohfnikklggjjaaGreatG9
/-
  My own texts (road H): HGTI.
-/
set_option linter.unusedSimpArgs false
set_option linter.unusedVariables false
namespace HT
open Go Go.Proofs HK
structure Deed where
  g : Int
  op : Int
  obj : Int
  cas : Int
deriving DecidableEq
@[simp] def Deed.cl (d : Deed) : List AV := [.int .i64 d.g, .int .i64 d.op, .int .i64 d.obj, .int .i64 d.cas]
def DeedS (l : List Deed) : List (List AV) := l.map Deed.cl
@[simp] theorem DeedS_length (l : List Deed) : (DeedS l).length = l.length := by simp [DeedS]
@[simp] theorem DeedS_get (l : List Deed) (k : Nat) : (DeedS l)[k]? = (l[k]?).map Deed.cl := by simp [DeedS]
@[simp] theorem DeedS_getE (l : List Deed) (k : Nat) (h : k < (DeedS l).length) : (DeedS l)[k] = Deed.cl (l[k]'(by simpa using h)) := by simp [DeedS]
@[simp] theorem DeedS_take (l : List Deed) : List.take l.length (DeedS l) = DeedS l := by
  have := List.take_length (l := DeedS l)
  rwa [DeedS_length] at this
@[simp] theorem DeedS_nil : DeedS [] = [] := rfl
theorem DeedS_len {l : List Deed} {e : List AV} (h : e ∈ DeedS l) : e.length = 4 := by
  obtain ⟨d, _, rfl⟩ := List.mem_map.1 h; rfl
@[simp] theorem DeedS_ren (l : List Deed) (ids : List Nat) (d : Nat) : (DeedS l).map (List.map (renN ids (d + 1))) = DeedS l := by
  simp [DeedS, Function.comp_def]
@[simp] theorem DeedS_low (n : Nat) (l : List Deed) : lowEs n (DeedS l) = true := by
  simp [lowEs, DeedS]
@[simp] theorem DeedS_lowT (n : Nat) (l : List Deed) (k : Nat) : lowEs n ((DeedS l).take k) = true := lowEs_take (DeedS_low n l) k
@[simp] theorem DeedS_str (d : Nat) (l : List Deed) : ((DeedS l).all fun e => e.all (strN (d + 1))) = true := by
  simp [DeedS, -strN, strS_int, strS_bool]
theorem DeedS_okI (l : List Deed) : okI (.own 4 (DeedS l)) = true := by
  simp [okI]
@[simp] theorem DeedS_view (l : List Deed) (h : Heap) (d : Nat) : (DeedS l).map (List.map (viewN h (d + 1))) = DeedS l := by
  simp [DeedS, DeedS, Function.comp_def]
def isShared (n : Int) : Bool := decide (8 ≤ n) && decide (n ≤ 15)
def objOk (p : Prog) (d : Deed) : Bool :=
  if d.op = 8 ∨ d.op = 9 ∨ d.op = 10 then inR d.obj (-1) p.caps.length
  else if d.op = 11 then inR d.obj 0 p.sels.length
  else if d.op = 12 ∨ d.op = 13 then inR d.obj 0 p.mus
  else if d.op = 14 then inR d.obj 0 p.procs.length
  else decide (d.obj = 0)
def caseS (s : Select) (c : Int) : Bool := if c = -3 then decide (s.els < 0) else if c = -1 then decide (0 ≤ s.els) else decide (0 ≤ c) && decide (c < s.cases.length)
def caseD (p : Prog) (d : Deed) : Bool :=
  if d.op = 11 then (match p.sels[d.obj.toNat]? with | some s => caseS s d.cas | none => false) else decide (d.cas = -2)
def evIn (p : Prog) (d : Deed) : Bool := decide (0 ≤ d.g) && decide (d.g < 10) && isShared d.op && objOk p d && caseD p d
def evOk (p : Prog) (d : Deed) : Bool := progOk p && evIn p d
theorem progOk_mus {p : Prog} (h : progOk p = true) : 0 ≤ p.mus ∧ p.mus ≤ 4 := by
  simp [progOk, headOk] at h; omega
theorem progOk_els {p : Prog} (h : progOk p = true) {N : Nat} {s : Select} (hs : p.sels[N]? = some s) : -1 ≤ s.els := by
  simp only [progOk, Bool.and_eq_true, List.all_eq_true] at h; have := h.1.2 s (List.mem_of_getElem? hs)
  simp only [selPOk, Bool.and_eq_true] at this; exact selOk_els this.2
set_option maxHeartbeats 1000000 in
theorem toDeed_ok (d : Deed) : Fn Tryz.prog 22 [.agg d.cl] (.agg d.cl) := by
  refine Fn.intro Tryz.func22 (by decide) rfl (rs := [.cell 2 49]) rfl Tryz.ntmps22 (by simp) ?_; refine SW.rg fun K hK => ?_; simp -implicitDefEqProofs; repeat refine ⟨by omega, ?_⟩
  refine hK _ ?_; clear hK K; refine SW.rg fun K hK => ?_; simp -implicitDefEqProofs; repeat refine ⟨by omega, ?_⟩
  refine hK _ ?_; clear hK K; refine SW.rg fun K hK => ?_; simp -implicitDefEqProofs; repeat refine ⟨by omega, ?_⟩
  refine hK _ ?_; clear hK K; refine SW.rg fun K hK => ?_; simp -implicitDefEqProofs; repeat refine ⟨by omega, ?_⟩
  refine hK _ ?_; clear hK K; refine SW.rg fun K hK => ?_; simp -implicitDefEqProofs; repeat refine ⟨by omega, ?_⟩
  refine hK _ ?_; clear hK K; refine SW.rg fun K hK => ?_; simp -implicitDefEqProofs; repeat refine ⟨by omega, ?_⟩
  refine hK _ ?_; clear hK K; refine SW.rg fun K hK => ?_; simp -implicitDefEqProofs; repeat refine ⟨by omega, ?_⟩
  refine hK _ ?_; clear hK K; refine SW.ret ?_; simp [Ex.then, Ex.ib]
set_option maxHeartbeats 1000000 in
theorem shared_s (a : Int) : Fn Tryz.prog 69 [.int .i64 a] (.bool (isShared a)) := by
  refine Fn.intro Tryz.func69 (by decide) rfl (rs := [.tmp 2]) rfl Tryz.ntmps69 (by simp) ?_; refine SW.rg fun K hK => ?_; simp -implicitDefEqProofs; repeat refine ⟨by omega, ?_⟩
  refine hK _ ?_; clear hK K; refine SW.rg fun K hK => ?_; simp -implicitDefEqProofs; repeat refine ⟨by omega, ?_⟩
  refine hK _ ?_; clear hK K; refine SW.ret ?_; simp [Ex.then, Ex.ib]
  all_goals simp [isShared]
set_option maxHeartbeats 1000000 in
theorem shared_i (a : Int) : Fn Tryz.prog 58 [.int .i64 a] (.bool (isShared a)) := by
  refine Fn.intro Tryz.func58 (by decide) rfl (rs := [.tmp 2]) rfl Tryz.ntmps58 (by simp) ?_; refine SW.rg fun K hK => ?_; simp -implicitDefEqProofs; repeat refine ⟨by omega, ?_⟩
  refine hK _ ?_; clear hK K; refine SW.rg fun K hK => ?_; simp -implicitDefEqProofs; repeat refine ⟨by omega, ?_⟩
  refine hK _ ?_; clear hK K; refine SW.ret ?_; simp [Ex.then, Ex.ib]
  all_goals simp [isShared]
set_option maxHeartbeats 1000000 in
theorem obj_s (p : Prog) (d : Deed) (h : p.ok) (hm : 0 ≤ p.mus ∧ p.mus ≤ 4) : Fn Tryz.prog 70 [.agg p.fr, .agg d.cl] (.bool (objOk p d)) := by
  refine Fn.intro Tryz.func70 (by decide) rfl (rs := [.tmp 4]) rfl Tryz.ntmps70 (by simp) ?_; obtain ⟨g, op, obj, cas⟩ := d; have h1 := h.1
  have h2 := h.2.1
  have h3 := h.2.2.2.1
  have hw1 := wrapI ((p.sels.length : Int) - 1) (by omega) (by omega)
  have hw2 := wrapI ((p.procs.length : Int) - 1) (by omega) (by omega)
  have hw3 := wrapI (p.mus - 1) (by omega) (by omega)
  refine SW.rg fun K hK => ?_; simp -implicitDefEqProofs; repeat (refine And.intro (by clear hK; first | omega | (intros; simp_all; done) | (intros; grind)) ?_)
  refine hK _ ?_; clear hK K; refine SW.seqK fun K1 hK1 => ?_; refine SW.rg fun K hK => ?_; simp -implicitDefEqProofs; repeat (refine And.intro (by clear hK; first | omega | (intros; simp_all; done) | (intros; grind)) ?_)
  refine hK _ ?_; clear hK K; refine SW.block ?_; refine SW.seqK fun K2 hK2 => ?_; refine SW.rg fun K hK => ?_; simp -implicitDefEqProofs; repeat (refine And.intro (by clear hK; first | omega | (intros; simp_all; done) | (intros; grind)) ?_)
  refine hK _ ?_; clear hK K; refine SW.cond _ rfl (by simp) ?_ ?_
  case' refine_2 =>
   intro hb1
   first
   | (exfalso; simp at hb1; done)
   | (exfalso; simp at hb1; omega)
   | (
    try simp at hb1
    try subst hb1
    refine SW.rg fun K hK => ?_; simp -implicitDefEqProofs; repeat (refine And.intro (by clear hK; first | omega | (intros; simp_all; done) | (intros; grind)) ?_)
    refine hK _ ?_; clear hK K; refine SW.cond _ rfl (by simp) ?_ ?_
    case' refine_2 =>
     intro hb2
     first
     | (exfalso; simp at hb2; done)
     | (exfalso; simp at hb2; omega)
     | (
      try simp at hb2
      try subst hb2
      refine SW.regionE fun K hK => ?_; simp -implicitDefEqProofs; repeat (refine And.intro (by clear hK; first | omega | (intros; simp_all; done) | (intros; grind)) ?_)
      refine hK _ ?_
      clear hK K)
    rotate_right
    case' _ =>
     intro hb2
     first
     | (exfalso; simp at hb2; done)
     | (exfalso; simp at hb2; omega)
     | (
      try simp at hb2
      try subst hb2
      refine SW.skip ?_))
  rotate_right
  case' _ =>
   intro hb1
   first
   | (exfalso; simp at hb1; done)
   | (exfalso; simp at hb1; omega)
   | (
    try simp at hb1
    try subst hb1
    refine SW.skip ?_)
  all_goals (
   refine hK2 _ ?_; refine SW.cond _ rfl (by simp) ?_ ?_
   case' refine_2 =>
    intro hb3
    first
    | (exfalso; simp at hb3; done)
    | (exfalso; simp at hb3; omega)
    | (
     try simp at hb3
     try subst hb3
     refine SW.rg fun K hK => ?_; simp -implicitDefEqProofs; repeat (refine And.intro (by clear hK; first | omega | (intros; simp_all; done) | (intros; grind)) ?_)
     refine hK _ ?_; clear hK K; refine SW.cond _ rfl (by simp) ?_ ?_
     case' refine_2 =>
      intro hb4
      first
      | (exfalso; simp at hb4; done)
      | (exfalso; simp at hb4; omega)
      | (
       try simp at hb4
       try subst hb4
       refine SW.seqK fun K3 hK3 => ?_; refine SW.rg fun K hK => ?_; simp -implicitDefEqProofs; repeat (refine And.intro (by clear hK; first | omega | (intros; simp_all; done) | (intros; grind)) ?_)
       refine hK _ ?_; clear hK K; refine SW.cond _ rfl (by simp) ?_ ?_
       case' refine_2 =>
        intro hb5
        first
        | (exfalso; simp at hb5; done)
        | (exfalso; simp at hb5; omega)
        | (
         try simp at hb5
         try subst hb5
         refine SW.regionE fun K hK => ?_; simp -implicitDefEqProofs; repeat (refine And.intro (by clear hK; first | omega | (intros; simp_all; done) | (intros; grind)) ?_)
         refine hK _ ?_
         clear hK K)
       rotate_right
       case' _ =>
        intro hb5
        first
        | (exfalso; simp at hb5; done)
        | (exfalso; simp at hb5; omega)
        | (
         try simp at hb5
         try subst hb5
         refine SW.skip ?_)
       all_goals (
        refine hK3 _ ?_; refine SW.cond _ rfl (by simp) ?_ ?_
        case' refine_2 =>
         intro hb6
         first
         | (exfalso; simp at hb6; done)
         | (exfalso; simp at hb6; omega)
         | (
          try simp at hb6
          try subst hb6
          refine SW.rg fun K hK => ?_; simp -implicitDefEqProofs; repeat (refine And.intro (by clear hK; first | omega | (intros; simp_all; done) | (intros; grind)) ?_)
          refine hK _ ?_; clear hK K; refine SW.cond _ rfl (by simp) ?_ ?_
          case' refine_2 =>
           intro hb7
           first
           | (exfalso; simp at hb7; done)
           | (exfalso; simp at hb7; omega)
           | (
            try simp at hb7
            try subst hb7
            refine SW.skip ?_; refine hK1 _ ?_; refine SW.rg fun K hK => ?_; simp -implicitDefEqProofs; repeat (refine And.intro (by clear hK; first | omega | (intros; simp_all; done) | (intros; grind)) ?_)
            refine hK _ ?_; clear hK K; refine SW.ret ?_; simp [Ex.then, Ex.ib]
            all_goals first
              | (simp [objOk, inR, Int.le_sub_one_iff, Bool.and_assoc, *]; done)
              | (rw [Bool.eq_iff_iff]; simp [objOk, inR, Int.le_sub_one_iff, Bool.and_assoc, *]; done)
              | fail)
          rotate_right
          case' _ =>
           intro hb7
           first
           | (exfalso; simp at hb7; done)
           | (exfalso; simp at hb7; omega)
           | (
            try simp at hb7
            try subst hb7
            refine SW.rg fun K hK => ?_; simp -implicitDefEqProofs; repeat (refine And.intro (by clear hK; first | omega | (intros; simp_all; done) | (intros; grind)) ?_)
            refine CallK.fz (in_s _ _ _) ?_; simp -implicitDefEqProofs; repeat (refine And.intro (by clear hK; first | omega | (intros; simp_all; done) | (intros; grind)) ?_)
            refine hK _ ?_; clear hK K; refine SW.ret ?_; simp [Ex.then, Ex.ib]
            all_goals first
              | (simp [objOk, inR, Int.le_sub_one_iff, Bool.and_assoc, *]; done)
              | (rw [Bool.eq_iff_iff]; simp [objOk, inR, Int.le_sub_one_iff, Bool.and_assoc, *]; done)
              | fail))
        rotate_right
        case' _ =>
         intro hb6
         first
         | (exfalso; simp at hb6; done)
         | (exfalso; simp at hb6; omega)
         | (
          try simp at hb6
          try subst hb6
          refine SW.rg fun K hK => ?_; simp -implicitDefEqProofs; repeat (refine And.intro (by clear hK; first | omega | (intros; simp_all; done) | (intros; grind)) ?_)
          refine CallK.fz (in_s _ _ _) ?_; simp -implicitDefEqProofs; repeat (refine And.intro (by clear hK; first | omega | (intros; simp_all; done) | (intros; grind)) ?_)
          refine hK _ ?_; clear hK K; refine SW.ret ?_; simp [Ex.then, Ex.ib]
          all_goals first
            | (simp [objOk, inR, Int.le_sub_one_iff, Bool.and_assoc, *]; done)
            | (rw [Bool.eq_iff_iff]; simp [objOk, inR, Int.le_sub_one_iff, Bool.and_assoc, *]; done)
            | fail)))
     rotate_right
     case' _ =>
      intro hb4
      first
      | (exfalso; simp at hb4; done)
      | (exfalso; simp at hb4; omega)
      | (
       try simp at hb4
       try subst hb4
       refine SW.rg fun K hK => ?_; simp -implicitDefEqProofs; repeat (refine And.intro (by clear hK; first | omega | (intros; simp_all; done) | (intros; grind)) ?_)
       refine CallK.fz (in_s _ _ _) ?_; simp -implicitDefEqProofs; repeat (refine And.intro (by clear hK; first | omega | (intros; simp_all; done) | (intros; grind)) ?_)
       refine hK _ ?_; clear hK K; refine SW.ret ?_; simp [Ex.then, Ex.ib]
       all_goals first
         | (simp [objOk, inR, Int.le_sub_one_iff, Bool.and_assoc, *]; done)
         | (rw [Bool.eq_iff_iff]; simp [objOk, inR, Int.le_sub_one_iff, Bool.and_assoc, *]; done)
         | fail))
   rotate_right
   case' _ =>
    intro hb3
    first
    | (exfalso; simp at hb3; done)
    | (exfalso; simp at hb3; omega)
    | (
     try simp at hb3
     try subst hb3
     refine SW.rg fun K hK => ?_; simp -implicitDefEqProofs; repeat (refine And.intro (by clear hK; first | omega | (intros; simp_all; done) | (intros; grind)) ?_)
     refine CallK.fz (chan_s p _ h) ?_; simp -implicitDefEqProofs; repeat (refine And.intro (by clear hK; first | omega | (intros; simp_all; done) | (intros; grind)) ?_)
     refine hK _ ?_; clear hK K; refine SW.ret ?_; simp [Ex.then, Ex.ib]
     all_goals first
       | (simp [objOk, inR, Int.le_sub_one_iff, Bool.and_assoc, *]; done)
       | (rw [Bool.eq_iff_iff]; simp [objOk, inR, Int.le_sub_one_iff, Bool.and_assoc, *]; done)
       | fail))
set_option maxHeartbeats 1000000 in
theorem evIn_s (p : Prog) (d : Deed) (h : p.ok) (hm : 0 ≤ p.mus ∧ p.mus ≤ 4) : Fn Tryz.prog 51 [.agg p.fr, .agg d.cl] (.bool (evIn p d)) := by
  refine Fn.intro Tryz.func51 (by decide) rfl (rs := [.tmp 4]) rfl Tryz.ntmps51 (by simp) ?_; obtain ⟨g, op, obj, cas⟩ := d; have h1 := h.1
  have h2 := h.2.1
  have h3 := h.2.2.2.1
  refine SW.rg fun K hK => ?_; simp -implicitDefEqProofs; repeat (refine And.intro (by clear hK; first | omega | (intros; simp_all; done) | (intros; grind)) ?_)
  refine hK _ ?_; clear hK K; refine SW.seqK fun K1 hK1 => ?_; refine SW.rg fun K hK => ?_; simp -implicitDefEqProofs; repeat (refine And.intro (by clear hK; first | omega | (intros; simp_all; done) | (intros; grind)) ?_)
  first
    | refine CallQG.fzE (by simp) (fun _ => shared_s op) (by simp) ?_
    | refine CallG.fzE (by simp) (fun _ => shared_s op) (by simp) ?_
    | refine CallQ.fzE (shared_s op) (by simp) ?_
    | refine CallK.fzE (shared_s op) (by simp) ?_
  simp -implicitDefEqProofs; repeat (refine And.intro (by clear hK; first | omega | (intros; simp_all; done) | (intros; grind)) ?_)
  refine hK _ ?_; clear hK K; refine SW.cond _ rfl (by simp) ?_ ?_
  case' refine_2 =>
   intro hb1
   first
   | (exfalso; simp at hb1; done)
   | (exfalso; simp at hb1; omega)
   | (
    try simp at hb1
    try subst hb1
    refine SW.skip ?_; refine hK1 _ ?_; refine SW.seqK fun K2 hK2 => ?_; refine SW.rg fun K hK => ?_; simp -implicitDefEqProofs; repeat (refine And.intro (by clear hK; first | omega | (intros; simp_all; done) | (intros; grind)) ?_)
    first
      | refine CallQ.fzE (obj_s p ⟨g, op, obj, cas⟩ h hm) (by simp) ?_
      | refine CallK.fzE (obj_s p ⟨g, op, obj, cas⟩ h hm) (by simp) ?_
    simp -implicitDefEqProofs; repeat (refine And.intro (by clear hK; first | omega | (intros; simp_all; done) | (intros; grind)) ?_)
    refine hK _ ?_; clear hK K; refine SW.cond _ rfl (by simp) ?_ ?_
    case' refine_2 =>
     intro hb2
     first
     | (exfalso; simp at hb2; done)
     | (exfalso; simp at hb2; omega)
     | (
      try simp at hb2
      try subst hb2
      refine SW.skip ?_; refine hK2 _ ?_; refine SW.seqK fun K3 hK3 => ?_; refine SW.rg fun K hK => ?_; simp -implicitDefEqProofs; repeat (refine And.intro (by clear hK; first | omega | (intros; simp_all; done) | (intros; grind)) ?_)
      refine hK _ ?_; clear hK K; refine SW.cond _ rfl (by simp) ?_ ?_
      case' refine_2 =>
       intro hb3
       first
       | (exfalso; simp at hb3; done)
       | (exfalso; simp at hb3; omega)
       | (
        try simp at hb3
        try subst hb3
        have hA : 0 ≤ obj := by simp [objOk, inR] at hb2; omega
        have hB : obj < p.sels.length := by simp [objOk, inR] at hb2; omega
        obtain ⟨s0, hss⟩ : ∃ q, p.sels[obj.toNat]? = some q := ⟨_, List.getElem?_eq_getElem (by omega)⟩
        have hsE : ∀ h, p.sels[obj.toNat]'h = s0 := fun h => (List.getElem?_eq_some_iff.1 hss).2
        refine SW.skip ?_; refine hK3 _ ?_; refine SW.rg fun K hK => ?_; simp -implicitDefEqProofs [hA, hB, hss, hsE]; repeat (refine And.intro (by clear hK; first | omega | (intros; simp_all; done) | (intros; grind)) ?_)
        refine hK _ ?_; clear hK K; refine SW.seqK fun K4 hK4 => ?_; refine SW.rg fun K hK => ?_; simp -implicitDefEqProofs; repeat (refine And.intro (by clear hK; first | omega | (intros; simp_all; done) | (intros; grind)) ?_)
        refine hK _ ?_; clear hK K; refine SW.cond _ rfl (by simp) ?_ ?_
        case' refine_2 =>
         intro hb4
         first
         | (exfalso; simp at hb4; done)
         | (exfalso; simp at hb4; omega)
         | (
          try simp at hb4
          try subst hb4
          refine SW.skip ?_; refine hK4 _ ?_; refine SW.seqK fun K5 hK5 => ?_; refine SW.rg fun K hK => ?_; simp -implicitDefEqProofs; repeat (refine And.intro (by clear hK; first | omega | (intros; simp_all; done) | (intros; grind)) ?_)
          refine hK _ ?_; clear hK K; refine SW.cond _ rfl (by simp) ?_ ?_
          case' refine_2 =>
           intro hb5
           first
           | (exfalso; simp at hb5; done)
           | (exfalso; simp at hb5; omega)
           | (
            try simp at hb5
            try subst hb5
            refine SW.skip ?_; refine hK5 _ ?_; refine SW.rg fun K hK => ?_; simp -implicitDefEqProofs; repeat (refine And.intro (by clear hK; first | omega | (intros; simp_all; done) | (intros; grind)) ?_)
            refine hK _ ?_; clear hK K; refine SW.ret ?_; simp [Ex.then, Ex.ib]
            all_goals first
              | (simp [evIn, caseD, caseS, *]; done)
              | (simp [evIn, caseD, caseS, *]; omega)
              | (rw [Bool.eq_iff_iff]; simp [evIn, caseD, caseS, *]; done)
              | (simp only [evIn]; grind)
              | fail)
          rotate_right
          case' _ =>
           intro hb5
           first
           | (exfalso; simp at hb5; done)
           | (exfalso; simp at hb5; omega)
           | (
            try simp at hb5
            try subst hb5
            refine SW.rg fun K hK => ?_; simp -implicitDefEqProofs; repeat (refine And.intro (by clear hK; first | omega | (intros; simp_all; done) | (intros; grind)) ?_)
            refine hK _ ?_; clear hK K; refine SW.ret ?_; simp [Ex.then, Ex.ib]
            all_goals first
              | (simp [evIn, caseD, caseS, *]; done)
              | (simp [evIn, caseD, caseS, *]; omega)
              | (rw [Bool.eq_iff_iff]; simp [evIn, caseD, caseS, *]; done)
              | (simp only [evIn]; grind)
              | fail))
        rotate_right
        case' _ =>
         intro hb4
         first
         | (exfalso; simp at hb4; done)
         | (exfalso; simp at hb4; omega)
         | (
          try simp at hb4
          try subst hb4
          refine SW.rg fun K hK => ?_; simp -implicitDefEqProofs; repeat (refine And.intro (by clear hK; first | omega | (intros; simp_all; done) | (intros; grind)) ?_)
          refine hK _ ?_; clear hK K; refine SW.ret ?_; simp [Ex.then, Ex.ib]
          all_goals first
            | (simp [evIn, caseD, caseS, *]; done)
            | (simp [evIn, caseD, caseS, *]; omega)
            | (rw [Bool.eq_iff_iff]; simp [evIn, caseD, caseS, *]; done)
            | (simp only [evIn]; grind)
            | fail))
      rotate_right
      case' _ =>
       intro hb3
       first
       | (exfalso; simp at hb3; done)
       | (exfalso; simp at hb3; omega)
       | (
        try simp at hb3
        try subst hb3
        refine SW.rg fun K hK => ?_; simp -implicitDefEqProofs; repeat (refine And.intro (by clear hK; first | omega | (intros; simp_all; done) | (intros; grind)) ?_)
        refine hK _ ?_; clear hK K; refine SW.ret ?_; simp [Ex.then, Ex.ib]
        all_goals first
          | (simp [evIn, caseD, caseS, *]; done)
          | (simp [evIn, caseD, caseS, *]; omega)
          | (rw [Bool.eq_iff_iff]; simp [evIn, caseD, caseS, *]; done)
          | (simp only [evIn]; grind)
          | fail))
    rotate_right
    case' _ =>
     intro hb2
     first
     | (exfalso; simp at hb2; done)
     | (exfalso; simp at hb2; omega)
     | (
      try simp at hb2
      try subst hb2
      refine SW.rg fun K hK => ?_; simp -implicitDefEqProofs; repeat (refine And.intro (by clear hK; first | omega | (intros; simp_all; done) | (intros; grind)) ?_)
      refine hK _ ?_; clear hK K; refine SW.ret ?_; simp [Ex.then, Ex.ib]
      all_goals first
        | (simp [evIn, caseD, caseS, *]; done)
        | (simp [evIn, caseD, caseS, *]; omega)
        | (rw [Bool.eq_iff_iff]; simp [evIn, caseD, caseS, *]; done)
        | (simp only [evIn]; grind)
        | fail))
  rotate_right
  case' _ =>
   intro hb1
   first
   | (exfalso; simp at hb1; done)
   | (exfalso; simp at hb1; omega)
   | (
    try simp at hb1
    try subst hb1
    refine SW.rg fun K hK => ?_; simp -implicitDefEqProofs; repeat (refine And.intro (by clear hK; first | omega | (intros; simp_all; done) | (intros; grind)) ?_)
    refine hK _ ?_; clear hK K; refine SW.ret ?_; simp [Ex.then, Ex.ib]
    all_goals first
      | (simp [evIn, caseD, caseS, *]; done)
      | (simp [evIn, caseD, caseS, *]; omega)
      | (rw [Bool.eq_iff_iff]; simp [evIn, caseD, caseS, *]; done)
      | (simp only [evIn]; grind)
      | fail)
set_option maxHeartbeats 1000000 in
theorem evOk_i (p : Prog) (d : Deed) (h : p.ok) : Fn Tryz.prog 38 [.agg p.fr, .agg d.cl] (.bool (evOk p d)) := by
  refine Fn.intro Tryz.func38 (by decide) rfl (rs := [.tmp 4]) rfl Tryz.ntmps38 (by simp) ?_; obtain ⟨g, op, obj, cas⟩ := d; have h1 := h.1
  have h2 := h.2.1
  have h3 := h.2.2.2.1
  refine SW.rg fun K hK => ?_; simp -implicitDefEqProofs; repeat (refine And.intro (by clear hK; first | omega | (intros; simp_all; done) | (intros; grind)) ?_)
  refine hK _ ?_; clear hK K; refine SW.seqK fun K1 hK1 => ?_; refine SW.rg fun K hK => ?_; simp -implicitDefEqProofs; repeat (refine And.intro (by clear hK; first | omega | (intros; simp_all; done) | (intros; grind)) ?_)
  first
    | refine CallQ.fzE (progOk_i p h) (by simp) ?_
    | refine CallK.fzE (progOk_i p h) (by simp) ?_
  simp -implicitDefEqProofs; repeat (refine And.intro (by clear hK; first | omega | (intros; simp_all; done) | (intros; grind)) ?_)
  refine CallG.fz (by simp) (fun _ => within_ok _ _ _) ?_; simp -implicitDefEqProofs; repeat (refine And.intro (by clear hK; first | omega | (intros; simp_all; done) | (intros; grind)) ?_)
  first
    | refine CallQG.fzE (by simp) (fun _ => shared_i op) (by simp) ?_
    | refine CallG.fzE (by simp) (fun _ => shared_i op) (by simp) ?_
    | refine CallQ.fzE (shared_i op) (by simp) ?_
    | refine CallK.fzE (shared_i op) (by simp) ?_
  simp -implicitDefEqProofs; repeat (refine And.intro (by clear hK; first | omega | (intros; simp_all; done) | (intros; grind)) ?_)
  refine hK _ ?_; clear hK K; refine SW.cond _ rfl (by simp) ?_ ?_
  case' refine_2 =>
   intro hb1
   first
   | (exfalso; simp at hb1; done)
   | (exfalso; simp at hb1; omega)
   | (
    try simp at hb1
    try subst hb1
    refine SW.skip ?_; refine hK1 _ ?_; refine SW.seqK fun K2 hK2 => ?_; refine SW.rg fun K hK => ?_; simp -implicitDefEqProofs; repeat (refine And.intro (by clear hK; first | omega | (intros; simp_all; done) | (intros; grind)) ?_)
    refine hK _ ?_; clear hK K; refine SW.block ?_; refine SW.seqK fun K3 hK3 => ?_; refine SW.rg fun K hK => ?_; simp -implicitDefEqProofs
    repeat (refine And.intro (by clear hK; first | omega | (intros; simp_all; done) | (intros; grind)) ?_)
    refine hK _ ?_; clear hK K; refine SW.cond _ rfl (by simp) ?_ ?_
    case' refine_2 =>
     intro hb2
     first
     | (exfalso; simp at hb2; done)
     | (exfalso; simp at hb2; omega)
     | (
      try simp at hb2
      try subst hb2
      refine SW.rg fun K hK => ?_; simp -implicitDefEqProofs; repeat (refine And.intro (by clear hK; first | omega | (intros; simp_all; done) | (intros; grind)) ?_)
      refine hK _ ?_; clear hK K; refine SW.cond _ rfl (by simp) ?_ ?_
      case' refine_2 =>
       intro hb3
       first
       | (exfalso; simp at hb3; done)
       | (exfalso; simp at hb3; omega)
       | (
        try simp at hb3
        try subst hb3
        refine SW.regionE fun K hK => ?_; simp -implicitDefEqProofs; repeat (refine And.intro (by clear hK; first | omega | (intros; simp_all; done) | (intros; grind)) ?_)
        refine hK _ ?_
        clear hK K)
      rotate_right
      case' _ =>
       intro hb3
       first
       | (exfalso; simp at hb3; done)
       | (exfalso; simp at hb3; omega)
       | (
        try simp at hb3
        try subst hb3
        refine SW.skip ?_))
    rotate_right
    case' _ =>
     intro hb2
     first
     | (exfalso; simp at hb2; done)
     | (exfalso; simp at hb2; omega)
     | (
      try simp at hb2
      try subst hb2
      refine SW.skip ?_)
    all_goals (
     refine hK3 _ ?_; refine SW.cond _ rfl (by simp) ?_ ?_
     case' refine_2 =>
      intro hb4
      first
      | (exfalso; simp at hb4; done)
      | (exfalso; simp at hb4; omega)
      | (
       try simp at hb4
       try subst hb4
       refine SW.rg fun K hK => ?_; simp -implicitDefEqProofs; repeat (refine And.intro (by clear hK; first | omega | (intros; simp_all; done) | (intros; grind)) ?_)
       refine hK _ ?_; clear hK K; refine SW.cond _ rfl (by simp) ?_ ?_
       case' refine_2 =>
        intro hb5
        first
        | (exfalso; simp at hb5; done)
        | (exfalso; simp at hb5; omega)
        | (
         try simp at hb5
         try subst hb5
         refine SW.seqK fun K4 hK4 => ?_; refine SW.rg fun K hK => ?_; simp -implicitDefEqProofs; repeat (refine And.intro (by clear hK; first | omega | (intros; simp_all; done) | (intros; grind)) ?_)
         refine hK _ ?_; clear hK K; refine SW.cond _ rfl (by simp) ?_ ?_
         case' refine_2 =>
          intro hb6
          first
          | (exfalso; simp at hb6; done)
          | (exfalso; simp at hb6; omega)
          | (
           try simp at hb6
           try subst hb6
           refine SW.regionE fun K hK => ?_; simp -implicitDefEqProofs; repeat (refine And.intro (by clear hK; first | omega | (intros; simp_all; done) | (intros; grind)) ?_)
           refine hK _ ?_
           clear hK K)
         rotate_right
         case' _ =>
          intro hb6
          first
          | (exfalso; simp at hb6; done)
          | (exfalso; simp at hb6; omega)
          | (
           try simp at hb6
           try subst hb6
           refine SW.skip ?_)
         all_goals (
          refine hK4 _ ?_; refine SW.cond _ rfl (by simp) ?_ ?_
          case' refine_2 =>
           intro hb7
           first
           | (exfalso; simp at hb7; done)
           | (exfalso; simp at hb7; omega)
           | (
            try simp at hb7
            try subst hb7
            refine SW.rg fun K hK => ?_; simp -implicitDefEqProofs; repeat (refine And.intro (by clear hK; first | omega | (intros; simp_all; done) | (intros; grind)) ?_)
            refine hK _ ?_; clear hK K; refine SW.cond _ rfl (by simp) ?_ ?_
            case' refine_2 =>
             intro hb8
             first
             | (exfalso; simp at hb8; done)
             | (exfalso; simp at hb8; omega)
             | (
              try simp at hb8
              try subst hb8
              refine SW.skip ?_; refine hK2 _ ?_; refine SW.rg fun K hK => ?_; simp -implicitDefEqProofs; repeat (refine And.intro (by clear hK; first | omega | (intros; simp_all; done) | (intros; grind)) ?_)
              refine hK _ ?_; clear hK K; refine SW.ret ?_; simp [Ex.then, Ex.ib]
              all_goals first
                | (simp [evOk, evIn, objOk, caseD, caseS, inR, *]; done)
                | (rw [Bool.eq_iff_iff]; simp [evOk, evIn, objOk, caseD, caseS, inR, *]; done)
                | (rw [hev, caseS]; (repeat' split) <;> simp <;> omega)
                | (rw [hev, caseS, Bool.eq_iff_iff]; (repeat' split) <;> simp <;> omega)
                | (simp [evOk, evIn, objOk, inR]; intros; omega)
                | (simp only [evOk, evIn, caseD]; grind)
                | fail)
            rotate_right
            case' _ =>
             intro hb8
             first
             | (exfalso; simp at hb8; done)
             | (exfalso; simp at hb8; omega)
             | (
              try simp at hb8
              try subst hb8
              refine SW.rg fun K hK => ?_; simp -implicitDefEqProofs; repeat (refine And.intro (by clear hK; first | omega | (intros; simp_all; done) | (intros; grind)) ?_)
              refine CallK.fz (within_ok _ _ _) ?_; simp -implicitDefEqProofs; repeat (refine And.intro (by clear hK; first | omega | (intros; simp_all; done) | (intros; grind)) ?_)
              refine hK _ ?_; clear hK K; refine SW.ret ?_; simp [Ex.then, Ex.ib]
              all_goals first
                | (simp [evOk, evIn, objOk, caseD, caseS, inR, *]; done)
                | (rw [Bool.eq_iff_iff]; simp [evOk, evIn, objOk, caseD, caseS, inR, *]; done)
                | (rw [hev, caseS]; (repeat' split) <;> simp <;> omega)
                | (rw [hev, caseS, Bool.eq_iff_iff]; (repeat' split) <;> simp <;> omega)
                | (simp [evOk, evIn, objOk, inR]; intros; omega)
                | (simp only [evOk, evIn, caseD]; grind)
                | fail))
          rotate_right
          case' _ =>
           intro hb7
           first
           | (exfalso; simp at hb7; done)
           | (exfalso; simp at hb7; omega)
           | (
            try simp at hb7
            try subst hb7
            refine SW.rg fun K hK => ?_; simp -implicitDefEqProofs; repeat (refine And.intro (by clear hK; first | omega | (intros; simp_all; done) | (intros; grind)) ?_)
            refine CallK.fz (within_ok _ _ _) ?_; simp -implicitDefEqProofs; repeat (refine And.intro (by clear hK; first | omega | (intros; simp_all; done) | (intros; grind)) ?_)
            refine hK _ ?_; clear hK K; refine SW.ret ?_; simp [Ex.then, Ex.ib]
            all_goals first
              | (simp [evOk, evIn, objOk, caseD, caseS, inR, *]; done)
              | (rw [Bool.eq_iff_iff]; simp [evOk, evIn, objOk, caseD, caseS, inR, *]; done)
              | (rw [hev, caseS]; (repeat' split) <;> simp <;> omega)
              | (rw [hev, caseS, Bool.eq_iff_iff]; (repeat' split) <;> simp <;> omega)
              | (simp [evOk, evIn, objOk, inR]; intros; omega)
              | (simp only [evOk, evIn, caseD]; grind)
              | fail)))
       rotate_right
       case' _ =>
        intro hb5
        first
        | (exfalso; simp at hb5; done)
        | (exfalso; simp at hb5; omega)
        | (
         try simp at hb5
         try subst hb5
         refine SW.seqK fun K5 hK5 => ?_; refine SW.rg fun K hK => ?_; simp -implicitDefEqProofs; repeat (refine And.intro (by clear hK; first | omega | (intros; simp_all; done) | (intros; grind)) ?_)
         refine CallK.fz (within_ok _ _ _) ?_; simp -implicitDefEqProofs; repeat (refine And.intro (by clear hK; first | omega | (intros; simp_all; done) | (intros; grind)) ?_)
         refine hK _ ?_; clear hK K; refine SW.cond _ rfl (by simp) ?_ ?_
         case' refine_2 =>
          intro hb9
          first
          | (exfalso; simp at hb9; done)
          | (exfalso; simp at hb9; omega)
          | (
           try simp at hb9
           try subst hb9
           have hA : 0 ≤ obj := hb9.1
           have hB : obj < p.sels.length := hb9.2
           obtain ⟨s0, hss⟩ : ∃ q, p.sels[obj.toNat]? = some q := ⟨_, List.getElem?_eq_getElem (by omega)⟩
           have hsE : ∀ h, p.sels[obj.toNat]'h = s0 := fun h => (List.getElem?_eq_some_iff.1 hss).2
           have hels := progOk_els hb1.1.1.1 hss
           have hev : evOk p ⟨g, 11, obj, cas⟩ = caseS s0 cas := by simp [evOk, evIn, objOk, caseD, inR, hss, hsE, hA, hB, hb1.1.1.1, hb1.1.2, hb1.1.1.2.1, hb1.1.1.2.2]
           refine SW.skip ?_; refine hK5 _ ?_; refine SW.rg fun K hK => ?_; simp -implicitDefEqProofs [hA, hB, hss, hsE]; repeat (refine And.intro (by clear hK; first | omega | (intros; simp_all; done) | (intros; grind)) ?_)
           refine hK _ ?_; clear hK K; refine SW.seqK fun K6 hK6 => ?_; refine SW.rg fun K hK => ?_; simp -implicitDefEqProofs; repeat (refine And.intro (by clear hK; first | omega | (intros; simp_all; done) | (intros; grind)) ?_)
           refine hK _ ?_; clear hK K; refine SW.cond _ rfl (by simp) ?_ ?_
           case' refine_2 =>
            intro hb10
            first
            | (exfalso; simp at hb10; done)
            | (exfalso; simp at hb10; omega)
            | (
             try simp at hb10
             try subst hb10
             refine SW.skip ?_; refine hK6 _ ?_; refine SW.rg fun K hK => ?_; simp -implicitDefEqProofs; repeat (refine And.intro (by clear hK; first | omega | (intros; simp_all; done) | (intros; grind)) ?_)
             refine CallK.fz (within_ok _ _ _) ?_; simp -implicitDefEqProofs; repeat (refine And.intro (by clear hK; first | omega | (intros; simp_all; done) | (intros; grind)) ?_)
             refine hK _ ?_; clear hK K; refine SW.ret ?_; simp [Ex.then, Ex.ib]
             all_goals first
               | (simp [evOk, evIn, objOk, caseD, caseS, inR, *]; done)
               | (rw [Bool.eq_iff_iff]; simp [evOk, evIn, objOk, caseD, caseS, inR, *]; done)
               | (rw [hev, caseS]; (repeat' split) <;> simp <;> omega)
               | (rw [hev, caseS, Bool.eq_iff_iff]; (repeat' split) <;> simp <;> omega)
               | (simp [evOk, evIn, objOk, inR]; intros; omega)
               | (simp only [evOk, evIn, caseD]; grind)
               | fail)
           rotate_right
           case' _ =>
            intro hb10
            first
            | (exfalso; simp at hb10; done)
            | (exfalso; simp at hb10; omega)
            | (
             try simp at hb10
             try subst hb10
             refine SW.rg fun K hK => ?_; simp -implicitDefEqProofs; repeat (refine And.intro (by clear hK; first | omega | (intros; simp_all; done) | (intros; grind)) ?_)
             refine hK _ ?_; clear hK K; refine SW.ret ?_; simp [Ex.then, Ex.ib]
             all_goals first
               | (simp [evOk, evIn, objOk, caseD, caseS, inR, *]; done)
               | (rw [Bool.eq_iff_iff]; simp [evOk, evIn, objOk, caseD, caseS, inR, *]; done)
               | (rw [hev, caseS]; (repeat' split) <;> simp <;> omega)
               | (rw [hev, caseS, Bool.eq_iff_iff]; (repeat' split) <;> simp <;> omega)
               | (simp [evOk, evIn, objOk, inR]; intros; omega)
               | (simp only [evOk, evIn, caseD]; grind)
               | fail))
         rotate_right
         case' _ =>
          intro hb9
          first
          | (exfalso; simp at hb9; done)
          | (exfalso; simp at hb9; omega)
          | (
           try simp at hb9
           try subst hb9
           refine SW.rg fun K hK => ?_; simp -implicitDefEqProofs; repeat (refine And.intro (by clear hK; first | omega | (intros; simp_all; done) | (intros; grind)) ?_)
           refine hK _ ?_; clear hK K; refine SW.ret ?_; simp [Ex.then, Ex.ib]
           all_goals first
             | (simp [evOk, evIn, objOk, caseD, caseS, inR, *]; done)
             | (rw [Bool.eq_iff_iff]; simp [evOk, evIn, objOk, caseD, caseS, inR, *]; done)
             | (rw [hev, caseS]; (repeat' split) <;> simp <;> omega)
             | (rw [hev, caseS, Bool.eq_iff_iff]; (repeat' split) <;> simp <;> omega)
             | (simp [evOk, evIn, objOk, inR]; intros; omega)
             | (simp only [evOk, evIn, caseD]; grind)
             | fail)))
     rotate_right
     case' _ =>
      intro hb4
      first
      | (exfalso; simp at hb4; done)
      | (exfalso; simp at hb4; omega)
      | (
       try simp at hb4
       try subst hb4
       refine SW.rg fun K hK => ?_; simp -implicitDefEqProofs; repeat (refine And.intro (by clear hK; first | omega | (intros; simp_all; done) | (intros; grind)) ?_)
       refine CallK.fz (chan_i p _) ?_; simp -implicitDefEqProofs; repeat (refine And.intro (by clear hK; first | omega | (intros; simp_all; done) | (intros; grind)) ?_)
       refine hK _ ?_; clear hK K; refine SW.ret ?_; simp [Ex.then, Ex.ib]
       all_goals first
         | (simp [evOk, evIn, objOk, caseD, caseS, inR, *]; done)
         | (rw [Bool.eq_iff_iff]; simp [evOk, evIn, objOk, caseD, caseS, inR, *]; done)
         | (rw [hev, caseS]; (repeat' split) <;> simp <;> omega)
         | (rw [hev, caseS, Bool.eq_iff_iff]; (repeat' split) <;> simp <;> omega)
         | (simp [evOk, evIn, objOk, inR]; intros; omega)
         | (simp only [evOk, evIn, caseD]; grind)
         | fail)))
  rotate_right
  case' _ =>
   intro hb1
   first
   | (exfalso; simp at hb1; done)
   | (exfalso; simp at hb1; omega)
   | (
    try simp at hb1
    try subst hb1
    refine SW.rg fun K hK => ?_; simp -implicitDefEqProofs; repeat (refine And.intro (by clear hK; first | omega | (intros; simp_all; done) | (intros; grind)) ?_)
    refine hK _ ?_; clear hK K; refine SW.ret ?_; simp [Ex.then, Ex.ib]
    all_goals first
      | (simp [evOk, evIn, objOk, caseD, caseS, inR, *]; done)
      | (rw [Bool.eq_iff_iff]; simp [evOk, evIn, objOk, caseD, caseS, inR, *]; done)
      | (rw [hev, caseS]; (repeat' split) <;> simp <;> omega)
      | (rw [hev, caseS, Bool.eq_iff_iff]; (repeat' split) <;> simp <;> omega)
      | (simp [evOk, evIn, objOk, inR]; intros; omega)
      | (simp only [evOk, evIn, caseD]; grind)
      | fail)
end HT
