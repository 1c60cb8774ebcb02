import Derived.Test.YtjalahhkhcmjaaaDoorHLQ1
import Derived.Test.YtjalahhkhcmjaaaDoorG6
import Derived.Test.YtjalahhkhcmjaaaDoorHK50
/-
  My own texts (road H): HLQC.
-/
set_option linter.unusedSimpArgs false
set_option linter.unusedVariables false
namespace HT
open Go Go.Proofs HK
def itemV (i : Item) : Bool :=
  if i.kind = 1 then valOk i.v
  else if i.kind = 2 then valOk i.v && (i.ok || decide (i.v = 0))
  else if i.kind = 8 then valOk i.v && decide (i.obj = 0)
  else if i.kind = 4 then decide (-1 ≤ i.v)
  else if i.kind = 7 then decide (0 ≤ i.v)
  else if i.kind = 10 then decide (1 ≤ i.v) && decide (i.v ≤ 5) && decide (i.obj = 0)
  else if i.kind = 9 then decide (i.v = 0) && decide (i.obj = 0)
  else if i.kind = 3 ∨ i.kind = 5 ∨ i.kind = 6 then decide (i.v = 0)
  else false
def itemOk (i : Item) : Bool := decide (0 ≤ i.obj) && !(i.ok && decide (i.kind ≠ 2)) && itemV i
theorem itemOk_no {kind obj v : Int} {ok : Bool} (hb1 : (((kind < 1 ∨ 10 < kind) ∨ obj < 0) ∨ 8 ≤ kind ∧ ¬obj = 0) ∨ ok = true ∧ ¬kind = 2) : itemOk { kind := kind, obj := obj, v := v, ok := ok } = false := by
  refine Bool.eq_false_iff.2 fun h9 => ?_; simp only [itemOk, itemV, Bool.and_eq_true, decide_eq_true_eq, Bool.not_eq_true'] at h9; obtain ⟨⟨h1, h2⟩, h3⟩ := h9
  have h2' : ¬ (ok = true ∧ kind ≠ 2) := by
    intro ⟨a, b⟩; simp [a, b] at h2
  have : ¬ ((kind < 1 ∨ 10 < kind) ∨ 8 ≤ kind ∧ ¬obj = 0) := by
    intro hh; repeat' split at h3
    all_goals (try simp at h3)
    all_goals omega
  grind
theorem itemOk_kind {i : Item} (h : itemOk i = true) : i.kind = 1 ∨ i.kind = 2 ∨ i.kind = 3 ∨ i.kind = 4 ∨ i.kind = 5 ∨ i.kind = 6 ∨ i.kind = 7 ∨ i.kind = 8 ∨ i.kind = 9 ∨ i.kind = 10 := by
  obtain ⟨kind, obj, v, ok⟩ := i; by_cases hk : (kind < 1 ∨ 10 < kind)
  · rw [itemOk_no (.inl (.inl (.inl hk)))] at h; cases h
  · simp only []; omega
theorem itemOk_v {i : Item} (h : itemOk i = true) (hk : i.kind = 3 ∨ i.kind = 5 ∨ i.kind = 6 ∨ i.kind = 9) : i.v = 0 := by
  simp only [itemOk, itemV, Bool.and_eq_true] at h; have h3 := h.2
  rcases hk with hk | hk | hk | hk <;> simp [hk] at h3 <;> omega
theorem itemOk_o {i : Item} (h : itemOk i = true) (hk : 8 ≤ i.kind) : i.obj = 0 := by
  obtain ⟨kind, obj, v, ok⟩ := i; by_cases h0 : obj = 0
  · exact h0
  · rw [itemOk_no (.inl (.inr ⟨hk, h0⟩))] at h; cases h
theorem bsz (a : Array UInt8) : (⟨a⟩ : ByteArray).size = a.size := rfl
abbrev spB : ByteArray := ⟨#[32]⟩
abbrev elseB : ByteArray := ⟨#[101, 108, 115, 101]⟩
abbrev zeroB : ByteArray := ⟨#[122, 101, 114, 111]⟩
def kindsB : List ByteArray := [⟨#[115, 101, 110, 116]⟩, ⟨#[103, 111, 116]⟩, ⟨#[99, 108, 111, 115, 101, 100]⟩, ⟨#[112, 105, 99, 107, 101, 100]⟩, ⟨#[108, 111, 99, 107, 101, 100]⟩, ⟨#[117, 110, 108, 111, 99, 107, 101, 100]⟩, ⟨#[115, 112, 97, 119, 110, 101, 100]⟩, ⟨#[112, 114, 105, 110, 116, 101, 100]⟩, ⟨#[100, 111, 110, 101]⟩, ⟨#[100, 101, 97, 100]⟩]
def itW (k : Int) : ByteArray := (kindsB[(k - 1).toNat]?).getD noB
def objB (i : Item) : List ByteArray := if i.kind < 8 then [numB i.obj] else []
def valB (i : Item) : List ByteArray := if i.kind = 1 ∨ i.kind = 2 ∨ i.kind = 4 ∨ i.kind = 7 ∨ i.kind = 8 ∨ i.kind = 10 then [anyB i.v elseB] else []
def zerB (i : Item) : List ByteArray := if i.kind = 2 ∧ i.ok = false then [zeroB] else []
def itL (i : Item) : List ByteArray := itW i.kind :: (objB i ++ (valB i ++ zerB i))
def itT (i : Item) : ByteArray := if (itemOk i && isNumB i.obj && okA i.v) = true then joinB spB (itL i) else noB
theorem spZero : (⟨#[32, 122, 101, 114, 111]⟩ : ByteArray) = spB ++ zeroB := by decide
theorem itT_no {i : Item} (h : (itemOk i && isNumB i.obj && okA i.v) = false) : itT i = noB := by unfold itT; rw [if_neg (by simp [h])]
theorem itT_yes {i : Item} (h : (itemOk i && isNumB i.obj && okA i.v) = true) : itT i = joinB spB (itL i) := by unfold itT; rw [if_pos h]
theorem joinW_no {xs : List ByteArray} {sep x : ByteArray} (hx : x ∈ xs) (h : x = noB) : joinW xs sep = noB := if_neg (by intro e; have := List.all_eq_true.1 e x hx; simp [h] at this)
theorem joinW_yes {xs : List ByteArray} {sep : ByteArray} (h : ∀ x ∈ xs, ¬ x = noB) : joinW xs sep = joinB sep xs := if_pos (by simpa using h)
theorem anyB_size (n : Int) {w : ByteArray} (h : w.size ≤ 10) : (anyB n w).size ≤ 4294967296 := by
  unfold anyB; have := numB_size n
  split <;> omega
theorem anyB_emp (n : Int) {w : ByteArray} (h : ¬ w = noB) : anyB n w = noB ↔ okA n = false := by
  unfold anyB okA; by_cases h1 : n = -1
  · simp [h1, h]
  · simp [h1, numB_emp]
theorem isNum0 : isNumB 0 = true := by decide
theorem okA0 : okA 0 = true := by decide
theorem it_join {i : Item} (h : itemOk i = true) : joinW (itL i) spB = itT i := by
  have hk := itemOk_kind h
  have hw : ¬ itW i.kind = noB := by rcases hk with e | e | e | e | e | e | e | e | e | e <;> rw [e] <;> decide
  by_cases ho : isNumB i.obj = true
  · by_cases hv : okA i.v = true
    · rw [itT_yes (by simp [h, ho, hv])]
      refine joinW_yes fun x hx => ?_; have h1 : ¬ numB i.obj = noB := fun e => by have := (numB_emp _).1 e; rw [ho] at this; cases this
      have h2 : ¬ anyB i.v elseB = noB := fun e => by have := (anyB_emp i.v (w := elseB) (by decide)).1 e; rw [hv] at this; cases this
      have h3 : ¬ zeroB = noB := by decide
      simp only [itL, objB, valB, zerB, List.mem_cons, List.mem_append] at hx; rcases hx with rfl | hx | hx | hx
      · exact hw
      · split at hx <;> simp at hx; rw [hx]; exact h1
      · split at hx <;> simp at hx; rw [hx]; exact h2
      · split at hx <;> simp at hx; rw [hx]; exact h3
    · rw [itT_no (by simp [hv])]
      have hv2 : ¬ (i.kind = 3 ∨ i.kind = 5 ∨ i.kind = 6 ∨ i.kind = 9) := fun e => hv (by rw [itemOk_v h e]; exact okA0)
      refine joinW_no (x := anyB i.v elseB) ?_ ((anyB_emp i.v (by decide)).2 (by simpa using hv)); have : i.kind = 1 ∨ i.kind = 2 ∨ i.kind = 4 ∨ i.kind = 7 ∨ i.kind = 8 ∨ i.kind = 10 := by omega
      simp [itL, valB, this]
  · rw [itT_no (by simp [ho])]
    have ho2 : i.kind < 8 := by
      rcases Int.lt_or_le i.kind 8 with e | e
      · exact e
      · exact absurd (by rw [itemOk_o h e]; exact isNum0) ho
    refine joinW_no (x := numB i.obj) ?_ ((numB_emp i.obj).2 (by simpa using ho)); simp [itL, objB, ho2]
theorem itW_size (k : Int) : (itW k).size ≤ 8 := by
  unfold itW
  cases h : kindsB[(k - 1).toNat]? with
  | none => decide
  | some x =>
    have : ∀ y ∈ kindsB, y.size ≤ 8 := by decide
    exact this x (List.mem_of_getElem? h)
theorem join_size {sep : ByteArray} {C : Nat} (hs : sep.size ≤ 1) : ∀ xs : List ByteArray, (∀ x ∈ xs, x.size ≤ C) → (joinB sep xs).size ≤ xs.length * (C + 1)
  | [], _ => by show 0 ≤ _; omega
  | [x], h => by have := h x (by simp); simp only [joinB, List.length_singleton]; omega
  | x :: y :: r, h => by
    have h1 := h x (by simp)
    have h2 := join_size hs (y :: r) fun z hz => h z (List.mem_cons_of_mem _ hz)
    simp only [joinB, ByteArray.size_append, List.length_cons] at h2 ⊢; have : (r.length + 1 + 1) * (C + 1) = (r.length + 1) * (C + 1) + (C + 1) := by rw [Nat.add_mul (r.length + 1)]; omega
    omega
theorem itT_size (i : Item) : (itT i).size ≤ 17179869192 := by
  unfold itT; split
  · have hl : (itL i).length ≤ 4 := by
      simp only [itL, objB, valB, zerB, List.length_cons, List.length_append]; repeat' split
      all_goals simp
    have := join_size (sep := spB) (C := 4294967296) (by decide) (itL i) (fun x hx => by
      simp only [itL, objB, valB, zerB, List.mem_cons, List.mem_append] at hx; rcases hx with rfl | hx | hx | hx
      · have := itW_size i.kind; omega
      · split at hx <;> simp at hx; rw [hx]; exact numB_size _
      · split at hx <;> simp at hx; rw [hx]; exact anyB_size _ (by decide)
      · split at hx <;> simp at hx; rw [hx]; decide)
    have h2 : (itL i).length * (4294967296 + 1) ≤ 4 * (4294967296 + 1) := Nat.mul_le_mul_right _ hl
    omega
  · show 0 ≤ _; omega
set_option maxHeartbeats 1000000 in
theorem itemOk_i (i : Item) : Fn Tryd.prog 32 [.agg i.cl] (.bool (itemOk i)) := by
  refine Fn.intro Tryd.func32 (by decide) rfl (rs := [.tmp 2]) rfl Tryd.ntmps32 (by simp) ?_; obtain ⟨kind, obj, v, ok⟩ := i; refine SW.rg fun K hK => ?_; simp -implicitDefEqProofs
  repeat (refine And.intro (by clear hK; first | omega | (intros; simp_all; done) | (intros; grind)) ?_)
  refine hK _ ?_; clear hK K; refine SW.seqK fun K1 hK1 => ?_; refine SW.rg fun K hK => ?_; simp -implicitDefEqProofs; repeat (refine And.intro (by clear hK; first | omega | (intros; simp_all; done) | (intros; grind)) ?_)
  refine hK _ ?_; clear hK K; refine SW.cond _ rfl (by simp) ?_ ?_
  case' refine_2 =>
   intro hb1
   first
   | (exfalso; simp at hb1; done)
   | (exfalso; simp at hb1; omega)
   | (
    try simp at hb1
    try subst hb1
    refine SW.skip ?_; refine hK1 _ ?_; refine SW.seqK fun K2 hK2 => ?_; refine SW.rg fun K hK => ?_; simp -implicitDefEqProofs; repeat (refine And.intro (by clear hK; first | omega | (intros; simp_all; done) | (intros; grind)) ?_)
    refine hK _ ?_; clear hK K; refine SW.block ?_; refine SW.rg fun K hK => ?_; simp -implicitDefEqProofs; repeat (refine And.intro (by clear hK; first | omega | (intros; simp_all; done) | (intros; grind)) ?_)
    refine hK _ ?_; clear hK K; refine SW.cond _ rfl (by simp) ?_ ?_
    case' refine_2 =>
     intro hb2
     first
     | (exfalso; simp at hb2; done)
     | (exfalso; simp at hb2; omega)
     | (
      try simp at hb2
      try subst hb2
      refine SW.rg fun K hK => ?_; simp -implicitDefEqProofs; repeat (refine And.intro (by clear hK; first | omega | (intros; simp_all; done) | (intros; grind)) ?_)
      refine hK _ ?_; clear hK K; refine SW.cond _ rfl (by simp) ?_ ?_
      case' refine_2 =>
       intro hb3
       first
       | (exfalso; simp at hb3; done)
       | (exfalso; simp at hb3; omega)
       | (
        try simp at hb3
        try subst hb3
        refine SW.rg fun K hK => ?_; simp -implicitDefEqProofs; repeat (refine And.intro (by clear hK; first | omega | (intros; simp_all; done) | (intros; grind)) ?_)
        refine hK _ ?_; clear hK K; refine SW.cond _ rfl (by simp) ?_ ?_
        case' refine_2 =>
         intro hb4
         first
         | (exfalso; simp at hb4; done)
         | (exfalso; simp at hb4; omega)
         | (
          try simp at hb4
          try subst hb4
          refine SW.rg fun K hK => ?_; simp -implicitDefEqProofs; repeat (refine And.intro (by clear hK; first | omega | (intros; simp_all; done) | (intros; grind)) ?_)
          refine hK _ ?_; clear hK K; refine SW.cond _ rfl (by simp) ?_ ?_
          case' refine_2 =>
           intro hb5
           first
           | (exfalso; simp at hb5; done)
           | (exfalso; simp at hb5; omega)
           | (
            try simp at hb5
            try subst hb5
            refine SW.rg fun K hK => ?_; simp -implicitDefEqProofs; repeat (refine And.intro (by clear hK; first | omega | (intros; simp_all; done) | (intros; grind)) ?_)
            refine hK _ ?_; clear hK K; refine SW.cond _ rfl (by simp) ?_ ?_
            case' refine_2 =>
             intro hb6
             first
             | (exfalso; simp at hb6; done)
             | (exfalso; simp at hb6; omega)
             | (
              try simp at hb6
              try subst hb6
              refine SW.rg fun K hK => ?_; simp -implicitDefEqProofs; repeat (refine And.intro (by clear hK; first | omega | (intros; simp_all; done) | (intros; grind)) ?_)
              refine hK _ ?_; clear hK K; refine SW.cond _ rfl (by simp) ?_ ?_
              case' refine_2 =>
               intro hb7
               first
               | (exfalso; simp at hb7; done)
               | (exfalso; simp at hb7; omega)
               | (
                try simp at hb7
                try subst hb7
                refine SW.rg fun K hK => ?_; simp -implicitDefEqProofs; repeat (refine And.intro (by clear hK; first | omega | (intros; simp_all; done) | (intros; grind)) ?_)
                refine hK _ ?_; clear hK K; refine SW.cond _ rfl (by simp) ?_ ?_
                case' refine_2 =>
                 intro hb8
                 first
                 | (exfalso; simp at hb8; done)
                 | (exfalso; simp at hb8; omega)
                 | (
                  try simp at hb8
                  try subst hb8
                  refine SW.seqK fun K3 hK3 => ?_; refine SW.rg fun K hK => ?_; simp -implicitDefEqProofs; repeat (refine And.intro (by clear hK; first | omega | (intros; simp_all; done) | (intros; grind)) ?_)
                  refine hK _ ?_; clear hK K; refine SW.cond _ rfl (by simp) ?_ ?_
                  case' refine_2 =>
                   intro hb9
                   first
                   | (exfalso; simp at hb9; done)
                   | (exfalso; simp at hb9; omega)
                   | (
                    try simp at hb9
                    try subst hb9
                    refine SW.rg fun K hK => ?_; simp -implicitDefEqProofs; repeat (refine And.intro (by clear hK; first | omega | (intros; simp_all; done) | (intros; grind)) ?_)
                    refine hK _ ?_; clear hK K; refine SW.cond _ rfl (by simp) ?_ ?_
                    case' refine_2 =>
                     intro hb10
                     first
                     | (exfalso; simp at hb10; done)
                     | (exfalso; simp at hb10; omega)
                     | (
                      try simp at hb10
                      try subst hb10
                      refine SW.regionE fun K hK => ?_; simp -implicitDefEqProofs; repeat (refine And.intro (by clear hK; first | omega | (intros; simp_all; done) | (intros; grind)) ?_)
                      refine hK _ ?_
                      clear hK K)
                    rotate_right
                    case' _ =>
                     intro hb10
                     first
                     | (exfalso; simp at hb10; done)
                     | (exfalso; simp at hb10; omega)
                     | (
                      try simp at hb10
                      try subst hb10
                      refine SW.skip ?_))
                  rotate_right
                  case' _ =>
                   intro hb9
                   first
                   | (exfalso; simp at hb9; done)
                   | (exfalso; simp at hb9; omega)
                   | (
                    try simp at hb9
                    try subst hb9
                    refine SW.skip ?_)
                  all_goals (
                   refine hK3 _ ?_; refine SW.cond _ rfl (by simp) ?_ ?_
                   case' refine_2 =>
                    intro hb11
                    first
                    | (exfalso; simp at hb11; done)
                    | (exfalso; simp at hb11; omega)
                    | (
                     try simp at hb11
                     try subst hb11
                     refine SW.skip ?_; refine hK2 _ ?_; refine SW.rg fun K hK => ?_; simp -implicitDefEqProofs; repeat (refine And.intro (by clear hK; first | omega | (intros; simp_all; done) | (intros; grind)) ?_)
                     refine hK _ ?_; clear hK K; refine SW.ret ?_; simp [Ex.then, Ex.ib]
                     all_goals first
                       | (simp [itemOk, itemV, *]; done)
                       | (simp [itemOk, itemV]; omega)
                       | (rw [Bool.eq_iff_iff]; simp [itemOk, itemV, *]; done)
                       | (rw [Bool.eq_iff_iff]; simp [itemOk, itemV, *]; omega)
                       | (simp only [itemOk, itemV] at *; grind)
                       | exact itemOk_no hb1
                       | fail)
                   rotate_right
                   case' _ =>
                    intro hb11
                    first
                    | (exfalso; simp at hb11; done)
                    | (exfalso; simp at hb11; omega)
                    | (
                     try simp at hb11
                     try subst hb11
                     refine SW.rg fun K hK => ?_; simp -implicitDefEqProofs; repeat (refine And.intro (by clear hK; first | omega | (intros; simp_all; done) | (intros; grind)) ?_)
                     refine hK _ ?_; clear hK K; refine SW.ret ?_; simp [Ex.then, Ex.ib]
                     all_goals first
                       | (simp [itemOk, itemV, *]; done)
                       | (simp [itemOk, itemV]; omega)
                       | (rw [Bool.eq_iff_iff]; simp [itemOk, itemV, *]; done)
                       | (rw [Bool.eq_iff_iff]; simp [itemOk, itemV, *]; omega)
                       | (simp only [itemOk, itemV] at *; grind)
                       | exact itemOk_no hb1
                       | fail)))
                rotate_right
                case' _ =>
                 intro hb8
                 first
                 | (exfalso; simp at hb8; done)
                 | (exfalso; simp at hb8; omega)
                 | (
                  try simp at hb8
                  try subst hb8
                  refine SW.rg fun K hK => ?_; simp -implicitDefEqProofs; repeat (refine And.intro (by clear hK; first | omega | (intros; simp_all; done) | (intros; grind)) ?_)
                  refine hK _ ?_; clear hK K; refine SW.ret ?_; simp [Ex.then, Ex.ib]
                  all_goals first
                    | (simp [itemOk, itemV, *]; done)
                    | (simp [itemOk, itemV]; omega)
                    | (rw [Bool.eq_iff_iff]; simp [itemOk, itemV, *]; done)
                    | (rw [Bool.eq_iff_iff]; simp [itemOk, itemV, *]; omega)
                    | (simp only [itemOk, itemV] at *; grind)
                    | exact itemOk_no hb1
                    | fail))
              rotate_right
              case' _ =>
               intro hb7
               first
               | (exfalso; simp at hb7; done)
               | (exfalso; simp at hb7; omega)
               | (
                try simp at hb7
                try subst hb7
                refine SW.rg fun K hK => ?_; simp -implicitDefEqProofs; repeat (refine And.intro (by clear hK; first | omega | (intros; simp_all; done) | (intros; grind)) ?_)
                refine hK _ ?_; clear hK K; refine SW.ret ?_; simp [Ex.then, Ex.ib]
                all_goals first
                  | (simp [itemOk, itemV, *]; done)
                  | (simp [itemOk, itemV]; omega)
                  | (rw [Bool.eq_iff_iff]; simp [itemOk, itemV, *]; done)
                  | (rw [Bool.eq_iff_iff]; simp [itemOk, itemV, *]; omega)
                  | (simp only [itemOk, itemV] at *; grind)
                  | exact itemOk_no hb1
                  | fail))
            rotate_right
            case' _ =>
             intro hb6
             first
             | (exfalso; simp at hb6; done)
             | (exfalso; simp at hb6; omega)
             | (
              try simp at hb6
              try subst hb6
              refine SW.rg fun K hK => ?_; simp -implicitDefEqProofs; repeat (refine And.intro (by clear hK; first | omega | (intros; simp_all; done) | (intros; grind)) ?_)
              refine hK _ ?_; clear hK K; refine SW.ret ?_; simp [Ex.then, Ex.ib]
              all_goals first
                | (simp [itemOk, itemV, *]; done)
                | (simp [itemOk, itemV]; omega)
                | (rw [Bool.eq_iff_iff]; simp [itemOk, itemV, *]; done)
                | (rw [Bool.eq_iff_iff]; simp [itemOk, itemV, *]; omega)
                | (simp only [itemOk, itemV] at *; grind)
                | exact itemOk_no hb1
                | fail))
          rotate_right
          case' _ =>
           intro hb5
           first
           | (exfalso; simp at hb5; done)
           | (exfalso; simp at hb5; omega)
           | (
            try simp at hb5
            try subst hb5
            refine SW.rg fun K hK => ?_; simp -implicitDefEqProofs; repeat (refine And.intro (by clear hK; first | omega | (intros; simp_all; done) | (intros; grind)) ?_)
            refine hK _ ?_; clear hK K; refine SW.ret ?_; simp [Ex.then, Ex.ib]
            all_goals first
              | (simp [itemOk, itemV, *]; done)
              | (simp [itemOk, itemV]; omega)
              | (rw [Bool.eq_iff_iff]; simp [itemOk, itemV, *]; done)
              | (rw [Bool.eq_iff_iff]; simp [itemOk, itemV, *]; omega)
              | (simp only [itemOk, itemV] at *; grind)
              | exact itemOk_no hb1
              | fail))
        rotate_right
        case' _ =>
         intro hb4
         first
         | (exfalso; simp at hb4; done)
         | (exfalso; simp at hb4; omega)
         | (
          try simp at hb4
          try subst hb4
          refine SW.rg fun K hK => ?_; simp -implicitDefEqProofs; repeat (refine And.intro (by clear hK; first | omega | (intros; simp_all; done) | (intros; grind)) ?_)
          refine CallK.fz (val_i _) ?_; simp -implicitDefEqProofs; repeat (refine And.intro (by clear hK; first | omega | (intros; simp_all; done) | (intros; grind)) ?_)
          refine hK _ ?_; clear hK K; refine SW.ret ?_; simp [Ex.then, Ex.ib]
          all_goals first
            | (simp [itemOk, itemV, *]; done)
            | (simp [itemOk, itemV]; omega)
            | (rw [Bool.eq_iff_iff]; simp [itemOk, itemV, *]; done)
            | (rw [Bool.eq_iff_iff]; simp [itemOk, itemV, *]; omega)
            | (simp only [itemOk, itemV] at *; grind)
            | exact itemOk_no hb1
            | fail))
      rotate_right
      case' _ =>
       intro hb3
       first
       | (exfalso; simp at hb3; done)
       | (exfalso; simp at hb3; omega)
       | (
        try simp at hb3
        try subst hb3
        refine SW.rg fun K hK => ?_; simp -implicitDefEqProofs; repeat (refine And.intro (by clear hK; first | omega | (intros; simp_all; done) | (intros; grind)) ?_)
        refine CallK.fz (val_i _) ?_; simp -implicitDefEqProofs; repeat (refine And.intro (by clear hK; first | omega | (intros; simp_all; done) | (intros; grind)) ?_)
        refine hK _ ?_; clear hK K; refine SW.ret ?_; simp [Ex.then, Ex.ib]
        all_goals first
          | (simp [itemOk, itemV, *]; done)
          | (simp [itemOk, itemV]; omega)
          | (rw [Bool.eq_iff_iff]; simp [itemOk, itemV, *]; done)
          | (rw [Bool.eq_iff_iff]; simp [itemOk, itemV, *]; omega)
          | (simp only [itemOk, itemV] at *; grind)
          | exact itemOk_no hb1
          | fail))
    rotate_right
    case' _ =>
     intro hb2
     first
     | (exfalso; simp at hb2; done)
     | (exfalso; simp at hb2; omega)
     | (
      try simp at hb2
      try subst hb2
      refine SW.rg fun K hK => ?_; simp -implicitDefEqProofs; repeat (refine And.intro (by clear hK; first | omega | (intros; simp_all; done) | (intros; grind)) ?_)
      refine CallK.fz (val_i _) ?_; simp -implicitDefEqProofs; repeat (refine And.intro (by clear hK; first | omega | (intros; simp_all; done) | (intros; grind)) ?_)
      refine hK _ ?_; clear hK K; refine SW.ret ?_; simp [Ex.then, Ex.ib]
      all_goals first
        | (simp [itemOk, itemV, *]; done)
        | (simp [itemOk, itemV]; omega)
        | (rw [Bool.eq_iff_iff]; simp [itemOk, itemV, *]; done)
        | (rw [Bool.eq_iff_iff]; simp [itemOk, itemV, *]; omega)
        | (simp only [itemOk, itemV] at *; grind)
        | exact itemOk_no hb1
        | fail))
  rotate_right
  case' _ =>
   intro hb1
   first
   | (exfalso; simp at hb1; done)
   | (exfalso; simp at hb1; omega)
   | (
    try simp at hb1
    try subst hb1
    refine SW.rg fun K hK => ?_; simp -implicitDefEqProofs; repeat (refine And.intro (by clear hK; first | omega | (intros; simp_all; done) | (intros; grind)) ?_)
    refine hK _ ?_; clear hK K; refine SW.ret ?_; simp [Ex.then, Ex.ib]
    all_goals first
      | (simp [itemOk, itemV, *]; done)
      | (simp [itemOk, itemV]; omega)
      | (rw [Bool.eq_iff_iff]; simp [itemOk, itemV, *]; done)
      | (rw [Bool.eq_iff_iff]; simp [itemOk, itemV, *]; omega)
      | (simp only [itemOk, itemV] at *; grind)
      | exact itemOk_no hb1
      | fail)
set_option maxHeartbeats 1000000 in
theorem itemOk_s (i : Item) : Fn Tryd.prog 26 [.agg i.cl] (.bool (itemOk i)) := by
  refine Fn.intro Tryd.func26 (by decide) rfl (rs := [.tmp 2]) rfl Tryd.ntmps26 (by simp) ?_; obtain ⟨kind, obj, v, ok⟩ := i; refine SW.rg fun K hK => ?_; simp -implicitDefEqProofs
  repeat (refine And.intro (by clear hK; first | omega | (intros; simp_all; done) | (intros; grind)) ?_)
  refine hK _ ?_; clear hK K; refine SW.seqK fun K1 hK1 => ?_; refine SW.rg fun K hK => ?_; simp -implicitDefEqProofs; repeat (refine And.intro (by clear hK; first | omega | (intros; simp_all; done) | (intros; grind)) ?_)
  refine hK _ ?_; clear hK K; refine SW.cond _ rfl (by simp) ?_ ?_
  case' refine_2 =>
   intro hb1
   first
   | (exfalso; simp at hb1; done)
   | (exfalso; simp at hb1; omega)
   | (
    try simp at hb1
    try subst hb1
    refine SW.skip ?_; refine hK1 _ ?_; refine SW.seqK fun K2 hK2 => ?_; refine SW.rg fun K hK => ?_; simp -implicitDefEqProofs; repeat (refine And.intro (by clear hK; first | omega | (intros; simp_all; done) | (intros; grind)) ?_)
    refine hK _ ?_; clear hK K; refine SW.block ?_; refine SW.seqK fun K3 hK3 => ?_; refine SW.rg fun K hK => ?_; simp -implicitDefEqProofs
    repeat (refine And.intro (by clear hK; first | omega | (intros; simp_all; done) | (intros; grind)) ?_)
    refine hK _ ?_; clear hK K; refine SW.cond _ rfl (by simp) ?_ ?_
    case' refine_2 =>
     intro hb2
     first
     | (exfalso; simp at hb2; done)
     | (exfalso; simp at hb2; omega)
     | (
      try simp at hb2
      try subst hb2
      refine SW.regionE fun K hK => ?_; simp -implicitDefEqProofs; repeat (refine And.intro (by clear hK; first | omega | (intros; simp_all; done) | (intros; grind)) ?_)
      refine hK _ ?_
      clear hK K)
    rotate_right
    case' _ =>
     intro hb2
     first
     | (exfalso; simp at hb2; done)
     | (exfalso; simp at hb2; omega)
     | (
      try simp at hb2
      try subst hb2
      refine SW.skip ?_)
    all_goals (
     refine hK3 _ ?_; refine SW.cond _ rfl (by simp) ?_ ?_
     case' refine_2 =>
      intro hb3
      first
      | (exfalso; simp at hb3; done)
      | (exfalso; simp at hb3; omega)
      | (
       try simp at hb3
       try subst hb3
       refine SW.rg fun K hK => ?_; simp -implicitDefEqProofs; repeat (refine And.intro (by clear hK; first | omega | (intros; simp_all; done) | (intros; grind)) ?_)
       refine hK _ ?_; clear hK K; refine SW.cond _ rfl (by simp) ?_ ?_
       case' refine_2 =>
        intro hb4
        first
        | (exfalso; simp at hb4; done)
        | (exfalso; simp at hb4; omega)
        | (
         try simp at hb4
         try subst hb4
         refine SW.rg fun K hK => ?_; simp -implicitDefEqProofs; repeat (refine And.intro (by clear hK; first | omega | (intros; simp_all; done) | (intros; grind)) ?_)
         refine hK _ ?_; clear hK K; refine SW.cond _ rfl (by simp) ?_ ?_
         case' refine_2 =>
          intro hb5
          first
          | (exfalso; simp at hb5; done)
          | (exfalso; simp at hb5; omega)
          | (
           try simp at hb5
           try subst hb5
           refine SW.rg fun K hK => ?_; simp -implicitDefEqProofs; repeat (refine And.intro (by clear hK; first | omega | (intros; simp_all; done) | (intros; grind)) ?_)
           refine hK _ ?_; clear hK K; refine SW.cond _ rfl (by simp) ?_ ?_
           case' refine_2 =>
            intro hb6
            first
            | (exfalso; simp at hb6; done)
            | (exfalso; simp at hb6; omega)
            | (
             try simp at hb6
             try subst hb6
             refine SW.rg fun K hK => ?_; simp -implicitDefEqProofs; repeat (refine And.intro (by clear hK; first | omega | (intros; simp_all; done) | (intros; grind)) ?_)
             refine hK _ ?_; clear hK K; refine SW.cond _ rfl (by simp) ?_ ?_
             case' refine_2 =>
              intro hb7
              first
              | (exfalso; simp at hb7; done)
              | (exfalso; simp at hb7; omega)
              | (
               try simp at hb7
               try subst hb7
               refine SW.skip ?_; refine hK2 _ ?_; refine SW.rg fun K hK => ?_; simp -implicitDefEqProofs; repeat (refine And.intro (by clear hK; first | omega | (intros; simp_all; done) | (intros; grind)) ?_)
               refine hK _ ?_; clear hK K; refine SW.ret ?_; simp [Ex.then, Ex.ib]
               all_goals first
                 | (simp [itemOk, itemV, *]; done)
                 | (simp [itemOk, itemV]; omega)
                 | (rw [Bool.eq_iff_iff]; simp [itemOk, itemV, *]; done)
                 | (rw [Bool.eq_iff_iff]; simp [itemOk, itemV, *]; omega)
                 | (simp only [itemOk, itemV] at *; grind)
                 | exact itemOk_no hb1
                 | fail)
             rotate_right
             case' _ =>
              intro hb7
              first
              | (exfalso; simp at hb7; done)
              | (exfalso; simp at hb7; omega)
              | (
               try simp at hb7
               try subst hb7
               refine SW.rg fun K hK => ?_; simp -implicitDefEqProofs; repeat (refine And.intro (by clear hK; first | omega | (intros; simp_all; done) | (intros; grind)) ?_)
               refine hK _ ?_; clear hK K; refine SW.ret ?_; simp [Ex.then, Ex.ib]
               all_goals first
                 | (simp [itemOk, itemV, *]; done)
                 | (simp [itemOk, itemV]; omega)
                 | (rw [Bool.eq_iff_iff]; simp [itemOk, itemV, *]; done)
                 | (rw [Bool.eq_iff_iff]; simp [itemOk, itemV, *]; omega)
                 | (simp only [itemOk, itemV] at *; grind)
                 | exact itemOk_no hb1
                 | fail))
           rotate_right
           case' _ =>
            intro hb6
            first
            | (exfalso; simp at hb6; done)
            | (exfalso; simp at hb6; omega)
            | (
             try simp at hb6
             try subst hb6
             refine SW.rg fun K hK => ?_; simp -implicitDefEqProofs; repeat (refine And.intro (by clear hK; first | omega | (intros; simp_all; done) | (intros; grind)) ?_)
             refine hK _ ?_; clear hK K; refine SW.ret ?_; simp [Ex.then, Ex.ib]
             all_goals first
               | (simp [itemOk, itemV, *]; done)
               | (simp [itemOk, itemV]; omega)
               | (rw [Bool.eq_iff_iff]; simp [itemOk, itemV, *]; done)
               | (rw [Bool.eq_iff_iff]; simp [itemOk, itemV, *]; omega)
               | (simp only [itemOk, itemV] at *; grind)
               | exact itemOk_no hb1
               | fail))
         rotate_right
         case' _ =>
          intro hb5
          first
          | (exfalso; simp at hb5; done)
          | (exfalso; simp at hb5; omega)
          | (
           try simp at hb5
           try subst hb5
           refine SW.rg fun K hK => ?_; simp -implicitDefEqProofs; repeat (refine And.intro (by clear hK; first | omega | (intros; simp_all; done) | (intros; grind)) ?_)
           refine hK _ ?_; clear hK K; refine SW.ret ?_; simp [Ex.then, Ex.ib]
           all_goals first
             | (simp [itemOk, itemV, *]; done)
             | (simp [itemOk, itemV]; omega)
             | (rw [Bool.eq_iff_iff]; simp [itemOk, itemV, *]; done)
             | (rw [Bool.eq_iff_iff]; simp [itemOk, itemV, *]; omega)
             | (simp only [itemOk, itemV] at *; grind)
             | exact itemOk_no hb1
             | fail))
       rotate_right
       case' _ =>
        intro hb4
        first
        | (exfalso; simp at hb4; done)
        | (exfalso; simp at hb4; omega)
        | (
         try simp at hb4
         try subst hb4
         refine SW.rg fun K hK => ?_; simp -implicitDefEqProofs; repeat (refine And.intro (by clear hK; first | omega | (intros; simp_all; done) | (intros; grind)) ?_)
         refine CallK.fz (val_s _) ?_; simp -implicitDefEqProofs; repeat (refine And.intro (by clear hK; first | omega | (intros; simp_all; done) | (intros; grind)) ?_)
         refine hK _ ?_; clear hK K; refine SW.ret ?_; simp [Ex.then, Ex.ib]
         all_goals first
           | (simp [itemOk, itemV, *]; done)
           | (simp [itemOk, itemV]; omega)
           | (rw [Bool.eq_iff_iff]; simp [itemOk, itemV, *]; done)
           | (rw [Bool.eq_iff_iff]; simp [itemOk, itemV, *]; omega)
           | (simp only [itemOk, itemV] at *; grind)
           | exact itemOk_no hb1
           | fail))
     rotate_right
     case' _ =>
      intro hb3
      first
      | (exfalso; simp at hb3; done)
      | (exfalso; simp at hb3; omega)
      | (
       try simp at hb3
       try subst hb3
       refine SW.rg fun K hK => ?_; simp -implicitDefEqProofs; repeat (refine And.intro (by clear hK; first | omega | (intros; simp_all; done) | (intros; grind)) ?_)
       refine CallK.fz (val_s _) ?_; simp -implicitDefEqProofs; repeat (refine And.intro (by clear hK; first | omega | (intros; simp_all; done) | (intros; grind)) ?_)
       refine hK _ ?_; clear hK K; refine SW.ret ?_; simp [Ex.then, Ex.ib]
       all_goals first
         | (simp [itemOk, itemV, *]; done)
         | (simp [itemOk, itemV]; omega)
         | (rw [Bool.eq_iff_iff]; simp [itemOk, itemV, *]; done)
         | (rw [Bool.eq_iff_iff]; simp [itemOk, itemV, *]; omega)
         | (simp only [itemOk, itemV] at *; grind)
         | exact itemOk_no hb1
         | fail)))
  rotate_right
  case' _ =>
   intro hb1
   first
   | (exfalso; simp at hb1; done)
   | (exfalso; simp at hb1; omega)
   | (
    try simp at hb1
    try subst hb1
    refine SW.rg fun K hK => ?_; simp -implicitDefEqProofs; repeat (refine And.intro (by clear hK; first | omega | (intros; simp_all; done) | (intros; grind)) ?_)
    refine hK _ ?_; clear hK K; refine SW.ret ?_; simp [Ex.then, Ex.ib]
    all_goals first
      | (simp [itemOk, itemV, *]; done)
      | (simp [itemOk, itemV]; omega)
      | (rw [Bool.eq_iff_iff]; simp [itemOk, itemV, *]; done)
      | (rw [Bool.eq_iff_iff]; simp [itemOk, itemV, *]; omega)
      | (simp only [itemOk, itemV] at *; grind)
      | exact itemOk_no hb1
      | fail)
end HT
