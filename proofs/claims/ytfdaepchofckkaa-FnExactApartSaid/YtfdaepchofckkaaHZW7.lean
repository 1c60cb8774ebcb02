import Derived.Test.YtfdaepchofckkaaHZW5
/-
  My own texts (road H): HZW7.
-/
set_option linter.unusedSimpArgs false
set_option linter.unusedVariables false
namespace HT
open Go Go.Proofs HK
structure Fl where
  v : Bool
deriving DecidableEq
@[simp] def Fl.cl (d : Fl) : List AV := [.bool d.v]
def FlS (l : List Fl) : List (List AV) := l.map Fl.cl
@[simp] theorem FlS_length (l : List Fl) : (FlS l).length = l.length := by simp [FlS]
@[simp] theorem FlS_get (l : List Fl) (k : Nat) : (FlS l)[k]? = (l[k]?).map Fl.cl := by simp [FlS]
@[simp] theorem FlS_getE (l : List Fl) (k : Nat) (h : k < (FlS l).length) : (FlS l)[k] = Fl.cl (l[k]'(by simpa using h)) := by simp [FlS]
@[simp] theorem FlS_take (l : List Fl) : List.take l.length (FlS l) = FlS l := by
  have := List.take_length (l := FlS l)
  rwa [FlS_length] at this
@[simp] theorem FlS_nil : FlS [] = [] := rfl
theorem FlS_app (a b : List Fl) : FlS (a ++ b) = FlS a ++ FlS b := by simp [FlS]
theorem FlS_takeN (l : List Fl) (k : Nat) : (FlS l).take k = FlS (l.take k) := by simp [FlS, List.map_take]
theorem FlS_dropN (l : List Fl) (k : Nat) : (FlS l).drop k = FlS (l.drop k) := by simp [FlS, List.map_drop]
theorem FlS_len {l : List Fl} {e : List AV} (h : e ∈ FlS l) : e.length = 1 := by
  obtain ⟨d, _, rfl⟩ := List.mem_map.1 h
  rfl
theorem FlS_lenG (l : List Fl) (k : Nat) (h : k < l.length) : ((Option.map Fl.cl l[k]?).getD []).length = 1 := by simp [h]
@[simp] theorem FlS_ren (l : List Fl) (ids : List Nat) (d : Nat) : (FlS l).map (List.map (renN ids (d + 1))) = FlS l := by
  simp [FlS, Function.comp_def]
@[simp] theorem FlS_low (n : Nat) (l : List Fl) : lowEs n (FlS l) = true := by
  simp [lowEs, FlS]
@[simp] theorem FlS_lowT (n : Nat) (l : List Fl) (k : Nat) : lowEs n ((FlS l).take k) = true := lowEs_take (FlS_low n l) k
@[simp] theorem FlS_str (d : Nat) (l : List Fl) : ((FlS l).all fun e => e.all (strN (d + 1))) = true := by
  simp [FlS, -strN, strS_int, strS_bool]
theorem FlS_okI (l : List Fl) : okI (.own 1 (FlS l)) = true := by
  simp [okI]
@[simp] theorem FlS_view (l : List Fl) (h : Heap) (d : Nat) : (FlS l).map (List.map (viewN h (d + 1))) = FlS l := by
  simp [FlS, FlS, Function.comp_def]
/-! ### lists of flags -/
def fl (n : Nat) (f : Nat → Bool) : List Fl := (List.range n).map fun j => ⟨f j⟩
@[simp] theorem fl_len (n : Nat) (f : Nat → Bool) : (fl n f).length = n := by simp [fl]
theorem fl_get {n j : Nat} (f : Nat → Bool) (h : j < n) : (fl n f)[j]? = some ⟨f j⟩ := by simp [fl, h]
@[simp] theorem fl_getE (n j : Nat) (f : Nat → Bool) (h : j < (fl n f).length) : (fl n f)[j] = ⟨f j⟩ := by simp [fl]
theorem fl_ext {n : Nat} {f g : Nat → Bool} (h : ∀ j, j < n → f j = g j) : fl n f = fl n g := by
  refine List.ext_getElem? fun j => ?_
  rcases Nat.lt_or_ge j n with hj | hj
  · rw [fl_get f hj, fl_get g hj, h j hj]
  · rw [List.getElem?_eq_none (by simpa using hj), List.getElem?_eq_none (by simpa using hj)]
theorem fl_set {n k : Nat} (f : Nat → Bool) (b : Bool) : (fl n f).set k ⟨b⟩ = fl n fun x => if x = k then b else f x := by
  refine List.ext_getElem? fun j => ?_
  rw [List.getElem?_set, fl_len]
  rcases Nat.lt_or_ge j n with hj | hj
  · rw [fl_get f hj, fl_get _ hj]
    split
    · rename_i e; subst e; simp [hj]
    · rename_i e; rw [if_neg (fun q => e q.symm)]
  · rw [List.getElem?_eq_none (l := fl n f) (by simpa using hj), List.getElem?_eq_none (l := fl n _) (by simpa using hj)]
    split
    · rename_i e; subst e; rw [if_neg (by omega)]
    · rfl
theorem FlS_set (l : List Fl) (k : Nat) (b : Bool) : (FlS l).set k [.bool b] = FlS (l.set k ⟨b⟩) := by simp [FlS, List.map_set]
theorem FlS_put {n k : Nat} (f : Nat → Bool) (b : Bool) : (FlS (fl n f)).set k [.bool b] = FlS (fl n fun x => if x = k then b else f x) := by rw [FlS_set, fl_set]
theorem fl_rep (n : Nat) : List.replicate n [AV.bool false] = FlS (fl n fun _ => false) := by
  refine List.ext_getElem? fun j => ?_
  rw [FlS_get]
  rcases Nat.lt_or_ge j n with hj | hj
  · rw [fl_get _ hj]; simp [hj]
  · rw [List.getElem?_eq_none (l := fl n _) (by simpa using hj), List.getElem?_eq_none (by simpa using hj)]; rfl
theorem fl_init (n i : Nat) : (List.replicate n [AV.bool false]).set i [AV.bool true] = FlS (fl n fun j => j == i) := by
  rw [fl_rep, FlS_put]
  have e : (fun x => if x = i then true else false) = fun j => j == i := by
    funext j
    by_cases e : j = i <;> simp [e]
  rw [e]
theorem FlS_strM (l : List Fl) : ∀ x ∈ FlS l, ∀ y ∈ x, strN 4 y = true := fun x hx y hy => by
  obtain ⟨d, _, rfl⟩ := List.mem_map.1 hx
  simp at hy
  subst hy; rfl
/-! ### what must come ahead -/
structure AH (p : Prog) (l : List Deed) (i c : Nat) (f : Nat → Bool) : Prop where
  le : ∀ j, f j = true → j ≤ i
  me : f i = true
  go : ahGo p l c f = aheadF p l i
theorem AH.init (p : Prog) (l : List Deed) (i : Nat) : AH p l i (i + 1) (fun j => j == i) := ⟨fun j h => by simp at h; omega, by simp, rfl⟩
theorem ahStep_n {p : Prog} {l : List Deed} {k : Nat} {f : Nat → Bool} (h : f k = false) : ahStep p l k f = f := by unfold ahStep; rw [h]; rfl
theorem ahStep_y {p : Prog} {l : List Deed} {k : Nat} {f : Nat → Bool} (h : f k = true) : ahStep p l k f = fun j => f j || (decide (j < k) && mt p l j k) := by unfold ahStep; rw [h]; rfl
theorem AH.step {p : Prog} {l : List Deed} {i k : Nat} {f : Nat → Bool} (h : AH p l i (k + 1) f) (hk : k ≤ i) : AH p l i k (ahStep p l k f) := by
  refine ⟨fun j hj => ?_, ?_, h.go⟩
  · cases e : f k with
    | false => rw [ahStep_n e] at hj; exact h.le j hj
    | true =>
      rw [ahStep_y e] at hj
      simp at hj
      rcases hj with hj | hj
      · exact h.le j hj
      · omega
  · cases e : f k with
    | false => rw [ahStep_n e]; exact h.me
    | true => rw [ahStep_y e]; simp [h.me]
theorem AH.skip {p : Prog} {l : List Deed} {i k : Nat} {f : Nat → Bool} (h : AH p l i (k + 1) f) (hk : k ≤ i) (e : f k = false) : AH p l i k f := by
  have := h.step hk
  rwa [ahStep_n e] at this
theorem AH.fin {p : Prog} {l : List Deed} {i : Nat} {f : Nat → Bool} (h : AH p l i 0 f) : f = aheadF p l i := h.go
theorem mem_needsN {p : Prog} {l : List Deed} {k j : Nat} : j ∈ needsN p l k ↔ j < k ∧ mt p l j k = true := by simp [needsN]
theorem ah_list {p : Prog} {l : List Deed} {k : Nat} {f : Nat → Bool} (h : f k = true) : (fun x => f x || decide (x ∈ needsN p l k)) = ahStep p l k f := by
  rw [ahStep_y h]
  funext j
  congr 1
  rw [Bool.eq_iff_iff]
  simp [mem_needsN]
theorem ah_take {N : List Nat} {f : Nat → Bool} {j y : Nat} (h : N[j]? = some y) : (fun x => if x = y then true else (f x || decide (x ∈ N.take j))) = fun x => f x || decide (x ∈ N.take (j + 1)) := by
  funext x
  rw [List.take_add_one, h]
  by_cases e : x = y
  · simp [e]
  · rw [if_neg e]; simp [e]
theorem ah_part {p : Prog} {l : List Deed} {f : Nat → Bool} {j k : Nat} {b : Bool} (h : b = (f j || mt p l j k)) : (fun x => if x = j then b else (f x || (decide (x < j) && mt p l x k))) = fun x => f x || (decide (x < j + 1) && mt p l x k) := by
  funext x
  by_cases e : x = j
  · subst e; simp [h]
  · rw [if_neg e]
    congr 2
    rw [Bool.eq_iff_iff]; simp; omega
theorem ahead_out {p : Prog} {l : List Deed} {n : Int} (h : inL l n = false) : ahead p l n = [] := by simp [ahead, h]
theorem ahead_len (p : Prog) (l : List Deed) (n : Int) : (ahead p l n).length ≤ l.length := by
  unfold ahead
  split
  · rename_i h
    simp [inL] at h
    have := filter_len (aheadF p l n.toNat) n.toNat
    rw [natI_len]
    unfold aheadN
    omega
  · simp
theorem natI_get {l : List Nat} {k y : Nat} (h : l[k]? = some y) : (natI l)[k]? = some (y : Int) := by simp [natI, h]
/-- Seen from the whole list. -/
theorem ahead_all {p : Prog} {l : List Deed} {i n : Nat} (h : AH p l i 0 (aheadF p l i)) (hi : i < n) : (List.range n).filter (fun j => aheadF p l i j && !(j == i)) = aheadN p l i := by
  obtain ⟨d, rfl⟩ : ∃ d, n = i + d := ⟨n - i, by omega⟩
  have e1 : ∀ d, (List.range (i + d)).filter (fun j => aheadF p l i j && !(j == i)) = (List.range i).filter (fun j => aheadF p l i j && !(j == i)) := by
    intro d
    induction d with
    | zero => rfl
    | succ d ih =>
      have e : i + (d + 1) = (i + d) + 1 := by omega
      rw [e, filter_step, ih]
      have : (aheadF p l i (i + d) && !(i + d == i)) = false := by
        cases hf : aheadF p l i (i + d) with
        | false => rfl
        | true =>
          have := h.le _ hf
          simp; omega
      rw [this]; simp
  rw [e1]
  unfold aheadN
  refine List.filter_congr fun j hj => ?_
  have : j < i := List.mem_range.1 hj
  have h2 : (j == i) = false := by simp; omega
  rw [h2]; simp
set_option maxHeartbeats 1000000 in
theorem aheadN_s (p : Prog) (l : List Deed) (n : Int) (h : p.ok) (hl : l.length ≤ 1048576) (hin : inL l n = false) : Fn Try.prog 17 [.agg p.fr, .fz (DeedS l), .int .i64 n] (.own 1 (IntS (ahead p l n))) := by
  refine Fn.intro Try.func17 (by decide) rfl (rs := [.tmp 6]) rfl Try.ntmps17 (by simp) ?_
  refine SW.regionK fun K hK => ?_
  simp -implicitDefEqProofs
  repeat (refine And.intro (by clear hK; first | omega | (intros; simp_all; done) | (intros; grind)) ?_)
  refine hK _ ?_
  clear hK K
  refine SW.regionK fun K hK => ?_
  simp -implicitDefEqProofs
  repeat (refine And.intro (by clear hK; first | omega | (intros; simp_all; done) | (intros; grind)) ?_)
  refine hK _ ?_
  clear hK K
  refine SW.seqK fun K1 hK1 => ?_
  refine SW.regionK fun K hK => ?_
  simp -implicitDefEqProofs [hin]
  repeat (refine And.intro (by clear hK; first | omega | (intros; simp_all; done) | (intros; grind)) ?_)
  first
    | refine CallQ.fzE (inl_s l n) (by simp) ?_
    | refine CallK.fzE (inl_s l n) (by simp) ?_
  simp -implicitDefEqProofs [hin]
  repeat (refine And.intro (by clear hK; first | omega | (intros; simp_all; done) | (intros; grind)) ?_)
  refine hK _ ?_
  clear hK K
  refine SW.cond _ rfl (by simp) ?_ ?_
  case' refine_2 =>
   intro hb1
   first
   | (exfalso; simp at hb1; done)
   | (exfalso; simp at hb1; omega)
   | (
    refine SW.skip ?_
    refine hK1 _ ?_
    refine SW.regionK fun K hK => ?_
    simp -implicitDefEqProofs
    repeat (refine And.intro (by clear hK; first | omega | (intros; simp_all; done) | (intros; grind)) ?_)
    refine hK _ ?_
    clear hK K
    refine SW.regionK fun K hK => ?_
    simp -implicitDefEqProofs
    repeat (refine And.intro (by clear hK; first | omega | (intros; simp_all; done) | (intros; grind)) ?_)
    refine hK _ ?_
    clear hK K
    refine SW.seqK fun K2 hK2 => ?_
    refine SW.regionK fun K hK => ?_
    simp -implicitDefEqProofs
    repeat (refine And.intro (by clear hK; first | omega | (intros; simp_all; done) | (intros; grind)) ?_)
    refine hK _ ?_
    clear hK K
    refine SW.block ?_
    refine SW.loop (α := Nat) (fun k => ⟨[], []⟩) (fun k => True) (fun k => 0) (0) ?_ ?_ (fun k hx => ?_)
    case' refine_1 =>
     simp
    case' refine_2 =>
     fail
    case' refine_3 =>
     skip
     refine SW.seqK fun K3 hK3 => ?_
     refine SW.regionK fun K hK => ?_
     simp -implicitDefEqProofs
     repeat (refine And.intro (by clear hK; first | omega | (intros; simp_all; done) | (intros; grind)) ?_)
     refine hK _ ?_
     clear hK K
     refine SW.cond _ rfl (by simp) ?_ ?_
     case' refine_2 =>
      intro hb2
      first
      | (exfalso; simp at hb2; done)
      | (exfalso; simp at hb2; omega)
      | (
       refine SW.exit ?_
       simp only [Ex.then, Ex.inBlock]
       try simp only [if_true, if_false, reduceIte]
       refine hK2 _ ?_
       refine SW.seqK fun K4 hK4 => ?_
       refine SW.regionK fun K hK => ?_
       simp -implicitDefEqProofs
       repeat (refine And.intro (by clear hK; first | omega | (intros; simp_all; done) | (intros; grind)) ?_)
       refine hK _ ?_
       clear hK K
       refine SW.block ?_
       refine SW.loop (α := Nat) (fun k => ⟨[], []⟩) (fun k => True) (fun k => 0) (0) ?_ ?_ (fun k hx => ?_)
       case' refine_1 =>
        simp
       case' refine_2 =>
        fail
       case' refine_3 =>
        skip
        refine SW.seqK fun K5 hK5 => ?_
        refine SW.regionK fun K hK => ?_
        simp -implicitDefEqProofs
        repeat (refine And.intro (by clear hK; first | omega | (intros; simp_all; done) | (intros; grind)) ?_)
        refine hK _ ?_
        clear hK K
        refine SW.cond _ rfl (by simp) ?_ ?_
        case' refine_2 =>
         intro hb3
         first
         | (exfalso; simp at hb3; done)
         | (exfalso; simp at hb3; omega)
         | (
          refine SW.exit ?_
          simp only [Ex.then, Ex.inBlock]
          try simp only [if_true, if_false, reduceIte]
          refine hK4 _ ?_
          refine SW.regionK fun K hK => ?_
          simp -implicitDefEqProofs
          repeat (refine And.intro (by clear hK; first | omega | (intros; simp_all; done) | (intros; grind)) ?_)
          refine hK _ ?_
          clear hK K
          refine SW.ret ?_
          simp [Ex.then, Ex.inBlock, -strN]
          all_goals (rw [ahead_out hin]; rfl))
        rotate_right
        case' _ =>
         intro hb3
         first
         | (exfalso; simp at hb3; done)
         | (exfalso; simp at hb3; omega)
         | (
          refine SW.skip ?_
          refine hK5 _ ?_
          refine SW.seqK fun K6 hK6 => ?_
          refine SW.block ?_
          refine SW.regionK fun K hK => ?_
          simp -implicitDefEqProofs
          repeat (refine And.intro (by clear hK; first | omega | (intros; simp_all; done) | (intros; grind)) ?_)
          refine hK _ ?_
          clear hK K
          refine SW.cond _ rfl (by simp) ?_ ?_
          case' refine_2 =>
           intro hb4
           first
           | (exfalso; simp at hb4; done)
           | (exfalso; simp at hb4; omega)
           | (
            refine SW.skip ?_)
          rotate_right
          case' _ =>
           intro hb4
           first
           | (exfalso; simp at hb4; done)
           | (exfalso; simp at hb4; omega)
           | (
            refine SW.regionE fun K hK => ?_
            simp -implicitDefEqProofs
            repeat (refine And.intro (by clear hK; first | omega | (intros; simp_all; done) | (intros; grind)) ?_)
            refine hK _ ?_
            clear hK K)
          all_goals (
           refine hK6 _ ?_
           refine SW.regionE fun K hK => ?_
           simp -implicitDefEqProofs
           repeat (refine And.intro (by clear hK; first | omega | (intros; simp_all; done) | (intros; grind)) ?_)
           refine hK _ ?_
           clear hK K
           fail)))
     rotate_right
     case' _ =>
      intro hb2
      first
      | (exfalso; simp at hb2; done)
      | (exfalso; simp at hb2; omega)
      | (
       refine SW.skip ?_
       refine hK3 _ ?_
       refine SW.seqK fun K7 hK7 => ?_
       refine SW.block ?_
       refine SW.seqK fun K8 hK8 => ?_
       refine SW.regionK fun K hK => ?_
       simp -implicitDefEqProofs
       repeat (refine And.intro (by clear hK; first | omega | (intros; simp_all; done) | (intros; grind)) ?_)
       refine hK _ ?_
       clear hK K
       refine SW.cond _ rfl (by simp) ?_ ?_
       case' refine_2 =>
        intro hb5
        first
        | (exfalso; simp at hb5; done)
        | (exfalso; simp at hb5; omega)
        | (
         refine SW.skip ?_
         refine hK8 _ ?_
         refine SW.regionK fun K hK => ?_
         simp -implicitDefEqProofs
         repeat (refine And.intro (by clear hK; first | omega | (intros; simp_all; done) | (intros; grind)) ?_)
         fail
         simp -implicitDefEqProofs
         repeat (refine And.intro (by clear hK; first | omega | (intros; simp_all; done) | (intros; grind)) ?_)
         refine hK _ ?_
         clear hK K
         refine SW.block ?_
         refine SW.loop (α := Nat) (fun k => ⟨[], []⟩) (fun k => True) (fun k => 0) (0) ?_ ?_ (fun k hx => ?_)
         case' refine_1 =>
          simp
         case' refine_2 =>
          fail
         case' refine_3 =>
          skip
          refine SW.regionK fun K hK => ?_
          simp -implicitDefEqProofs
          repeat (refine And.intro (by clear hK; first | omega | (intros; simp_all; done) | (intros; grind)) ?_)
          refine hK _ ?_
          clear hK K
          refine SW.seqK fun K9 hK9 => ?_
          refine SW.cond _ rfl (by simp) ?_ ?_
          case' refine_2 =>
           intro hb6
           first
           | (exfalso; simp at hb6; done)
           | (exfalso; simp at hb6; omega)
           | (
            refine SW.exit ?_
            simp only [Ex.then, Ex.inBlock]
            try simp only [if_true, if_false, reduceIte])
          rotate_right
          case' _ =>
           intro hb6
           first
           | (exfalso; simp at hb6; done)
           | (exfalso; simp at hb6; omega)
           | (
            refine SW.skip ?_
            refine hK9 _ ?_
            refine SW.seqK fun K10 hK10 => ?_
            refine SW.block ?_
            refine SW.regionK fun K hK => ?_
            simp -implicitDefEqProofs
            repeat (refine And.intro (by clear hK; first | omega | (intros; simp_all; done) | (intros; grind)) ?_)
            refine hK _ ?_
            clear hK K
            refine SW.regionE fun K hK => ?_
            simp -implicitDefEqProofs
            repeat (refine And.intro (by clear hK; first | omega | (intros; simp_all; done) | (intros; grind)) ?_)
            refine hK _ ?_
            clear hK K
            refine hK10 _ ?_
            refine SW.regionE fun K hK => ?_
            simp -implicitDefEqProofs
            repeat (refine And.intro (by clear hK; first | omega | (intros; simp_all; done) | (intros; grind)) ?_)
            refine hK _ ?_
            clear hK K
            fail))
       rotate_right
       case' _ =>
        intro hb5
        first
        | (exfalso; simp at hb5; done)
        | (exfalso; simp at hb5; omega)
        | (
         refine SW.exit ?_
         simp only [Ex.then, Ex.inBlock]
         try simp only [if_true, if_false, reduceIte])
       all_goals (
        refine hK7 _ ?_
        refine SW.regionE fun K hK => ?_
        simp -implicitDefEqProofs
        repeat (refine And.intro (by clear hK; first | omega | (intros; simp_all; done) | (intros; grind)) ?_)
        refine hK _ ?_
        clear hK K
        fail)))
  rotate_right
  case' _ =>
   intro hb1
   first
   | (exfalso; simp at hb1; done)
   | (exfalso; simp at hb1; omega)
   | (
    refine SW.regionK fun K hK => ?_
    simp -implicitDefEqProofs
    repeat (refine And.intro (by clear hK; first | omega | (intros; simp_all; done) | (intros; grind)) ?_)
    refine hK _ ?_
    clear hK K
    refine SW.ret ?_
    simp [Ex.then, Ex.inBlock, -strN]
    all_goals (rw [ahead_out hin]; rfl))
set_option maxHeartbeats 1000000 in
theorem aheadY_s (p : Prog) (l : List Deed) (n : Int) (h : p.ok) (hl : l.length ≤ 1048576) (hin : inL l n = true) : Fn Try.prog 17 [.agg p.fr, .fz (DeedS l), .int .i64 n] (.own 1 (IntS (ahead p l n))) := by
  refine Fn.intro Try.func17 (by decide) rfl (rs := [.tmp 6]) rfl Try.ntmps17 (by simp) ?_
  have hin2 := hin
  simp [inL] at hin
  obtain ⟨hA, hB⟩ := hin
  have hlt9 : n.toNat < l.length := by omega
  obtain ⟨i, hi⟩ : ∃ i, n.toNat = i := ⟨_, rfl⟩
  have hni : n = (i : Int) := by omega
  rw [hi] at hlt9
  have hr : ahead p l n = natI (List.filter (aheadF p l i) (List.range i)) := by simp [ahead, aheadN, inL, hA, hB, hi]
  have hnn := needs_len p l
  subst hni
  refine SW.regionK fun K hK => ?_
  simp -implicitDefEqProofs
  repeat (refine And.intro (by clear hK; first | omega | (intros; simp_all; done) | (intros; grind)) ?_)
  refine hK _ ?_
  clear hK K
  refine SW.regionK fun K hK => ?_
  simp -implicitDefEqProofs
  repeat (refine And.intro (by clear hK; first | omega | (intros; simp_all; done) | (intros; grind)) ?_)
  refine hK _ ?_
  clear hK K
  refine SW.seqK fun K1 hK1 => ?_
  refine SW.regionK fun K hK => ?_
  simp -implicitDefEqProofs [hin2]
  repeat (refine And.intro (by clear hK; first | omega | (intros; simp_all; done) | (intros; grind)) ?_)
  first
    | refine CallQ.fzE (inl_s l i) (by simp) ?_
    | refine CallK.fzE (inl_s l i) (by simp) ?_
  simp -implicitDefEqProofs [hin2]
  repeat (refine And.intro (by clear hK; first | omega | (intros; simp_all; done) | (intros; grind)) ?_)
  refine hK _ ?_
  clear hK K
  refine SW.cond _ rfl (by simp) ?_ ?_
  case' refine_2 =>
   intro hb1
   first
   | (exfalso; simp at hb1; done)
   | (exfalso; simp at hb1; omega)
   | (
    refine SW.skip ?_
    refine hK1 _ ?_
    refine SW.regionK fun K hK => ?_
    simp -implicitDefEqProofs
    repeat (refine And.intro (by clear hK; first | omega | (intros; simp_all; done) | (intros; grind)) ?_)
    refine hK _ ?_
    clear hK K
    refine SW.regionK fun K hK => ?_
    simp -implicitDefEqProofs [hA, hB, hlt9, splice]
    repeat (refine And.intro (by clear hK; first | omega | (intros; simp_all; done) | (intros; grind)) ?_)
    refine hK _ ?_
    clear hK K
    refine SW.seqK fun K2 hK2 => ?_
    refine SW.regionK fun K hK => ?_
    simp -implicitDefEqProofs
    repeat (refine And.intro (by clear hK; first | omega | (intros; simp_all; done) | (intros; grind)) ?_)
    refine hK _ ?_
    clear hK K
    refine SW.block ?_
    refine SW.loop (α := Nat × (Nat → Bool)) (fun z => ⟨[(9, .int .i64 ((z.1 : Int) - 1)), (8, .sl 2 0 l.length), (7, .sl 1 0 0), (1, .fz (DeedS l)), (2, .int .i64 i), (3, .ptr 0 0 0)], [some ⟨4, [p.fr]⟩, some ⟨1, []⟩, some ⟨1, FlS (fl l.length z.2)⟩]⟩) (fun z => z.1 ≤ i + 1 ∧ AH p l i z.1 z.2) (fun z => z.1) ((i + 1, fun j => j == i)) ?_ ?_ (fun z hx => ?_)
    case' refine_1 =>
     exact ⟨by simp, AH.init p l i⟩
    case' refine_2 =>
     exact Wk.cut (by simp) (by simp [subE]) (by simp [cutH, fl_init]) (by simp [lowE, lowN]) (by simp)
    case' refine_3 =>
     obtain ⟨c, f⟩ := z
     obtain ⟨hc, hf⟩ := hx
     simp only [] at hc hf ⊢
     refine SW.seqK fun K3 hK3 => ?_
     refine SW.regionK fun K hK => ?_
     simp -implicitDefEqProofs
     repeat (refine And.intro (by clear hK; first | omega | (intros; simp_all; done) | (intros; grind)) ?_)
     refine hK _ ?_
     clear hK K
     refine SW.cond _ rfl (by simp) ?_ ?_
     case' refine_2 =>
      intro hb2
      first
      | (exfalso; simp at hb2; done)
      | (exfalso; simp at hb2; omega)
      | (
       have hc0 : c = 0 := by simp at hb2; omega
       subst hc0
       have hff := hf.fin
       subst hff
       refine SW.exit ?_
       simp only [Ex.then, Ex.inBlock]
       try simp only [if_true, if_false, reduceIte]
       refine hK2 _ ?_
       refine SW.seqK fun K4 hK4 => ?_
       refine SW.regionK fun K hK => ?_
       simp -implicitDefEqProofs
       repeat (refine And.intro (by clear hK; first | omega | (intros; simp_all; done) | (intros; grind)) ?_)
       refine hK _ ?_
       clear hK K
       refine SW.block ?_
       refine SW.loop (α := Nat) (fun j => ⟨[(12, .int .i64 j), (8, .sl 0 0 l.length), (7, .sl 1 0 (natI (List.filter (aheadF p l i) (List.range j))).length), (2, .int .i64 i)], [some ⟨1, FlS (fl l.length (aheadF p l i))⟩, some ⟨1, IntS (natI (List.filter (aheadF p l i) (List.range j)))⟩]⟩) (fun j => j ≤ i) (fun j => i - j) (0) ?_ ?_ (fun j hx => ?_)
       case' refine_1 =>
        simp
       case' refine_2 =>
        exact Wk.ren [2, 1] (by simp) (by simp) (by simp) (by simp) (by simp [renE, renN, natI]) (by simp [renH, natI]) (by simp [lowE, lowN]) (by simp)
       case' refine_3 =>
        skip
        refine SW.seqK fun K5 hK5 => ?_
        refine SW.regionK fun K hK => ?_
        simp -implicitDefEqProofs
        repeat (refine And.intro (by clear hK; first | omega | (intros; simp_all; done) | (intros; grind)) ?_)
        refine hK _ ?_
        clear hK K
        refine SW.cond _ rfl (by simp) ?_ ?_
        case' refine_2 =>
         intro hb3
         first
         | (exfalso; simp at hb3; done)
         | (exfalso; simp at hb3; omega)
         | (
          have hj1 : j = i := by first | omega | (simp at hb3; omega)
          subst hj1
          refine SW.exit ?_
          simp only [Ex.then, Ex.inBlock]
          try simp only [if_true, if_false, reduceIte]
          refine hK4 _ ?_
          refine SW.regionK fun K hK => ?_
          simp -implicitDefEqProofs
          repeat (refine And.intro (by clear hK; first | omega | (intros; simp_all; done) | (intros; grind)) ?_)
          refine hK _ ?_
          clear hK K
          refine SW.ret ?_
          simp [Ex.then, Ex.inBlock, -strN]
          all_goals first
            | (rw [hr]; exact ⟨IntS_strM _, rfl⟩)
            | (rw [hr]; done)
            | fail)
        rotate_right
        case' _ =>
         intro hb3
         first
         | (exfalso; simp at hb3; done)
         | (exfalso; simp at hb3; omega)
         | (
          have hji : j < i := by first | omega | (simp at hb3; omega)
          have hjl : j < l.length := by omega
          have hfj := fl_get (aheadF p l i) hjl
          have hst := filter_step (f := aheadF p l i) j
          have hfl2 : (natI (List.filter (aheadF p l i) (List.range j))).length ≤ j := by rw [natI_len]; exact filter_len _ _
          refine SW.skip ?_
          refine hK5 _ ?_
          refine SW.seqK fun K6 hK6 => ?_
          refine SW.block ?_
          refine SW.regionK fun K hK => ?_
          simp -implicitDefEqProofs [hfj, hjl]
          repeat (refine And.intro (by clear hK; first | omega | (intros; simp_all; done) | (intros; grind)) ?_)
          refine hK _ ?_
          clear hK K
          refine SW.cond _ rfl (by simp) ?_ ?_
          case' refine_2 =>
           intro hb4
           first
           | (exfalso; simp at hb4; done)
           | (exfalso; simp at hb4; omega)
           | (
            have hm : aheadF p l i j = false := by simpa using hb4
            rw [hm] at hst
            simp only [Bool.false_eq_true, if_false, List.append_nil] at hst
            refine SW.skip ?_)
          rotate_right
          case' _ =>
           intro hb4
           first
           | (exfalso; simp at hb4; done)
           | (exfalso; simp at hb4; omega)
           | (
            have hm : aheadF p l i j = true := by simpa using hb4
            rw [hm] at hst
            simp only [if_true] at hst
            refine SW.regionE fun K hK => ?_
            simp -implicitDefEqProofs
            repeat (refine And.intro (by clear hK; first | omega | (intros; simp_all; done) | (intros; grind)) ?_)
            refine hK _ ?_
            clear hK K)
          all_goals (
           refine hK6 _ ?_
           refine SW.regionE fun K hK => ?_
           simp -implicitDefEqProofs
           repeat (refine And.intro (by clear hK; first | omega | (intros; simp_all; done) | (intros; grind)) ?_)
           refine hK _ ?_
           clear hK K
           refine ⟨j + 1, by omega, by omega, ?_⟩
           first
             | (have q : aheadF p l i j = true := hm; exact Wk.ren [0, 3] (by simp) (by simp) (by simp) (by simp) (by simp [renE, renN, wrap1 j (by omega), hst, natI_snoc]) (by simp [renH, hst, natI_snoc, IntS_snoc]) (by simp [lowE, lowN]) (by simp))
             | exact Wk.cut (by simp) (by simp [subE, wrap1 j (by omega), hst]) (by simp [cutH, hst]) (by simp [lowE, lowN]) (by simp)
             | fail)))
     rotate_right
     case' _ =>
      intro hb2
      first
      | (exfalso; simp at hb2; done)
      | (exfalso; simp at hb2; omega)
      | (
       have hc1 : 0 < c := by simp at hb2; omega
       obtain ⟨k, rfl⟩ : ∃ k, c = k + 1 := ⟨c - 1, by omega⟩
       have hkl : k < l.length := by omega
       have hfk := fl_get f hkl
       refine SW.skip ?_
       refine hK3 _ ?_
       refine SW.seqK fun K7 hK7 => ?_
       refine SW.block ?_
       refine SW.seqK fun K8 hK8 => ?_
       refine SW.regionK fun K hK => ?_
       simp -implicitDefEqProofs [hfk, hkl]
       repeat (refine And.intro (by clear hK; first | omega | (intros; simp_all; done) | (intros; grind)) ?_)
       refine hK _ ?_
       clear hK K
       refine SW.cond _ rfl (by simp) ?_ ?_
       case' refine_2 =>
        intro hb5
        first
        | (exfalso; simp at hb5; done)
        | (exfalso; simp at hb5; omega)
        | (
         have hm : f k = true := by simpa using hb5
         have hnx := hf.step (by omega)
         have hnl := needs_len p l k
         have hin3 : needs p l k = natI (needsN p l k) := by
           unfold needs
           rw [if_pos (by simp [inL]; omega)]
           rfl
         rw [hin3] at hnl
         rw [natI_len] at hnl
         refine SW.skip ?_
         refine hK8 _ ?_
         refine SW.regionK fun K hK => ?_
         simp -implicitDefEqProofs [hin3, natI_len]
         repeat (refine And.intro (by clear hK; first | omega | (intros; simp_all; done) | (intros; grind)) ?_)
         first
           | refine CallQ.fzE (needs_s p l k h hl) (by simp) ?_
           | refine CallK.fzE (needs_s p l k h hl) (by simp) ?_
         simp -implicitDefEqProofs [hin3, natI_len]
         repeat (refine And.intro (by clear hK; first | omega | (intros; simp_all; done) | (intros; grind)) ?_)
         refine hK _ ?_
         clear hK K
         refine SW.block ?_
         refine SW.loop (α := Nat) (fun j => ⟨[(40, .int .i64 j), (39, .int .i64 (needsN p l k).length), (38, .fz (IntS (natI (needsN p l k)))), (9, .int .i64 k), (8, .sl 2 0 l.length), (7, .sl 1 0 0), (1, .fz (DeedS l)), (2, .int .i64 i), (3, .ptr 0 0 0)], [some ⟨4, [p.fr]⟩, some ⟨1, []⟩, some ⟨1, FlS (fl l.length (fun x => f x || decide (x ∈ List.take j (needsN p l k))))⟩]⟩) (fun j => j ≤ (needsN p l k).length) (fun j => (needsN p l k).length - j) (0) ?_ ?_ (fun j hx => ?_)
         case' refine_1 =>
          simp
         case' refine_2 =>
          exact Wk.cut (by simp) (by simp [subE]) (by simp [cutH]) (by simp [lowE, lowN]) (by simp)
         case' refine_3 =>
          skip
          refine SW.regionK fun K hK => ?_
          simp -implicitDefEqProofs
          repeat (refine And.intro (by clear hK; first | omega | (intros; simp_all; done) | (intros; grind)) ?_)
          refine hK _ ?_
          clear hK K
          refine SW.seqK fun K9 hK9 => ?_
          refine SW.cond _ rfl (by simp) ?_ ?_
          case' refine_2 =>
           intro hb6
           first
           | (exfalso; simp at hb6; done)
           | (exfalso; simp at hb6; omega)
           | (
            have hj1 : j = (needsN p l k).length := by first | omega | (simp at hb6; omega)
            subst hj1
            have hal := ah_list (p := p) (l := l) hm
            refine SW.exit ?_
            simp only [Ex.then, Ex.inBlock]
            try simp only [if_true, if_false, reduceIte])
          rotate_right
          case' _ =>
           intro hb6
           first
           | (exfalso; simp at hb6; done)
           | (exfalso; simp at hb6; omega)
           | (
            have hlty : j < (needsN p l k).length := by first | omega | (simp at hb6; omega)
            obtain ⟨y, hyk⟩ : ∃ q, (needsN p l k)[j]? = some q := ⟨_, List.getElem?_eq_getElem hlty⟩
            have hyI := natI_get hyk
            have hyk2 := (mem_needsN.1 (List.mem_of_getElem? hyk)).1
            have hyl : y < l.length := by omega
            have hpu := FlS_put (n := l.length) (k := y) (fun x => f x || decide (x ∈ List.take j (needsN p l k))) true
            rw [ah_take hyk] at hpu
            refine SW.skip ?_
            refine hK9 _ ?_
            refine SW.seqK fun K10 hK10 => ?_
            refine SW.block ?_
            refine SW.regionK fun K hK => ?_
            simp -implicitDefEqProofs [hyI]
            repeat (refine And.intro (by clear hK; first | omega | (intros; simp_all; done) | (intros; grind)) ?_)
            refine hK _ ?_
            clear hK K
            refine SW.regionE fun K hK => ?_
            simp -implicitDefEqProofs [hyl, splice, hpu]
            repeat (refine And.intro (by clear hK; first | omega | (intros; simp_all; done) | (intros; grind)) ?_)
            refine hK _ ?_
            clear hK K
            refine hK10 _ ?_
            refine SW.regionE fun K hK => ?_
            simp -implicitDefEqProofs
            repeat (refine And.intro (by clear hK; first | omega | (intros; simp_all; done) | (intros; grind)) ?_)
            refine hK _ ?_
            clear hK K
            refine ⟨j + 1, by omega, by omega, ?_⟩
            exact Wk.cut (by simp) (by simp [subE, wrap1 j (by omega)]) (by simp [cutH]) (by simp [lowE, lowN]) (by simp)))
       rotate_right
       case' _ =>
        intro hb5
        first
        | (exfalso; simp at hb5; done)
        | (exfalso; simp at hb5; omega)
        | (
         have hm : f k = false := by simpa using hb5
         have hnx := hf.skip (by omega) hm
         refine SW.exit ?_
         simp only [Ex.then, Ex.inBlock]
         try simp only [if_true, if_false, reduceIte])
       all_goals (
        refine hK7 _ ?_
        refine SW.regionE fun K hK => ?_
        simp -implicitDefEqProofs
        repeat (refine And.intro (by clear hK; first | omega | (intros; simp_all; done) | (intros; grind)) ?_)
        refine hK _ ?_
        clear hK K
        first
          | (have q : f k = false := hm; refine ⟨(k, f), ⟨by simp only []; omega, hnx⟩, by simp only []; omega, ?_⟩; simp only []; exact Wk.cut (by simp) (by simp [subE, wrapI (k : Int) (by omega) (by omega), wrapI ((k : Int) - 1) (by omega) (by omega)]) (by simp [cutH]) (by simp [lowE, lowN]) (by simp))
          | (refine ⟨(k, ahStep p l k f), ⟨by simp only []; omega, hnx⟩, by simp only []; omega, ?_⟩; simp only []; rw [← hal]; exact Wk.cut (by simp) (by simp [subE, wrapI (k : Int) (by omega) (by omega), wrapI ((k : Int) - 1) (by omega) (by omega)]) (by simp [cutH]) (by simp [lowE, lowN]) (by simp))
          | fail)))
  rotate_right
  case' _ =>
   intro hb1
   first
   | (exfalso; simp at hb1; done)
   | (exfalso; simp at hb1; omega)
   | (
    refine SW.regionK fun K hK => ?_
    simp -implicitDefEqProofs
    repeat (refine And.intro (by clear hK; first | omega | (intros; simp_all; done) | (intros; grind)) ?_)
    refine hK _ ?_
    clear hK K
    refine SW.ret ?_
    simp [Ex.then, Ex.inBlock, -strN]
    all_goals first
      | (rw [hr]; exact ⟨IntS_strM _, rfl⟩)
      | (rw [hr]; done)
      | fail)
theorem ahI_zero {p : Prog} {l : List Deed} {f : Nat → Bool} {i k : Nat} : (fun x => (f x || (decide (x < 0) && mt p l x k)) && !(x == i)) = fun x => f x && !(x == i) := by
  funext x; simp
theorem ahI_part {p : Prog} {l : List Deed} {f : Nat → Bool} {i j k : Nat} {b : Bool} (hk : k ≤ i) (hj : j < k) (h : b = (f j || mt p l j k)) : (fun x => if x = j then b else ((f x || (decide (x < j) && mt p l x k)) && !(x == i))) = fun x => (f x || (decide (x < j + 1) && mt p l x k)) && !(x == i) := by
  funext x
  by_cases e : x = j
  · subst e
    have : (x == i) = false := by simp; omega
    simp [h, this]
  · rw [if_neg e]
    congr 3
    rw [Bool.eq_iff_iff]; simp; omega
theorem ahI_end {p : Prog} {l : List Deed} {f : Nat → Bool} {i k : Nat} (h : f k = true) : (fun x => (f x || (decide (x < k) && mt p l x k)) && !(x == i)) = fun x => ahStep p l k f x && !(x == i) := by
  rw [ahStep_y h]
set_option maxHeartbeats 1000000 in
theorem aheadOf_i (p : Prog) (l : List Deed) (i : Nat) (hl : l.length ≤ 1048576) (hi : i < l.length) : Fn Try.prog 35 [.fz (TchS (l.map (tch p))), .int .i64 i] (.own 1 (FlS (fl l.length fun x => aheadF p l i x && !(x == i)))) := by
  refine Fn.intro Try.func35 (by decide) rfl (rs := [.tmp 4]) rfl Try.ntmps35 (by simp) ?_
  refine SW.regionK fun K hK => ?_
  simp -implicitDefEqProofs
  repeat (refine And.intro (by clear hK; first | omega | (intros; simp_all; done) | (intros; grind)) ?_)
  refine hK _ ?_
  clear hK K
  refine SW.regionK fun K hK => ?_
  simp -implicitDefEqProofs
  repeat (refine And.intro (by clear hK; first | omega | (intros; simp_all; done) | (intros; grind)) ?_)
  refine hK _ ?_
  clear hK K
  refine SW.seqK fun K1 hK1 => ?_
  refine SW.regionK fun K hK => ?_
  simp -implicitDefEqProofs
  repeat (refine And.intro (by clear hK; first | omega | (intros; simp_all; done) | (intros; grind)) ?_)
  refine hK _ ?_
  clear hK K
  refine SW.block ?_
  refine SW.loop (α := Nat × (Nat → Bool)) (fun z => ⟨[(6, .int .i64 ((z.1 : Int) - 1)), (5, .sl 0 0 l.length), (0, .fz (TchS (l.map (tch p)))), (1, .int .i64 i)], [some ⟨1, FlS (fl l.length fun x => z.2 x && !(x == i))⟩]⟩) (fun z => z.1 ≤ i + 1 ∧ AH p l i z.1 z.2) (fun z => z.1) ((i + 1, fun j => j == i)) ?_ ?_ (fun z hx => ?_)
  case' refine_1 =>
   exact ⟨by simp, AH.init p l i⟩
  case' refine_2 =>
   exact Wk.cut (by simp) (by simp [subE]) (by simp [cutH, ← fl_rep]) (by simp [lowE, lowN]) (by simp)
  case' refine_3 =>
   obtain ⟨c, f⟩ := z
   obtain ⟨hc, hf⟩ := hx
   simp only [] at hc hf ⊢
   refine SW.seqK fun K2 hK2 => ?_
   refine SW.regionK fun K hK => ?_
   simp -implicitDefEqProofs
   repeat (refine And.intro (by clear hK; first | omega | (intros; simp_all; done) | (intros; grind)) ?_)
   refine hK _ ?_
   clear hK K
   refine SW.cond _ rfl (by simp) ?_ ?_
   case' refine_2 =>
    intro hb1
    first
    | (exfalso; simp at hb1; done)
    | (exfalso; simp at hb1; omega)
    | (
     have hc0 : c = 0 := by simp at hb1; omega
     subst hc0
     have hff := hf.fin
     subst hff
     refine SW.exit ?_
     simp only [Ex.then, Ex.inBlock]
     try simp only [if_true, if_false, reduceIte]
     refine hK1 _ ?_
     refine SW.regionK fun K hK => ?_
     simp -implicitDefEqProofs
     repeat (refine And.intro (by clear hK; first | omega | (intros; simp_all; done) | (intros; grind)) ?_)
     refine hK _ ?_
     clear hK K
     refine SW.ret ?_
     simp [Ex.then, Ex.inBlock, -strN]
     all_goals first
       | (rw [List.take_of_length_le (by simp)]; exact ⟨FlS_strM _, rfl⟩)
       | fail)
   rotate_right
   case' _ =>
    intro hb1
    first
    | (exfalso; simp at hb1; done)
    | (exfalso; simp at hb1; omega)
    | (
     have hc1 : 0 < c := by simp at hb1; omega
     obtain ⟨k, rfl⟩ : ∃ k, c = k + 1 := ⟨c - 1, by omega⟩
     have hkl : k < l.length := by omega
     have hfk := fl_get (fun x => f x && !(x == i)) hkl
     obtain ⟨y, hyk⟩ : ∃ q, l[k]? = some q := ⟨_, List.getElem?_eq_getElem hkl⟩
     refine SW.skip ?_
     refine hK2 _ ?_
     refine SW.seqK fun K3 hK3 => ?_
     refine SW.block ?_
     refine SW.seqK fun K4 hK4 => ?_
     refine SW.regionK fun K hK => ?_
     simp -implicitDefEqProofs [hfk, hkl]
     repeat (refine And.intro (by clear hK; first | omega | (intros; simp_all; done) | (intros; grind)) ?_)
     refine hK _ ?_
     clear hK K
     refine SW.cond _ rfl (by simp) ?_ ?_
     case' refine_2 =>
      intro hb2
      first
      | (exfalso; simp at hb2; done)
      | (exfalso; simp at hb2; omega)
      | (
       have hm : f k = true := by
         by_cases hki : k = i
         · rw [hki]; exact hf.me
         · simp at hb2; exact (hb2 (by omega)).1
       have hnx := hf.step (by omega)
       have hyE : ∀ q, l[k]'q = y := fun q => (List.getElem?_eq_some_iff.1 hyk).2
       refine SW.skip ?_
       refine hK4 _ ?_
       refine SW.regionK fun K hK => ?_
       simp -implicitDefEqProofs
       repeat (refine And.intro (by clear hK; first | omega | (intros; simp_all; done) | (intros; grind)) ?_)
       refine hK _ ?_
       clear hK K
       refine SW.block ?_
       refine SW.loop (α := Nat) (fun j => ⟨[(27, .int .i64 j), (26, .int .i64 k), (6, .int .i64 k), (5, .sl 0 0 l.length), (0, .fz (TchS (l.map (tch p)))), (1, .int .i64 i)], [some ⟨1, FlS (fl l.length (fun x => (f x || (decide (x < j) && mt p l x k)) && !(x == i)))⟩]⟩) (fun j => j ≤ k) (fun j => k - j) (0) ?_ ?_ (fun j hx => ?_)
       case' refine_1 =>
        simp
       case' refine_2 =>
        exact Wk.cut (by simp) (by simp [subE]) (by simp [cutH, ahI_zero]) (by simp [lowE, lowN]) (by simp)
       case' refine_3 =>
        skip
        refine SW.regionK fun K hK => ?_
        simp -implicitDefEqProofs
        repeat (refine And.intro (by clear hK; first | omega | (intros; simp_all; done) | (intros; grind)) ?_)
        refine hK _ ?_
        clear hK K
        refine SW.seqK fun K5 hK5 => ?_
        refine SW.cond _ rfl (by simp) ?_ ?_
        case' refine_2 =>
         intro hb3
         first
         | (exfalso; simp at hb3; done)
         | (exfalso; simp at hb3; omega)
         | (
          have hj1 : k = j := by first | omega | (simp at hb3; omega)
          subst hj1
          refine SW.exit ?_
          simp only [Ex.then, Ex.inBlock]
          try simp only [if_true, if_false, reduceIte])
        rotate_right
        case' _ =>
         intro hb3
         first
         | (exfalso; simp at hb3; done)
         | (exfalso; simp at hb3; omega)
         | (
          have hjk : j < k := by first | omega | (simp at hb3; omega)
          have hjl : j < l.length := by omega
          have hfj := fl_get (fun x => (f x || (decide (x < j) && mt p l x k)) && !(x == i)) hjl
          obtain ⟨x, hxk⟩ : ∃ q, l[j]? = some q := ⟨_, List.getElem?_eq_getElem hjl⟩
          have hmt := mt_eq (p := p) hxk hyk
          have hkn : k < l.length := hkl
          have hji : (j == i) = false := by simp; omega
          have hpt := ahI_part (p := p) (l := l) (f := f) (b := f j || meet p x y) (by omega : k ≤ i) hjk (by rw [hmt])
          have hpu := FlS_put (n := l.length) (k := j) (fun x => (f x || (decide (x < j) && mt p l x k)) && !(x == i)) (f j || meet p x y)
          rw [hpt] at hpu
          have hxE : ∀ q, l[j]'q = x := fun q => (List.getElem?_eq_some_iff.1 hxk).2
          refine SW.skip ?_
          refine hK5 _ ?_
          refine SW.seqK fun K6 hK6 => ?_
          refine SW.block ?_
          refine SW.regionK fun K hK => ?_
          simp -implicitDefEqProofs
          repeat (refine And.intro (by clear hK; first | omega | (intros; simp_all; done) | (intros; grind)) ?_)
          refine hK _ ?_
          clear hK K
          refine SW.drawE mixed [.q [(0, false), (1, false), (2, false), (3, false), (4, false), (5, false), (6, false), (7, false), (8, false), (9, false), (10, false), (11, false), (12, false), (13, false), (14, false), (15, false), (16, false), (17, false)], .b 18] (by kernel_rfl) rfl fun K hK => ?_
          simp -implicitDefEqProofs [hfj, hjl, hxk, hyk, hkl, hkn, hji, pb, splice, hpu]
          repeat (refine And.intro (by clear hK; first | omega | (intros; simp_all; done) | (intros; grind)) ?_)
          refine CallQG.fzE (by simp) (fun _ => tmeet_i p x y) (by simp [hxE, hyE]) ?_
          simp -implicitDefEqProofs [hfj, hjl, hxk, hyk, hkl, hkn, hji, pb, splice, hpu]
          repeat (refine And.intro (by clear hK; first | omega | (intros; simp_all; done) | (intros; grind)) ?_)
          refine hK _ ?_
          clear hK K
          refine hK6 _ ?_
          refine SW.regionE fun K hK => ?_
          simp -implicitDefEqProofs
          repeat (refine And.intro (by clear hK; first | omega | (intros; simp_all; done) | (intros; grind)) ?_)
          refine hK _ ?_
          clear hK K
          try simp only [Ex.then, Ex.inBlock]
          refine ⟨j + 1, by omega, by omega, ?_⟩
          exact Wk.cut (by simp) (by simp [subE, wrap1 j (by omega)]) (by simp [cutH]) (by simp [lowE, lowN]) (by simp)))
     rotate_right
     case' _ =>
      intro hb2
      first
      | (exfalso; simp at hb2; done)
      | (exfalso; simp at hb2; omega)
      | (
       have hm : f k = false := by
         simp at hb2
         cases e : f k with
         | false => rfl
         | true =>
           exfalso
           simp [e] at hb2
           omega
       have hnx := hf.skip (by omega) hm
       refine SW.exit ?_
       simp only [Ex.then, Ex.inBlock]
       try simp only [if_true, if_false, reduceIte])
     all_goals (
      refine hK3 _ ?_
      refine SW.regionE fun K hK => ?_
      simp -implicitDefEqProofs
      repeat (refine And.intro (by clear hK; first | omega | (intros; simp_all; done) | (intros; grind)) ?_)
      refine hK _ ?_
      clear hK K
      try simp only [Ex.then, Ex.inBlock]
      first
        | (have q : f k = false := hm; refine ⟨(k, f), ⟨by simp only []; omega, hnx⟩, by simp only []; omega, ?_⟩; simp only []; exact Wk.cut (by simp) (by simp [subE, wrapI (k : Int) (by omega) (by omega), wrapI ((k : Int) - 1) (by omega) (by omega)]) (by simp [cutH]) (by simp [lowE, lowN]) (by simp))
        | (refine ⟨(k, ahStep p l k f), ⟨by simp only []; omega, hnx⟩, by simp only []; omega, ?_⟩; simp only []; rw [← ahI_end hm]; exact Wk.cut (by simp) (by simp [subE, wrapI (k : Int) (by omega) (by omega), wrapI ((k : Int) - 1) (by omega) (by omega)]) (by simp [cutH]) (by simp [lowE, lowN]) (by simp))
        | fail))
end HT
