import Derived.Test.YtjalahhkhcmjaaaDoorG4
import Derived.Test.YtjalahhkhcmjaaaDoorG3
/-
  My own texts (road H): HLT4 HLT7.
-/
set_option linter.unusedSimpArgs false
set_option linter.unusedVariables false
namespace HT
open Go Go.Proofs HK
set_option maxHeartbeats 1000000 in
theorem szIntS_ok (l : List Int) (m : Int) (h : l.length ≤ maxLen) (h0 : 0 ≤ m) (h1 : m ≤ 1048576) : Fn Tryd.prog 38 [.fz (IntS l), .int .i64 m] (.int .i64 (szR l.length m)) := by
  refine Fn.intro Tryd.func38 (by decide) rfl (rs := [.tmp 4]) rfl Tryd.ntmps38 (by simp) ?_; have hm9 : l.length ≤ 2 ^ 63 - 1 := h
  have hw := wrapI (m - (l.length : Int)) (by omega) (by omega)
  have qq := szR_cases l.length m
  refine SW.rg fun K hK => ?_; simp -implicitDefEqProofs; repeat refine ⟨by omega, ?_⟩
  refine hK _ ?_; clear hK K; refine SW.rg fun K hK => ?_; simp -implicitDefEqProofs [hw]; repeat refine ⟨by omega, ?_⟩
  refine hK _ ?_; clear hK K; refine SW.seqK fun K1 hK1 => ?_; refine SW.rg fun K hK => ?_; simp -implicitDefEqProofs; repeat refine ⟨by omega, ?_⟩
  refine hK _ ?_; clear hK K; refine SW.cond _ rfl (by simp) ?_ ?_
  case' refine_2 =>
   intro hb1
   first
   | (exfalso; simp at hb1; done)
   | (exfalso; simp at hb1; omega)
   | (
    refine SW.skip ?_; refine hK1 _ ?_; refine SW.rg fun K hK => ?_; simp -implicitDefEqProofs; repeat refine ⟨by omega, ?_⟩
    refine hK _ ?_; clear hK K; refine SW.ret ?_; simp [Ex.then, Ex.ib]
    all_goals (simp at *)
    all_goals omega)
  rotate_right
  case' _ =>
   intro hb1
   first
   | (exfalso; simp at hb1; done)
   | (exfalso; simp at hb1; omega)
   | (
    refine SW.rg fun K hK => ?_; simp -implicitDefEqProofs; repeat refine ⟨by omega, ?_⟩
    refine hK _ ?_; clear hK K; refine SW.ret ?_; simp [Ex.then, Ex.ib]
    all_goals (simp at *)
    all_goals omega)
set_option maxHeartbeats 1000000 in
theorem szItemS_ok (l : List Item) (m : Int) (h : l.length ≤ maxLen) (h0 : 0 ≤ m) (h1 : m ≤ 1048576) : Fn Tryd.prog 39 [.fz (ItemS l), .int .i64 m] (.int .i64 (szR l.length m)) := by
  refine Fn.intro Tryd.func39 (by decide) rfl (rs := [.tmp 4]) rfl Tryd.ntmps39 (by simp) ?_; have hm9 : l.length ≤ 2 ^ 63 - 1 := h
  have hw := wrapI (m - (l.length : Int)) (by omega) (by omega)
  have qq := szR_cases l.length m
  refine SW.rg fun K hK => ?_; simp -implicitDefEqProofs; repeat refine ⟨by omega, ?_⟩
  refine hK _ ?_; clear hK K; refine SW.rg fun K hK => ?_; simp -implicitDefEqProofs [hw]; repeat refine ⟨by omega, ?_⟩
  refine hK _ ?_; clear hK K; refine SW.seqK fun K1 hK1 => ?_; refine SW.rg fun K hK => ?_; simp -implicitDefEqProofs; repeat refine ⟨by omega, ?_⟩
  refine hK _ ?_; clear hK K; refine SW.cond _ rfl (by simp) ?_ ?_
  case' refine_2 =>
   intro hb1
   first
   | (exfalso; simp at hb1; done)
   | (exfalso; simp at hb1; omega)
   | (
    refine SW.skip ?_; refine hK1 _ ?_; refine SW.rg fun K hK => ?_; simp -implicitDefEqProofs; repeat refine ⟨by omega, ?_⟩
    refine hK _ ?_; clear hK K; refine SW.ret ?_; simp [Ex.then, Ex.ib]
    all_goals (simp at *)
    all_goals omega)
  rotate_right
  case' _ =>
   intro hb1
   first
   | (exfalso; simp at hb1; done)
   | (exfalso; simp at hb1; omega)
   | (
    refine SW.rg fun K hK => ?_; simp -implicitDefEqProofs; repeat refine ⟨by omega, ?_⟩
    refine hK _ ?_; clear hK K; refine SW.ret ?_; simp [Ex.then, Ex.ib]
    all_goals (simp at *)
    all_goals omega)
set_option maxHeartbeats 1000000 in
theorem szGor_ok (d : Gor) (m : Int) (h : d.fit) (h0 : 0 ≤ m) (h1 : m ≤ 1048576) : Fn Tryd.prog 22 [.agg d.fr, .int .i64 m] (.int .i64 (szR d.sz m)) := by
  refine Fn.intro Tryd.func22 (by decide) rfl (rs := [.tmp 4]) rfl Tryd.ntmps22 (by simp) ?_; unfold Gor.fit at h; obtain ⟨b2, b4⟩ := h; refine SW.rg fun K hK => ?_; simp -implicitDefEqProofs; repeat refine ⟨by omega, ?_⟩
  refine hK _ ?_; clear hK K; refine SW.rg fun K hK => ?_; simp -implicitDefEqProofs; iterate 2 (try refine ⟨by omega, ?_⟩)
  refine CallK.fzE (szIntS_ok d.regs (m) b2 (by omega) (by omega)) (by simp) ?_; simp -implicitDefEqProofs; repeat refine ⟨by omega, ?_⟩
  refine hK _ ?_; clear hK K; refine SW.seqK fun K1 hK1 => ?_; refine SW.rg fun K hK => ?_; simp -implicitDefEqProofs; repeat refine ⟨by omega, ?_⟩
  refine hK _ ?_; clear hK K; refine SW.cond _ rfl (by simp) ?_ ?_
  case' refine_2 =>
   intro hb1; have q0 := szR_cases d.regs.length (m)
   have n0 : 0 ≤ szR d.regs.length (m) := by simp at hb1; omega
   first
   | (exfalso; simp at hb1; done)
   | (exfalso; simp at hb1; omega)
   | (
    refine SW.skip ?_; refine hK1 _ ?_; refine SW.rg fun K hK => ?_; simp -implicitDefEqProofs; iterate 2 (try refine ⟨by omega, ?_⟩)
    refine CallK.fzE (szItemS_ok d.trace (szR d.regs.length (m)) b4 (by omega) (by omega)) (by simp) ?_; simp -implicitDefEqProofs; repeat refine ⟨by omega, ?_⟩
    refine hK _ ?_; clear hK K; refine SW.seqK fun K2 hK2 => ?_; refine SW.rg fun K hK => ?_; simp -implicitDefEqProofs; repeat refine ⟨by omega, ?_⟩
    refine hK _ ?_; clear hK K; refine SW.cond _ rfl (by simp) ?_ ?_
    case' refine_2 =>
     intro hb2; have q1 := szR_cases d.trace.length (szR d.regs.length (m))
     have n1 : 0 ≤ szR d.trace.length (szR d.regs.length (m)) := by simp at hb2; omega
     first
     | (exfalso; simp at hb2; done)
     | (exfalso; simp at hb2; omega)
     | (
      refine SW.skip ?_; refine hK2 _ ?_; refine SW.rg fun K hK => ?_; simp -implicitDefEqProofs; repeat refine ⟨by omega, ?_⟩
      refine hK _ ?_; clear hK K; refine SW.ret ?_; simp [Ex.then, Ex.ib]
      all_goals (
        have qq := szR_cases d.sz m
        unfold Gor.sz at qq ⊢
        first | (simp at *; done) | (simp at *; omega)))
    rotate_right
    case' _ =>
     intro hb2; have q1 := szR_cases d.trace.length (szR d.regs.length (m))
     first
     | (exfalso; simp at hb2; done)
     | (exfalso; simp at hb2; omega)
     | (
      refine SW.rg fun K hK => ?_; simp -implicitDefEqProofs; repeat refine ⟨by omega, ?_⟩
      refine hK _ ?_; clear hK K; refine SW.ret ?_; simp [Ex.then, Ex.ib]
      all_goals (
        have qq := szR_cases d.sz m
        unfold Gor.sz at qq ⊢
        first | (simp at *; done) | (simp at *; omega))))
  rotate_right
  case' _ =>
   intro hb1; have q0 := szR_cases d.regs.length (m)
   first
   | (exfalso; simp at hb1; done)
   | (exfalso; simp at hb1; omega)
   | (
    refine SW.rg fun K hK => ?_; simp -implicitDefEqProofs; repeat refine ⟨by omega, ?_⟩
    refine hK _ ?_; clear hK K; refine SW.ret ?_; simp [Ex.then, Ex.ib]
    all_goals (
      have qq := szR_cases d.sz m
      unfold Gor.sz at qq ⊢
      first | (simp at *; done) | (simp at *; omega)))
set_option maxHeartbeats 1000000 in
theorem szGorS_ok (l : List Gor) (m : Int) (hh : l.length ≤ maxLen ∧ ∀ x ∈ l, x.fit) (h0 : 0 ≤ m) (h1 : m ≤ 1048576) : Fn Tryd.prog 9 [.fz (GorSf l), .int .i64 m] (.int .i64 (szR (szL Gor.sz l) m)) := by
  refine Fn.intro Tryd.func9 (by decide) rfl (rs := [.tmp 4]) rfl Tryd.ntmps9 (by simp) ?_; obtain ⟨h, hf⟩ := hh; have hm9 : l.length ≤ 2 ^ 63 - 1 := h
  have hw := wrapI (m - (l.length : Int)) (by omega) (by omega)
  have qq := szR_cases (szL Gor.sz l) m
  have hL : szL Gor.sz l = l.length + (l.map Gor.sz).sum := rfl
  refine SW.rg fun K hK => ?_; simp -implicitDefEqProofs; repeat refine ⟨by omega, ?_⟩
  refine hK _ ?_; clear hK K; refine SW.rg fun K hK => ?_; simp -implicitDefEqProofs [hw]; repeat refine ⟨by omega, ?_⟩
  refine hK _ ?_; clear hK K; refine SW.seqK fun K1 hK1 => ?_; refine SW.rg fun K hK => ?_; simp -implicitDefEqProofs; repeat refine ⟨by omega, ?_⟩
  refine hK _ ?_; clear hK K; refine SW.cond _ rfl (by simp) ?_ ?_
  case' refine_2 =>
   intro hb1
   first
   | (exfalso; simp at hb1; done)
   | (exfalso; simp at hb1; omega)
   | (
    refine SW.skip ?_; refine hK1 _ ?_; refine SW.seqK fun K2 hK2 => ?_; refine SW.rg fun K hK => ?_; simp -implicitDefEqProofs; repeat refine ⟨by omega, ?_⟩
    refine hK _ ?_; clear hK K; refine SW.block ?_
    refine SW.loop (α := Nat × Nat) (fun x => ⟨[(5, .int .i64 (x.1 : Nat)), (1, .int .i64 (m - (x.2 : Int))), (0, .fz (GorSf l))], []⟩) (fun x => x.1 ≤ l.length ∧ x.2 = l.length + ((l.take x.1).map Gor.sz).sum ∧ (x.2 : Int) ≤ m) (fun x => l.length - x.1) ((0, l.length)) ?_ ?_ (fun x hx => ?_)
    case' refine_1 =>
     exact ⟨by simp, by simp, by simp at hb1; simp only []; omega⟩
    case' refine_2 =>
     exact Wk.cut (by simp) (by simp [subE]) (by simp [cutH]) (by simp [lowE, lowN]) (by simp)
    case' refine_3 =>
     obtain ⟨k, A⟩ := x; simp only [] at hx; obtain ⟨hk, hA, hm3⟩ := hx; simp only []; refine SW.seqK fun K3 hK3 => ?_; refine SW.rg fun K hK => ?_; simp -implicitDefEqProofs; repeat refine ⟨by omega, ?_⟩
     refine hK _ ?_; clear hK K; refine SW.cond _ rfl (by simp) ?_ ?_
     case' refine_2 =>
      intro hb2; have hk : k = l.length := by simp at hb2; omega
      subst hk; rw [List.take_length] at hA
      first
      | (exfalso; simp at hb2; done)
      | (exfalso; simp at hb2; omega)
      | (
       refine SW.exit ?_; simp only [Ex.then, Ex.ib]; try simp only [if_true, if_false, reduceIte]
       refine hK2 _ ?_; refine SW.rg fun K hK => ?_; simp -implicitDefEqProofs; repeat refine ⟨by omega, ?_⟩
       refine hK _ ?_; clear hK K; refine SW.ret ?_; simp [Ex.then, Ex.ib]
       first
         | (simp at hb3; omega)
         | (simp at hb1; omega)
         | omega)
     rotate_right
     case' _ =>
      intro hb2; have hlt : k < l.length := by simp at hb2; omega
      obtain ⟨x, hxk⟩ : ∃ x, l[k]? = some x := ⟨_, List.getElem?_eq_getElem hlt⟩
      have hxm := List.mem_of_getElem? hxk
      have hst := szL_take (f := Gor.sz) hxk
      have htot := sum_take Gor.sz l (k + 1)
      have hq := szR_cases x.sz (m - (A : Int))
      first
      | (exfalso; simp at hb2; done)
      | (exfalso; simp at hb2; omega)
      | (
       refine SW.skip ?_; refine hK3 _ ?_; refine SW.seqK fun K4 hK4 => ?_; refine SW.block ?_; refine SW.rg fun K hK => ?_; simp -implicitDefEqProofs [hxk]; iterate 2 (try refine ⟨by omega, ?_⟩)
       refine CallK.fzE (szGor_ok x (m - (A : Int)) (hf x hxm) (by omega) (by omega)) (by simp) ?_; simp -implicitDefEqProofs [hxk]; repeat refine ⟨by omega, ?_⟩
       refine hK _ ?_; clear hK K; refine SW.rg fun K hK => ?_; simp -implicitDefEqProofs; repeat refine ⟨by omega, ?_⟩
       refine hK _ ?_; clear hK K; refine SW.cond _ rfl (by simp) ?_ ?_
       case' refine_2 =>
        intro hb3; have hq2 : szR x.sz (m - (A : Int)) = m - (A : Int) - (x.sz : Int) := by simp at hb3; omega
        first
        | (exfalso; simp at hb3; done)
        | (exfalso; simp at hb3; omega)
        | (
         refine SW.skip ?_; refine hK4 _ ?_; refine SW.regionE fun K hK => ?_; simp -implicitDefEqProofs; repeat refine ⟨by omega, ?_⟩
         refine hK _ ?_; clear hK K; refine ⟨(k + 1, A + x.sz), ⟨by simp only []; omega, by simp only []; rw [hst]; omega, by simp only []; simp at hb3; omega⟩, by simp only []; omega, ?_⟩
         exact Wk.cut (by simp) (by simp [subE, wrap1 k (by omega), hq2]; omega) (by simp [cutH]) (by simp [lowE, lowN]) (by simp))
       rotate_right
       case' _ =>
        intro hb3
        first
        | (exfalso; simp at hb3; done)
        | (exfalso; simp at hb3; omega)
        | (
         refine SW.rg fun K hK => ?_; simp -implicitDefEqProofs; repeat refine ⟨by omega, ?_⟩
         refine hK _ ?_; clear hK K; refine SW.ret ?_; simp [Ex.then, Ex.ib]
         first
           | (simp at hb3; omega)
           | (simp at hb1; omega)
           | omega)))
  rotate_right
  case' _ =>
   intro hb1
   first
   | (exfalso; simp at hb1; done)
   | (exfalso; simp at hb1; omega)
   | (
    refine SW.rg fun K hK => ?_; simp -implicitDefEqProofs; repeat refine ⟨by omega, ?_⟩
    refine hK _ ?_; clear hK K; refine SW.ret ?_; simp [Ex.then, Ex.ib]
    first
      | (simp at hb3; omega)
      | (simp at hb1; omega)
      | omega)
end HT
set_option linter.unusedSimpArgs false
set_option linter.unusedVariables false
namespace HT
open Go Go.Proofs HK
theorem rdInt : Reads Tryd.prog 3 (fun n : Int => [.int .i64 n]) (fun n => (Lit.int .i64 n).wf = true) := Reads.int (by kernel_rfl)
theorem rdBool : Reads Tryd.prog 4 (fun b : Bool => [.bool b]) (fun _ => True) := Reads.bool (by kernel_rfl)
theorem rdIntS : Reads Tryd.prog 40 (fun l : List Int => [.fz (IntS l)]) (fun l => l.length ≤ maxLen) :=
  (Reads.slice (e := 3) (by kernel_rfl) rdInt (Nat.lt_of_lt_of_eq (m := 1) (by omega) (by kernel_rfl))).map id (by intro _; rfl) (fun _ h => h.2)
theorem rdWaiter : Reads Tryd.prog 100 Waiter.cl (fun _ => True) :=
  (Reads.struct (l := [(3, 0), (3, 1), (3, 2)]) (tot := 3) (by kernel_rfl) (ReadsF.cons 1 (by kernel_rfl) rdInt (ReadsF.cons 1 (by kernel_rfl) rdInt (ReadsF.cons 1 (by kernel_rfl) rdInt ReadsF.nil)))).map
    (fun x => ⟨x.1, x.2.1, x.2.2.1⟩) (by intro _; rfl) (fun _ _ => trivial)
theorem rdWaiterS : Reads Tryd.prog 60 (fun l : List Waiter => [.fz (WaiterS l)]) (fun l => l.length ≤ maxLen) :=
  (Reads.slice (e := 100) (by kernel_rfl) rdWaiter (Nat.lt_of_lt_of_eq (m := 3) (by omega) (by kernel_rfl))).map id (by intro _; rfl) (fun _ h => h.2)
theorem rdItem : Reads Tryd.prog 96 Item.cl (fun _ => True) :=
  (Reads.struct (l := [(3, 0), (3, 1), (3, 2), (4, 3)]) (tot := 4) (by kernel_rfl) (ReadsF.cons 1 (by kernel_rfl) rdInt (ReadsF.cons 1 (by kernel_rfl) rdInt (ReadsF.cons 1 (by kernel_rfl) rdInt (ReadsF.cons 1 (by kernel_rfl) rdBool ReadsF.nil))))).map
    (fun x => ⟨x.1, x.2.1, x.2.2.1, x.2.2.2.1⟩) (by intro _; rfl) (fun _ _ => trivial)
theorem rdItemS : Reads Tryd.prog 56 (fun l : List Item => [.fz (ItemS l)]) (fun l => l.length ≤ maxLen) :=
  (Reads.slice (e := 96) (by kernel_rfl) rdItem (Nat.lt_of_lt_of_eq (m := 4) (by omega) (by kernel_rfl))).map id (by intro _; rfl) (fun _ h => h.2)
theorem rdChan : Reads Tryd.prog 62 Chan.fr (fun x => x.fit) :=
  (Reads.struct (l := [(3, 0), (40, 1), (60, 2), (60, 3), (4, 4)]) (tot := 5) (by kernel_rfl) (ReadsF.cons 1 (by kernel_rfl) rdInt (ReadsF.cons 1 (by kernel_rfl) rdIntS (ReadsF.cons 1 (by kernel_rfl) rdWaiterS (ReadsF.cons 1 (by kernel_rfl) rdWaiterS (ReadsF.cons 1 (by kernel_rfl) rdBool ReadsF.nil)))))).map
    (fun x => ⟨x.1, x.2.1, x.2.2.1, x.2.2.2.1, x.2.2.2.2.1⟩) (by intro _; rfl) (fun _ h => ⟨h.2.1, h.2.2.1, h.2.2.2.1⟩)
theorem rdChanS : Reads Tryd.prog 23 (fun l : List Chan => [.fz (ChanSf l)]) (fun l => l.length ≤ maxLen ∧ ∀ x ∈ l, x.fit) :=
  (Reads.slice (e := 62) (by kernel_rfl) rdChan (Nat.lt_of_lt_of_eq (m := 5) (by omega) (by kernel_rfl))).map id (by intro _; rfl) (fun _ h => ⟨h.2, h.1⟩)
theorem rdMutex : Reads Tryd.prog 65 Mutex.fr (fun x => x.fit) :=
  (Reads.struct (l := [(3, 0), (40, 1)]) (tot := 2) (by kernel_rfl) (ReadsF.cons 1 (by kernel_rfl) rdInt (ReadsF.cons 1 (by kernel_rfl) rdIntS ReadsF.nil))).map
    (fun x => ⟨x.1, x.2.1⟩) (by intro _; rfl) (fun _ h => h.2.1)
theorem rdMutexS : Reads Tryd.prog 24 (fun l : List Mutex => [.fz (MutexSf l)]) (fun l => l.length ≤ maxLen ∧ ∀ x ∈ l, x.fit) :=
  (Reads.slice (e := 65) (by kernel_rfl) rdMutex (Nat.lt_of_lt_of_eq (m := 2) (by omega) (by kernel_rfl))).map id (by intro _; rfl) (fun _ h => ⟨h.2, h.1⟩)
theorem rdGor : Reads Tryd.prog 58 Gor.fr (fun x => x.fit) :=
  (Reads.struct (l := [(3, 0), (3, 1), (40, 2), (3, 3), (56, 4)]) (tot := 5) (by kernel_rfl) (ReadsF.cons 1 (by kernel_rfl) rdInt (ReadsF.cons 1 (by kernel_rfl) rdInt (ReadsF.cons 1 (by kernel_rfl) rdIntS (ReadsF.cons 1 (by kernel_rfl) rdInt (ReadsF.cons 1 (by kernel_rfl) rdItemS ReadsF.nil)))))).map
    (fun x => ⟨x.1, x.2.1, x.2.2.1, x.2.2.2.1, x.2.2.2.2.1⟩) (by intro _; rfl) (fun _ h => ⟨h.2.2.1, h.2.2.2.2.1⟩)
theorem rdGorS : Reads Tryd.prog 22 (fun l : List Gor => [.fz (GorSf l)]) (fun l => l.length ≤ maxLen ∧ ∀ x ∈ l, x.fit) :=
  (Reads.slice (e := 58) (by kernel_rfl) rdGor (Nat.lt_of_lt_of_eq (m := 5) (by omega) (by kernel_rfl))).map id (by intro _; rfl) (fun _ h => ⟨h.2, h.1⟩)
theorem rdEng : Reads Tryd.prog 26 Eng.fr (fun x => x.fit) :=
  (Reads.struct (l := [(22, 0), (23, 1), (24, 2)]) (tot := 3) (by kernel_rfl) (ReadsF.cons 1 (by kernel_rfl) rdGorS (ReadsF.cons 1 (by kernel_rfl) rdChanS (ReadsF.cons 1 (by kernel_rfl) rdMutexS ReadsF.nil)))).map
    (fun x => ⟨x.1, x.2.1, x.2.2.1⟩) (by intro _; rfl) (fun _ h => ⟨h.1.1, h.1.2, h.2.1.1, h.2.1.2, h.2.2.1.1, h.2.2.1.2⟩)
end HT
