import Derived.Test.YteeefpifkepbpaaEHSW3
/-
  My own texts (road H): HSW4.
-/
set_option linter.unusedSimpArgs false
namespace HS
open Go Go.Proofs HK
set_option maxHeartbeats 1000000 in
theorem logRead_i1 (b : List Int) (hl : b.length ≤ 1048576) (hb : ∀ x ∈ b, isB x) (A S : Nat) (hr : scan b 0 [] = ([], A, S)) : Fn Try.prog 47 [.fz (YS b)] (.tup [.agg [.int .i64 0, .nil], .int .i64 3]) := by
  refine Fn.intro Try.func47 (by decide) rfl (rs := [.cell 2 45, .tmp 3]) rfl Try.ntmps47 (by simp) ?_; refine SW.rg fun K hK => ?_; simp -implicitDefEqProofs
  repeat (refine And.intro (by clear hK; first | omega | (intros; omega) | (intros; simp_all; done) | (intros; grind)) ?_)
  refine hK _ ?_; clear hK K; refine SW.rg fun K hK => ?_; simp -implicitDefEqProofs; repeat (refine And.intro (by clear hK; first | omega | (intros; omega) | (intros; simp_all; done) | (intros; grind)) ?_)
  refine CallS.mono (scan_i b (by omega) hb _ hr) ?_
  rintro o h' ⟨rfl, rfl⟩
  simp -implicitDefEqProofs; repeat (refine And.intro (by clear hK; first | omega | (intros; omega) | (intros; simp_all; done) | (intros; grind)) ?_)
  refine hK _ ?_; clear hK K; refine SW.seqK fun K1 hK1 => ?_; refine SW.rg fun K hK => ?_; simp -implicitDefEqProofs; repeat (refine And.intro (by clear hK; first | omega | (intros; omega) | (intros; simp_all; done) | (intros; grind)) ?_)
  refine hK _ ?_; clear hK K; refine SW.cond _ rfl (by simp) ?_ ?_
  case' refine_2 =>
   intro hb1
   first
   | (exfalso; simp at hb1; done)
   | (exfalso; simp at hb1; omega)
   | (
    refine SW.skip ?_; refine hK1 _ ?_; refine SW.rg fun K hK => ?_; simp -implicitDefEqProofs; repeat (refine And.intro (by clear hK; first | omega | (intros; omega) | (intros; simp_all; done) | (intros; grind)) ?_)
    refine hK _ ?_; clear hK K; refine SW.rg fun K hK => ?_; simp -implicitDefEqProofs; repeat (refine And.intro (by clear hK; first | omega | (intros; omega) | (intros; simp_all; done) | (intros; grind)) ?_)
    refine hK _ ?_; clear hK K; refine SW.seqK fun K2 hK2 => ?_; refine SW.rg fun K hK => ?_; simp -implicitDefEqProofs; repeat (refine And.intro (by clear hK; first | omega | (intros; omega) | (intros; simp_all; done) | (intros; grind)) ?_)
    refine hK _ ?_; clear hK K; refine SW.cond _ rfl (by simp) ?_ ?_
    case' refine_2 =>
     intro hb2
     first
     | (exfalso; simp at hb2; done)
     | (exfalso; simp at hb2; omega)
     | (
      refine SW.skip ?_; refine hK2 _ ?_; refine SW.rg fun K hK => ?_; simp -implicitDefEqProofs; repeat (refine And.intro (by clear hK; first | omega | (intros; omega) | (intros; simp_all; done) | (intros; grind)) ?_)
      fail
      simp -implicitDefEqProofs; repeat (refine And.intro (by clear hK; first | omega | (intros; omega) | (intros; simp_all; done) | (intros; grind)) ?_)
      refine hK _ ?_; clear hK K; refine SW.seqK fun K3 hK3 => ?_; refine SW.rg fun K hK => ?_; simp -implicitDefEqProofs
      repeat (refine And.intro (by clear hK; first | omega | (intros; omega) | (intros; simp_all; done) | (intros; grind)) ?_)
      refine hK _ ?_; clear hK K; refine SW.cond _ rfl (by simp) ?_ ?_
      case' refine_2 =>
       intro hb3
       first
       | (exfalso; simp at hb3; done)
       | (exfalso; simp at hb3; omega)
       | (
        refine SW.skip ?_; refine hK3 _ ?_; refine SW.rg fun K hK => ?_; simp -implicitDefEqProofs; repeat (refine And.intro (by clear hK; first | omega | (intros; omega) | (intros; simp_all; done) | (intros; grind)) ?_)
        refine hK _ ?_; clear hK K; refine SW.seqK fun K4 hK4 => ?_; refine SW.rg fun K hK => ?_; simp -implicitDefEqProofs
        repeat (refine And.intro (by clear hK; first | omega | (intros; omega) | (intros; simp_all; done) | (intros; grind)) ?_)
        refine hK _ ?_; clear hK K; refine SW.block ?_; refine SW.loop (α := Nat) (fun x => ⟨[], []⟩) (fun x => True) (fun x => 0) (0) ?_ ?_ (fun x hx => ?_)
        case' refine_1 =>
         simp
        case' refine_2 =>
         exact Wk.cut (by simp) (by simp [subE]) (by simp [cutH]) (by simp [lowE, lowN]) (by simp)
        case' refine_3 =>
         skip
         refine SW.rg fun K hK => ?_; simp -implicitDefEqProofs; repeat (refine And.intro (by clear hK; first | omega | (intros; omega) | (intros; simp_all; done) | (intros; grind)) ?_)
         refine hK _ ?_; clear hK K; refine SW.seqK fun K5 hK5 => ?_; refine SW.cond _ rfl (by simp) ?_ ?_
         case' refine_2 =>
          intro hb4
          first
          | (exfalso; simp at hb4; done)
          | (exfalso; simp at hb4; omega)
          | (
           refine SW.exit ?_; simp only [Ex.then, Ex.ib]; try simp only [if_true, if_false, reduceIte]
           refine hK4 _ ?_; refine SW.rg fun K hK => ?_; simp -implicitDefEqProofs; repeat (refine And.intro (by clear hK; first | omega | (intros; omega) | (intros; simp_all; done) | (intros; grind)) ?_)
           refine hK _ ?_; clear hK K; refine SW.ret ?_; simp [Ex.then, Ex.ib]
           all_goals first
             | done
             | (simp; done)
             | fail)
         rotate_right
         case' _ =>
          intro hb4
          first
          | (exfalso; simp at hb4; done)
          | (exfalso; simp at hb4; omega)
          | (
           refine SW.skip ?_; refine hK5 _ ?_; refine SW.seqK fun K6 hK6 => ?_; refine SW.block ?_; refine SW.rg fun K hK => ?_; simp -implicitDefEqProofs
           repeat (refine And.intro (by clear hK; first | omega | (intros; omega) | (intros; simp_all; done) | (intros; grind)) ?_)
           refine hK _ ?_; clear hK K; refine SW.rg fun K hK => ?_; simp -implicitDefEqProofs; repeat (refine And.intro (by clear hK; first | omega | (intros; omega) | (intros; simp_all; done) | (intros; grind)) ?_)
           fail
           simp -implicitDefEqProofs; repeat (refine And.intro (by clear hK; first | omega | (intros; omega) | (intros; simp_all; done) | (intros; grind)) ?_)
           refine hK _ ?_; clear hK K; refine SW.rg fun K hK => ?_; simp -implicitDefEqProofs; repeat (refine And.intro (by clear hK; first | omega | (intros; omega) | (intros; simp_all; done) | (intros; grind)) ?_)
           fail
           simp -implicitDefEqProofs; repeat (refine And.intro (by clear hK; first | omega | (intros; omega) | (intros; simp_all; done) | (intros; grind)) ?_)
           refine hK _ ?_; clear hK K; refine SW.seqK fun K7 hK7 => ?_; refine SW.rg fun K hK => ?_; simp -implicitDefEqProofs
           repeat (refine And.intro (by clear hK; first | omega | (intros; omega) | (intros; simp_all; done) | (intros; grind)) ?_)
           fail
           simp -implicitDefEqProofs; repeat (refine And.intro (by clear hK; first | omega | (intros; omega) | (intros; simp_all; done) | (intros; grind)) ?_)
           refine hK _ ?_; clear hK K; refine SW.cond _ rfl (by simp) ?_ ?_
           case' refine_2 =>
            intro hb5
            first
            | (exfalso; simp at hb5; done)
            | (exfalso; simp at hb5; omega)
            | (
             refine SW.skip ?_; refine hK7 _ ?_; refine SW.regionE fun K hK => ?_; simp -implicitDefEqProofs; repeat (refine And.intro (by clear hK; first | omega | (intros; omega) | (intros; simp_all; done) | (intros; grind)) ?_)
             refine hK _ ?_; clear hK K; refine hK6 _ ?_; refine SW.regionE fun K hK => ?_; simp -implicitDefEqProofs; repeat (refine And.intro (by clear hK; first | omega | (intros; omega) | (intros; simp_all; done) | (intros; grind)) ?_)
             refine hK _ ?_; clear hK K
             fail)
           rotate_right
           case' _ =>
            intro hb5
            first
            | (exfalso; simp at hb5; done)
            | (exfalso; simp at hb5; omega)
            | (
             refine SW.rg fun K hK => ?_; simp -implicitDefEqProofs; repeat (refine And.intro (by clear hK; first | omega | (intros; omega) | (intros; simp_all; done) | (intros; grind)) ?_)
             refine hK _ ?_; clear hK K; refine SW.ret ?_; simp [Ex.then, Ex.ib]
             all_goals first
               | done
               | (simp; done)
               | fail)))
      rotate_right
      case' _ =>
       intro hb3
       first
       | (exfalso; simp at hb3; done)
       | (exfalso; simp at hb3; omega)
       | (
        refine SW.rg fun K hK => ?_; simp -implicitDefEqProofs; repeat (refine And.intro (by clear hK; first | omega | (intros; omega) | (intros; simp_all; done) | (intros; grind)) ?_)
        refine hK _ ?_; clear hK K; refine SW.ret ?_; simp [Ex.then, Ex.ib]
        all_goals first
          | done
          | (simp; done)
          | fail))
    rotate_right
    case' _ =>
     intro hb2
     first
     | (exfalso; simp at hb2; done)
     | (exfalso; simp at hb2; omega)
     | (
      refine SW.rg fun K hK => ?_; simp -implicitDefEqProofs; repeat (refine And.intro (by clear hK; first | omega | (intros; omega) | (intros; simp_all; done) | (intros; grind)) ?_)
      refine hK _ ?_; clear hK K; refine SW.ret ?_; simp [Ex.then, Ex.ib]
      all_goals first
        | done
        | (simp; done)
        | fail))
  rotate_right
  case' _ =>
   intro hb1
   first
   | (exfalso; simp at hb1; done)
   | (exfalso; simp at hb1; omega)
   | (
    refine SW.rg fun K hK => ?_; simp -implicitDefEqProofs; repeat (refine And.intro (by clear hK; first | omega | (intros; omega) | (intros; simp_all; done) | (intros; grind)) ?_)
    refine hK _ ?_; clear hK K; refine SW.ret ?_; simp [Ex.then, Ex.ib]
    all_goals first
      | done
      | (simp; done)
      | fail)
set_option maxHeartbeats 1000000 in
theorem logRead_i2a (b : List Int) (hl : b.length ≤ 1048576) (hb : ∀ x ∈ b, isB x) (c0 : List Int) (cr : List (List Int)) (A S : Nat) (hr : scan b 0 [] = (c0 :: cr, A, S)) (h7 : c0.length < 7) : Fn Try.prog 47 [.fz (YS b)] (.tup [.agg [.int .i64 0, .nil], .int .i64 3]) := by
  refine Fn.intro Try.func47 (by decide) rfl (rs := [.cell 2 45, .tmp 3]) rfl Try.ntmps47 (by simp) ?_; have hall := scan_all0 hb hl
  rw [hr] at hall; have hc0 := (hall c0 (by simp)).1
  have hc0l := (hall c0 (by simp)).2
  have hcl : cr.length + 1 ≤ b.length := by have := scan_len b; rw [hr] at this; simpa using this
  refine SW.rg fun K hK => ?_; simp -implicitDefEqProofs; repeat (refine And.intro (by clear hK; first | omega | (intros; omega) | (intros; simp_all; done) | (intros; grind)) ?_)
  refine hK _ ?_; clear hK K; refine SW.rg fun K hK => ?_; simp -implicitDefEqProofs; repeat (refine And.intro (by clear hK; first | omega | (intros; omega) | (intros; simp_all; done) | (intros; grind)) ?_)
  refine CallS.mono (scan_i b (by omega) hb _ hr) ?_
  rintro o h' ⟨rfl, rfl⟩
  simp -implicitDefEqProofs; repeat (refine And.intro (by clear hK; first | omega | (intros; omega) | (intros; simp_all; done) | (intros; grind)) ?_)
  refine hK _ ?_; clear hK K; refine SW.seqK fun K1 hK1 => ?_; refine SW.rg fun K hK => ?_; simp -implicitDefEqProofs; repeat (refine And.intro (by clear hK; first | omega | (intros; omega) | (intros; simp_all; done) | (intros; grind)) ?_)
  refine hK _ ?_; clear hK K; refine SW.cond _ rfl (by simp) ?_ ?_
  case' refine_2 =>
   intro hb1
   first
   | (exfalso; simp at hb1; done)
   | (exfalso; simp at hb1; omega)
   | (
    refine SW.skip ?_; refine hK1 _ ?_; refine SW.rg fun K hK => ?_; simp -implicitDefEqProofs; repeat (refine And.intro (by clear hK; first | omega | (intros; omega) | (intros; simp_all; done) | (intros; grind)) ?_)
    refine hK _ ?_; clear hK K; refine SW.rg fun K hK => ?_; simp -implicitDefEqProofs; repeat (refine And.intro (by clear hK; first | omega | (intros; omega) | (intros; simp_all; done) | (intros; grind)) ?_)
    refine hK _ ?_; clear hK K; refine SW.seqK fun K2 hK2 => ?_; refine SW.rg fun K hK => ?_; simp -implicitDefEqProofs [h7, YS_takeN]
    repeat (refine And.intro (by clear hK; first | omega | (intros; omega) | (intros; simp_all; done) | (intros; grind)) ?_)
    refine hK _ ?_; clear hK K; refine SW.cond _ rfl (by simp) ?_ ?_
    case' refine_2 =>
     intro hb2
     first
     | (exfalso; simp at hb2; done)
     | (exfalso; simp at hb2; omega)
     | (
      refine SW.skip ?_; refine hK2 _ ?_; refine SW.rg fun K hK => ?_; simp -implicitDefEqProofs; repeat (refine And.intro (by clear hK; first | omega | (intros; omega) | (intros; simp_all; done) | (intros; grind)) ?_)
      first
        | refine CallQ.fzE (show HK.Fn Try.prog 75 [.fz (YS c0), .int .i64 7] (.tup [.int .i64 (nv (getV c0 7) : Nat), .int .i64 (pv (getV c0 7) : Nat), .bool (getV c0 7).isSome]) by rw [← getA_eq]; exact getVar_impl c0 7 (by omega) hc0) (by simp) ?_
        | refine CallK.fzE (show HK.Fn Try.prog 75 [.fz (YS c0), .int .i64 7] (.tup [.int .i64 (nv (getV c0 7) : Nat), .int .i64 (pv (getV c0 7) : Nat), .bool (getV c0 7).isSome]) by rw [← getA_eq]; exact getVar_impl c0 7 (by omega) hc0) (by simp) ?_
      simp -implicitDefEqProofs; repeat (refine And.intro (by clear hK; first | omega | (intros; omega) | (intros; simp_all; done) | (intros; grind)) ?_)
      refine hK _ ?_; clear hK K; refine SW.seqK fun K3 hK3 => ?_; refine SW.rg fun K hK => ?_; simp -implicitDefEqProofs
      repeat (refine And.intro (by clear hK; first | omega | (intros; omega) | (intros; simp_all; done) | (intros; grind)) ?_)
      refine hK _ ?_; clear hK K; refine SW.cond _ rfl (by simp) ?_ ?_
      case' refine_2 =>
       intro hb3
       first
       | (exfalso; simp at hb3; done)
       | (exfalso; simp at hb3; omega)
       | (
        refine SW.skip ?_; refine hK3 _ ?_; refine SW.rg fun K hK => ?_; simp -implicitDefEqProofs; repeat (refine And.intro (by clear hK; first | omega | (intros; omega) | (intros; simp_all; done) | (intros; grind)) ?_)
        refine hK _ ?_; clear hK K; refine SW.seqK fun K4 hK4 => ?_; refine SW.rg fun K hK => ?_; simp -implicitDefEqProofs
        repeat (refine And.intro (by clear hK; first | omega | (intros; omega) | (intros; simp_all; done) | (intros; grind)) ?_)
        refine hK _ ?_; clear hK K; refine SW.block ?_; refine SW.loop (α := Nat) (fun x => ⟨[], []⟩) (fun x => True) (fun x => 0) (0) ?_ ?_ (fun x hx => ?_)
        case' refine_1 =>
         simp
        case' refine_2 =>
         exact Wk.cut (by simp) (by simp [subE]) (by simp [cutH]) (by simp [lowE, lowN]) (by simp)
        case' refine_3 =>
         skip
         refine SW.rg fun K hK => ?_; simp -implicitDefEqProofs; repeat (refine And.intro (by clear hK; first | omega | (intros; omega) | (intros; simp_all; done) | (intros; grind)) ?_)
         refine hK _ ?_; clear hK K; refine SW.seqK fun K5 hK5 => ?_; refine SW.cond _ rfl (by simp) ?_ ?_
         case' refine_2 =>
          intro hb4
          first
          | (exfalso; simp at hb4; done)
          | (exfalso; simp at hb4; omega)
          | (
           refine SW.exit ?_; simp only [Ex.then, Ex.ib]; try simp only [if_true, if_false, reduceIte]
           refine hK4 _ ?_; refine SW.rg fun K hK => ?_; simp -implicitDefEqProofs; repeat (refine And.intro (by clear hK; first | omega | (intros; omega) | (intros; simp_all; done) | (intros; grind)) ?_)
           refine hK _ ?_; clear hK K; refine SW.ret ?_; simp [Ex.then, Ex.ib]
           all_goals first
             | done
             | (simp; done)
             | fail)
         rotate_right
         case' _ =>
          intro hb4
          first
          | (exfalso; simp at hb4; done)
          | (exfalso; simp at hb4; omega)
          | (
           refine SW.skip ?_; refine hK5 _ ?_; refine SW.seqK fun K6 hK6 => ?_; refine SW.block ?_; refine SW.rg fun K hK => ?_; simp -implicitDefEqProofs
           repeat (refine And.intro (by clear hK; first | omega | (intros; omega) | (intros; simp_all; done) | (intros; grind)) ?_)
           refine hK _ ?_; clear hK K; refine SW.rg fun K hK => ?_; simp -implicitDefEqProofs; repeat (refine And.intro (by clear hK; first | omega | (intros; omega) | (intros; simp_all; done) | (intros; grind)) ?_)
           fail
           simp -implicitDefEqProofs; repeat (refine And.intro (by clear hK; first | omega | (intros; omega) | (intros; simp_all; done) | (intros; grind)) ?_)
           refine hK _ ?_; clear hK K; refine SW.rg fun K hK => ?_; simp -implicitDefEqProofs; repeat (refine And.intro (by clear hK; first | omega | (intros; omega) | (intros; simp_all; done) | (intros; grind)) ?_)
           fail
           simp -implicitDefEqProofs; repeat (refine And.intro (by clear hK; first | omega | (intros; omega) | (intros; simp_all; done) | (intros; grind)) ?_)
           refine hK _ ?_; clear hK K; refine SW.seqK fun K7 hK7 => ?_; refine SW.rg fun K hK => ?_; simp -implicitDefEqProofs
           repeat (refine And.intro (by clear hK; first | omega | (intros; omega) | (intros; simp_all; done) | (intros; grind)) ?_)
           fail
           simp -implicitDefEqProofs; repeat (refine And.intro (by clear hK; first | omega | (intros; omega) | (intros; simp_all; done) | (intros; grind)) ?_)
           refine hK _ ?_; clear hK K; refine SW.cond _ rfl (by simp) ?_ ?_
           case' refine_2 =>
            intro hb5
            first
            | (exfalso; simp at hb5; done)
            | (exfalso; simp at hb5; omega)
            | (
             refine SW.skip ?_; refine hK7 _ ?_; refine SW.regionE fun K hK => ?_; simp -implicitDefEqProofs; repeat (refine And.intro (by clear hK; first | omega | (intros; omega) | (intros; simp_all; done) | (intros; grind)) ?_)
             refine hK _ ?_; clear hK K; refine hK6 _ ?_; refine SW.regionE fun K hK => ?_; simp -implicitDefEqProofs; repeat (refine And.intro (by clear hK; first | omega | (intros; omega) | (intros; simp_all; done) | (intros; grind)) ?_)
             refine hK _ ?_; clear hK K
             fail)
           rotate_right
           case' _ =>
            intro hb5
            first
            | (exfalso; simp at hb5; done)
            | (exfalso; simp at hb5; omega)
            | (
             refine SW.rg fun K hK => ?_; simp -implicitDefEqProofs; repeat (refine And.intro (by clear hK; first | omega | (intros; omega) | (intros; simp_all; done) | (intros; grind)) ?_)
             refine hK _ ?_; clear hK K; refine SW.ret ?_; simp [Ex.then, Ex.ib]
             all_goals first
               | done
               | (simp; done)
               | fail)))
      rotate_right
      case' _ =>
       intro hb3
       first
       | (exfalso; simp at hb3; done)
       | (exfalso; simp at hb3; omega)
       | (
        refine SW.rg fun K hK => ?_; simp -implicitDefEqProofs; repeat (refine And.intro (by clear hK; first | omega | (intros; omega) | (intros; simp_all; done) | (intros; grind)) ?_)
        refine hK _ ?_; clear hK K; refine SW.ret ?_; simp [Ex.then, Ex.ib]
        all_goals first
          | done
          | (simp; done)
          | fail))
    rotate_right
    case' _ =>
     intro hb2
     first
     | (exfalso; simp at hb2; done)
     | (exfalso; simp at hb2; omega)
     | (
      refine SW.rg fun K hK => ?_; simp -implicitDefEqProofs; repeat (refine And.intro (by clear hK; first | omega | (intros; omega) | (intros; simp_all; done) | (intros; grind)) ?_)
      refine hK _ ?_; clear hK K; refine SW.ret ?_; simp [Ex.then, Ex.ib]
      all_goals first
        | done
        | (simp; done)
        | fail))
  rotate_right
  case' _ =>
   intro hb1
   first
   | (exfalso; simp at hb1; done)
   | (exfalso; simp at hb1; omega)
   | (
    refine SW.rg fun K hK => ?_; simp -implicitDefEqProofs; repeat (refine And.intro (by clear hK; first | omega | (intros; omega) | (intros; simp_all; done) | (intros; grind)) ?_)
    refine hK _ ?_; clear hK K; refine SW.ret ?_; simp [Ex.then, Ex.ib]
    all_goals first
      | done
      | (simp; done)
      | fail)
set_option maxHeartbeats 1000000 in
theorem logRead_i2b (b : List Int) (hl : b.length ≤ 1048576) (hb : ∀ x ∈ b, isB x) (c0 : List Int) (cr : List (List Int)) (A S : Nat) (hr : scan b 0 [] = (c0 :: cr, A, S)) (h7 : 7 ≤ c0.length) (hne : ¬ strB (List.take 7 c0) = ⟨#[82, 69, 80, 76, 65, 89, 49]⟩) : Fn Try.prog 47 [.fz (YS b)] (.tup [.agg [.int .i64 0, .nil], .int .i64 3]) := by
  refine Fn.intro Try.func47 (by decide) rfl (rs := [.cell 2 45, .tmp 3]) rfl Try.ntmps47 (by simp) ?_; have hall := scan_all0 hb hl
  rw [hr] at hall; have hc0 := (hall c0 (by simp)).1
  have hc0l := (hall c0 (by simp)).2
  have hcl : cr.length + 1 ≤ b.length := by have := scan_len b; rw [hr] at this; simpa using this
  have h7n : ¬ c0.length < 7 := by omega
  refine SW.rg fun K hK => ?_; simp -implicitDefEqProofs; repeat (refine And.intro (by clear hK; first | omega | (intros; omega) | (intros; simp_all; done) | (intros; grind)) ?_)
  refine hK _ ?_; clear hK K; refine SW.rg fun K hK => ?_; simp -implicitDefEqProofs; repeat (refine And.intro (by clear hK; first | omega | (intros; omega) | (intros; simp_all; done) | (intros; grind)) ?_)
  refine CallS.mono (scan_i b (by omega) hb _ hr) ?_
  rintro o h' ⟨rfl, rfl⟩
  simp -implicitDefEqProofs; repeat (refine And.intro (by clear hK; first | omega | (intros; omega) | (intros; simp_all; done) | (intros; grind)) ?_)
  refine hK _ ?_; clear hK K; refine SW.seqK fun K1 hK1 => ?_; refine SW.rg fun K hK => ?_; simp -implicitDefEqProofs; repeat (refine And.intro (by clear hK; first | omega | (intros; omega) | (intros; simp_all; done) | (intros; grind)) ?_)
  refine hK _ ?_; clear hK K; refine SW.cond _ rfl (by simp) ?_ ?_
  case' refine_2 =>
   intro hb1
   first
   | (exfalso; simp at hb1; done)
   | (exfalso; simp at hb1; omega)
   | (
    refine SW.skip ?_; refine hK1 _ ?_; refine SW.rg fun K hK => ?_; simp -implicitDefEqProofs; repeat (refine And.intro (by clear hK; first | omega | (intros; omega) | (intros; simp_all; done) | (intros; grind)) ?_)
    refine hK _ ?_; clear hK K; refine SW.rg fun K hK => ?_; simp -implicitDefEqProofs; repeat (refine And.intro (by clear hK; first | omega | (intros; omega) | (intros; simp_all; done) | (intros; grind)) ?_)
    refine hK _ ?_; clear hK K; refine SW.seqK fun K2 hK2 => ?_; refine SW.rg fun K hK => ?_; simp -implicitDefEqProofs [h7n, hne, YS_takeN]
    repeat (refine And.intro (by clear hK; first | omega | (intros; omega) | (intros; simp_all; done) | (intros; grind)) ?_)
    refine hK _ ?_; clear hK K; refine SW.cond _ rfl (by simp) ?_ ?_
    case' refine_2 =>
     intro hb2
     first
     | (exfalso; simp at hb2; done)
     | (exfalso; simp at hb2; omega)
     | (
      refine SW.skip ?_; refine hK2 _ ?_; refine SW.rg fun K hK => ?_; simp -implicitDefEqProofs; repeat (refine And.intro (by clear hK; first | omega | (intros; omega) | (intros; simp_all; done) | (intros; grind)) ?_)
      first
        | refine CallQ.fzE (show HK.Fn Try.prog 75 [.fz (YS c0), .int .i64 7] (.tup [.int .i64 (nv (getV c0 7) : Nat), .int .i64 (pv (getV c0 7) : Nat), .bool (getV c0 7).isSome]) by rw [← getA_eq]; exact getVar_impl c0 7 (by omega) hc0) (by simp) ?_
        | refine CallK.fzE (show HK.Fn Try.prog 75 [.fz (YS c0), .int .i64 7] (.tup [.int .i64 (nv (getV c0 7) : Nat), .int .i64 (pv (getV c0 7) : Nat), .bool (getV c0 7).isSome]) by rw [← getA_eq]; exact getVar_impl c0 7 (by omega) hc0) (by simp) ?_
      simp -implicitDefEqProofs; repeat (refine And.intro (by clear hK; first | omega | (intros; omega) | (intros; simp_all; done) | (intros; grind)) ?_)
      refine hK _ ?_; clear hK K; refine SW.seqK fun K3 hK3 => ?_; refine SW.rg fun K hK => ?_; simp -implicitDefEqProofs
      repeat (refine And.intro (by clear hK; first | omega | (intros; omega) | (intros; simp_all; done) | (intros; grind)) ?_)
      refine hK _ ?_; clear hK K; refine SW.cond _ rfl (by simp) ?_ ?_
      case' refine_2 =>
       intro hb3
       first
       | (exfalso; simp at hb3; done)
       | (exfalso; simp at hb3; omega)
       | (
        refine SW.skip ?_; refine hK3 _ ?_; refine SW.rg fun K hK => ?_; simp -implicitDefEqProofs; repeat (refine And.intro (by clear hK; first | omega | (intros; omega) | (intros; simp_all; done) | (intros; grind)) ?_)
        refine hK _ ?_; clear hK K; refine SW.seqK fun K4 hK4 => ?_; refine SW.rg fun K hK => ?_; simp -implicitDefEqProofs
        repeat (refine And.intro (by clear hK; first | omega | (intros; omega) | (intros; simp_all; done) | (intros; grind)) ?_)
        refine hK _ ?_; clear hK K; refine SW.block ?_; refine SW.loop (α := Nat) (fun x => ⟨[], []⟩) (fun x => True) (fun x => 0) (0) ?_ ?_ (fun x hx => ?_)
        case' refine_1 =>
         simp
        case' refine_2 =>
         exact Wk.cut (by simp) (by simp [subE]) (by simp [cutH]) (by simp [lowE, lowN]) (by simp)
        case' refine_3 =>
         skip
         refine SW.rg fun K hK => ?_; simp -implicitDefEqProofs; repeat (refine And.intro (by clear hK; first | omega | (intros; omega) | (intros; simp_all; done) | (intros; grind)) ?_)
         refine hK _ ?_; clear hK K; refine SW.seqK fun K5 hK5 => ?_; refine SW.cond _ rfl (by simp) ?_ ?_
         case' refine_2 =>
          intro hb4
          first
          | (exfalso; simp at hb4; done)
          | (exfalso; simp at hb4; omega)
          | (
           refine SW.exit ?_; simp only [Ex.then, Ex.ib]; try simp only [if_true, if_false, reduceIte]
           refine hK4 _ ?_; refine SW.rg fun K hK => ?_; simp -implicitDefEqProofs; repeat (refine And.intro (by clear hK; first | omega | (intros; omega) | (intros; simp_all; done) | (intros; grind)) ?_)
           refine hK _ ?_; clear hK K; refine SW.ret ?_; simp [Ex.then, Ex.ib]
           all_goals first
             | done
             | (simp; done)
             | fail)
         rotate_right
         case' _ =>
          intro hb4
          first
          | (exfalso; simp at hb4; done)
          | (exfalso; simp at hb4; omega)
          | (
           refine SW.skip ?_; refine hK5 _ ?_; refine SW.seqK fun K6 hK6 => ?_; refine SW.block ?_; refine SW.rg fun K hK => ?_; simp -implicitDefEqProofs
           repeat (refine And.intro (by clear hK; first | omega | (intros; omega) | (intros; simp_all; done) | (intros; grind)) ?_)
           refine hK _ ?_; clear hK K; refine SW.rg fun K hK => ?_; simp -implicitDefEqProofs; repeat (refine And.intro (by clear hK; first | omega | (intros; omega) | (intros; simp_all; done) | (intros; grind)) ?_)
           fail
           simp -implicitDefEqProofs; repeat (refine And.intro (by clear hK; first | omega | (intros; omega) | (intros; simp_all; done) | (intros; grind)) ?_)
           refine hK _ ?_; clear hK K; refine SW.rg fun K hK => ?_; simp -implicitDefEqProofs; repeat (refine And.intro (by clear hK; first | omega | (intros; omega) | (intros; simp_all; done) | (intros; grind)) ?_)
           fail
           simp -implicitDefEqProofs; repeat (refine And.intro (by clear hK; first | omega | (intros; omega) | (intros; simp_all; done) | (intros; grind)) ?_)
           refine hK _ ?_; clear hK K; refine SW.seqK fun K7 hK7 => ?_; refine SW.rg fun K hK => ?_; simp -implicitDefEqProofs
           repeat (refine And.intro (by clear hK; first | omega | (intros; omega) | (intros; simp_all; done) | (intros; grind)) ?_)
           fail
           simp -implicitDefEqProofs; repeat (refine And.intro (by clear hK; first | omega | (intros; omega) | (intros; simp_all; done) | (intros; grind)) ?_)
           refine hK _ ?_; clear hK K; refine SW.cond _ rfl (by simp) ?_ ?_
           case' refine_2 =>
            intro hb5
            first
            | (exfalso; simp at hb5; done)
            | (exfalso; simp at hb5; omega)
            | (
             refine SW.skip ?_; refine hK7 _ ?_; refine SW.regionE fun K hK => ?_; simp -implicitDefEqProofs; repeat (refine And.intro (by clear hK; first | omega | (intros; omega) | (intros; simp_all; done) | (intros; grind)) ?_)
             refine hK _ ?_; clear hK K; refine hK6 _ ?_; refine SW.regionE fun K hK => ?_; simp -implicitDefEqProofs; repeat (refine And.intro (by clear hK; first | omega | (intros; omega) | (intros; simp_all; done) | (intros; grind)) ?_)
             refine hK _ ?_; clear hK K
             fail)
           rotate_right
           case' _ =>
            intro hb5
            first
            | (exfalso; simp at hb5; done)
            | (exfalso; simp at hb5; omega)
            | (
             refine SW.rg fun K hK => ?_; simp -implicitDefEqProofs; repeat (refine And.intro (by clear hK; first | omega | (intros; omega) | (intros; simp_all; done) | (intros; grind)) ?_)
             refine hK _ ?_; clear hK K; refine SW.ret ?_; simp [Ex.then, Ex.ib]
             all_goals first
               | done
               | (simp; done)
               | fail)))
      rotate_right
      case' _ =>
       intro hb3
       first
       | (exfalso; simp at hb3; done)
       | (exfalso; simp at hb3; omega)
       | (
        refine SW.rg fun K hK => ?_; simp -implicitDefEqProofs; repeat (refine And.intro (by clear hK; first | omega | (intros; omega) | (intros; simp_all; done) | (intros; grind)) ?_)
        refine hK _ ?_; clear hK K; refine SW.ret ?_; simp [Ex.then, Ex.ib]
        all_goals first
          | done
          | (simp; done)
          | fail))
    rotate_right
    case' _ =>
     intro hb2
     first
     | (exfalso; simp at hb2; done)
     | (exfalso; simp at hb2; omega)
     | (
      refine SW.rg fun K hK => ?_; simp -implicitDefEqProofs; repeat (refine And.intro (by clear hK; first | omega | (intros; omega) | (intros; simp_all; done) | (intros; grind)) ?_)
      refine hK _ ?_; clear hK K; refine SW.ret ?_; simp [Ex.then, Ex.ib]
      all_goals first
        | done
        | (simp; done)
        | fail))
  rotate_right
  case' _ =>
   intro hb1
   first
   | (exfalso; simp at hb1; done)
   | (exfalso; simp at hb1; omega)
   | (
    refine SW.rg fun K hK => ?_; simp -implicitDefEqProofs; repeat (refine And.intro (by clear hK; first | omega | (intros; omega) | (intros; simp_all; done) | (intros; grind)) ?_)
    refine hK _ ?_; clear hK K; refine SW.ret ?_; simp [Ex.then, Ex.ib]
    all_goals first
      | done
      | (simp; done)
      | fail)
set_option maxHeartbeats 1000000 in
theorem logRead_i2c (b : List Int) (hl : b.length ≤ 1048576) (hb : ∀ x ∈ b, isB x) (c0 : List Int) (cr : List (List Int)) (A S : Nat) (hr : scan b 0 [] = (c0 :: cr, A, S)) (h7 : 7 ≤ c0.length) (hE7 : strB (List.take 7 c0) = ⟨#[82, 69, 80, 76, 65, 89, 49]⟩) (hq : (getV c0 7).isSome = false) : Fn Try.prog 47 [.fz (YS b)] (.tup [.agg [.int .i64 0, .nil], .int .i64 3]) := by
  refine Fn.intro Try.func47 (by decide) rfl (rs := [.cell 2 45, .tmp 3]) rfl Try.ntmps47 (by simp) ?_; have hall := scan_all0 hb hl
  rw [hr] at hall; have hc0 := (hall c0 (by simp)).1
  have hc0l := (hall c0 (by simp)).2
  have hcl : cr.length + 1 ≤ b.length := by have := scan_len b; rw [hr] at this; simpa using this
  have h7n : ¬ c0.length < 7 := by omega
  refine SW.rg fun K hK => ?_; simp -implicitDefEqProofs; repeat (refine And.intro (by clear hK; first | omega | (intros; omega) | (intros; simp_all; done) | (intros; grind)) ?_)
  refine hK _ ?_; clear hK K; refine SW.rg fun K hK => ?_; simp -implicitDefEqProofs; repeat (refine And.intro (by clear hK; first | omega | (intros; omega) | (intros; simp_all; done) | (intros; grind)) ?_)
  refine CallS.mono (scan_i b (by omega) hb _ hr) ?_
  rintro o h' ⟨rfl, rfl⟩
  simp -implicitDefEqProofs; repeat (refine And.intro (by clear hK; first | omega | (intros; omega) | (intros; simp_all; done) | (intros; grind)) ?_)
  refine hK _ ?_; clear hK K; refine SW.seqK fun K1 hK1 => ?_; refine SW.rg fun K hK => ?_; simp -implicitDefEqProofs; repeat (refine And.intro (by clear hK; first | omega | (intros; omega) | (intros; simp_all; done) | (intros; grind)) ?_)
  refine hK _ ?_; clear hK K; refine SW.cond _ rfl (by simp) ?_ ?_
  case' refine_2 =>
   intro hb1
   first
   | (exfalso; simp at hb1; done)
   | (exfalso; simp at hb1; omega)
   | (
    refine SW.skip ?_; refine hK1 _ ?_; refine SW.rg fun K hK => ?_; simp -implicitDefEqProofs; repeat (refine And.intro (by clear hK; first | omega | (intros; omega) | (intros; simp_all; done) | (intros; grind)) ?_)
    refine hK _ ?_; clear hK K; refine SW.rg fun K hK => ?_; simp -implicitDefEqProofs; repeat (refine And.intro (by clear hK; first | omega | (intros; omega) | (intros; simp_all; done) | (intros; grind)) ?_)
    refine hK _ ?_; clear hK K; refine SW.seqK fun K2 hK2 => ?_; refine SW.rg fun K hK => ?_; simp -implicitDefEqProofs [h7n, hE7, YS_takeN]
    repeat (refine And.intro (by clear hK; first | omega | (intros; omega) | (intros; simp_all; done) | (intros; grind)) ?_)
    refine hK _ ?_; clear hK K; refine SW.cond _ rfl (by simp) ?_ ?_
    case' refine_2 =>
     intro hb2
     first
     | (exfalso; simp at hb2; done)
     | (exfalso; simp at hb2; omega)
     | (
      refine SW.skip ?_; refine hK2 _ ?_; refine SW.rg fun K hK => ?_; simp -implicitDefEqProofs; repeat (refine And.intro (by clear hK; first | omega | (intros; omega) | (intros; simp_all; done) | (intros; grind)) ?_)
      first
        | refine CallQ.fzE (show HK.Fn Try.prog 75 [.fz (YS c0), .int .i64 7] (.tup [.int .i64 (nv (getV c0 7) : Nat), .int .i64 (pv (getV c0 7) : Nat), .bool (getV c0 7).isSome]) by rw [← getA_eq]; exact getVar_impl c0 7 (by omega) hc0) (by simp) ?_
        | refine CallK.fzE (show HK.Fn Try.prog 75 [.fz (YS c0), .int .i64 7] (.tup [.int .i64 (nv (getV c0 7) : Nat), .int .i64 (pv (getV c0 7) : Nat), .bool (getV c0 7).isSome]) by rw [← getA_eq]; exact getVar_impl c0 7 (by omega) hc0) (by simp) ?_
      simp -implicitDefEqProofs; repeat (refine And.intro (by clear hK; first | omega | (intros; omega) | (intros; simp_all; done) | (intros; grind)) ?_)
      refine hK _ ?_; clear hK K; refine SW.seqK fun K3 hK3 => ?_; refine SW.rg fun K hK => ?_; simp -implicitDefEqProofs [hq]
      repeat (refine And.intro (by clear hK; first | omega | (intros; omega) | (intros; simp_all; done) | (intros; grind)) ?_)
      refine hK _ ?_; clear hK K; refine SW.cond _ rfl (by simp) ?_ ?_
      case' refine_2 =>
       intro hb3
       first
       | (exfalso; simp at hb3; done)
       | (exfalso; simp at hb3; omega)
       | (
        refine SW.skip ?_; refine hK3 _ ?_; refine SW.rg fun K hK => ?_; simp -implicitDefEqProofs; repeat (refine And.intro (by clear hK; first | omega | (intros; omega) | (intros; simp_all; done) | (intros; grind)) ?_)
        refine hK _ ?_; clear hK K; refine SW.seqK fun K4 hK4 => ?_; refine SW.rg fun K hK => ?_; simp -implicitDefEqProofs
        repeat (refine And.intro (by clear hK; first | omega | (intros; omega) | (intros; simp_all; done) | (intros; grind)) ?_)
        refine hK _ ?_; clear hK K; refine SW.block ?_; refine SW.loop (α := Nat) (fun x => ⟨[], []⟩) (fun x => True) (fun x => 0) (0) ?_ ?_ (fun x hx => ?_)
        case' refine_1 =>
         simp
        case' refine_2 =>
         exact Wk.cut (by simp) (by simp [subE]) (by simp [cutH]) (by simp [lowE, lowN]) (by simp)
        case' refine_3 =>
         skip
         refine SW.rg fun K hK => ?_; simp -implicitDefEqProofs; repeat (refine And.intro (by clear hK; first | omega | (intros; omega) | (intros; simp_all; done) | (intros; grind)) ?_)
         refine hK _ ?_; clear hK K; refine SW.seqK fun K5 hK5 => ?_; refine SW.cond _ rfl (by simp) ?_ ?_
         case' refine_2 =>
          intro hb4
          first
          | (exfalso; simp at hb4; done)
          | (exfalso; simp at hb4; omega)
          | (
           refine SW.exit ?_; simp only [Ex.then, Ex.ib]; try simp only [if_true, if_false, reduceIte]
           refine hK4 _ ?_; refine SW.rg fun K hK => ?_; simp -implicitDefEqProofs; repeat (refine And.intro (by clear hK; first | omega | (intros; omega) | (intros; simp_all; done) | (intros; grind)) ?_)
           refine hK _ ?_; clear hK K; refine SW.ret ?_; simp [Ex.then, Ex.ib]
           all_goals first
             | done
             | (simp; done)
             | fail)
         rotate_right
         case' _ =>
          intro hb4
          first
          | (exfalso; simp at hb4; done)
          | (exfalso; simp at hb4; omega)
          | (
           refine SW.skip ?_; refine hK5 _ ?_; refine SW.seqK fun K6 hK6 => ?_; refine SW.block ?_; refine SW.rg fun K hK => ?_; simp -implicitDefEqProofs
           repeat (refine And.intro (by clear hK; first | omega | (intros; omega) | (intros; simp_all; done) | (intros; grind)) ?_)
           refine hK _ ?_; clear hK K; refine SW.rg fun K hK => ?_; simp -implicitDefEqProofs; repeat (refine And.intro (by clear hK; first | omega | (intros; omega) | (intros; simp_all; done) | (intros; grind)) ?_)
           fail
           simp -implicitDefEqProofs; repeat (refine And.intro (by clear hK; first | omega | (intros; omega) | (intros; simp_all; done) | (intros; grind)) ?_)
           refine hK _ ?_; clear hK K; refine SW.rg fun K hK => ?_; simp -implicitDefEqProofs; repeat (refine And.intro (by clear hK; first | omega | (intros; omega) | (intros; simp_all; done) | (intros; grind)) ?_)
           fail
           simp -implicitDefEqProofs; repeat (refine And.intro (by clear hK; first | omega | (intros; omega) | (intros; simp_all; done) | (intros; grind)) ?_)
           refine hK _ ?_; clear hK K; refine SW.seqK fun K7 hK7 => ?_; refine SW.rg fun K hK => ?_; simp -implicitDefEqProofs
           repeat (refine And.intro (by clear hK; first | omega | (intros; omega) | (intros; simp_all; done) | (intros; grind)) ?_)
           fail
           simp -implicitDefEqProofs; repeat (refine And.intro (by clear hK; first | omega | (intros; omega) | (intros; simp_all; done) | (intros; grind)) ?_)
           refine hK _ ?_; clear hK K; refine SW.cond _ rfl (by simp) ?_ ?_
           case' refine_2 =>
            intro hb5
            first
            | (exfalso; simp at hb5; done)
            | (exfalso; simp at hb5; omega)
            | (
             refine SW.skip ?_; refine hK7 _ ?_; refine SW.regionE fun K hK => ?_; simp -implicitDefEqProofs; repeat (refine And.intro (by clear hK; first | omega | (intros; omega) | (intros; simp_all; done) | (intros; grind)) ?_)
             refine hK _ ?_; clear hK K; refine hK6 _ ?_; refine SW.regionE fun K hK => ?_; simp -implicitDefEqProofs; repeat (refine And.intro (by clear hK; first | omega | (intros; omega) | (intros; simp_all; done) | (intros; grind)) ?_)
             refine hK _ ?_; clear hK K
             fail)
           rotate_right
           case' _ =>
            intro hb5
            first
            | (exfalso; simp at hb5; done)
            | (exfalso; simp at hb5; omega)
            | (
             refine SW.rg fun K hK => ?_; simp -implicitDefEqProofs; repeat (refine And.intro (by clear hK; first | omega | (intros; omega) | (intros; simp_all; done) | (intros; grind)) ?_)
             refine hK _ ?_; clear hK K; refine SW.ret ?_; simp [Ex.then, Ex.ib]
             all_goals first
               | done
               | (simp; done)
               | fail)))
      rotate_right
      case' _ =>
       intro hb3
       first
       | (exfalso; simp at hb3; done)
       | (exfalso; simp at hb3; omega)
       | (
        refine SW.rg fun K hK => ?_; simp -implicitDefEqProofs; repeat (refine And.intro (by clear hK; first | omega | (intros; omega) | (intros; simp_all; done) | (intros; grind)) ?_)
        refine hK _ ?_; clear hK K; refine SW.ret ?_; simp [Ex.then, Ex.ib]
        all_goals first
          | done
          | (simp; done)
          | fail))
    rotate_right
    case' _ =>
     intro hb2
     first
     | (exfalso; simp at hb2; done)
     | (exfalso; simp at hb2; omega)
     | (
      refine SW.rg fun K hK => ?_; simp -implicitDefEqProofs; repeat (refine And.intro (by clear hK; first | omega | (intros; omega) | (intros; simp_all; done) | (intros; grind)) ?_)
      refine hK _ ?_; clear hK K; refine SW.ret ?_; simp [Ex.then, Ex.ib]
      all_goals first
        | done
        | (simp; done)
        | fail))
  rotate_right
  case' _ =>
   intro hb1
   first
   | (exfalso; simp at hb1; done)
   | (exfalso; simp at hb1; omega)
   | (
    refine SW.rg fun K hK => ?_; simp -implicitDefEqProofs; repeat (refine And.intro (by clear hK; first | omega | (intros; omega) | (intros; simp_all; done) | (intros; grind)) ?_)
    refine hK _ ?_; clear hK K; refine SW.ret ?_; simp [Ex.then, Ex.ib]
    all_goals first
      | done
      | (simp; done)
      | fail)
set_option maxHeartbeats 1000000 in
theorem logRead_i2d (b : List Int) (hl : b.length ≤ 1048576) (hb : ∀ x ∈ b, isB x) (c0 : List Int) (cr : List (List Int)) (A S : Nat) (hr : scan b 0 [] = (c0 :: cr, A, S)) (h7 : 7 ≤ c0.length) (hE7 : strB (List.take 7 c0) = ⟨#[82, 69, 80, 76, 65, 89, 49]⟩) (hq : (getV c0 7).isSome = true) (hp : ¬ pv (getV c0 7) = c0.length) : Fn Try.prog 47 [.fz (YS b)] (.tup [.agg [.int .i64 0, .nil], .int .i64 3]) := by
  refine Fn.intro Try.func47 (by decide) rfl (rs := [.cell 2 45, .tmp 3]) rfl Try.ntmps47 (by simp) ?_; have hall := scan_all0 hb hl
  rw [hr] at hall; have hc0 := (hall c0 (by simp)).1
  have hc0l := (hall c0 (by simp)).2
  have hcl : cr.length + 1 ≤ b.length := by have := scan_len b; rw [hr] at this; simpa using this
  have h7n : ¬ c0.length < 7 := by omega
  have hp2 : ((pv (getV c0 7) : Nat) : Int) ≠ (c0.length : Int) := by omega
  refine SW.rg fun K hK => ?_; simp -implicitDefEqProofs; repeat (refine And.intro (by clear hK; first | omega | (intros; omega) | (intros; simp_all; done) | (intros; grind)) ?_)
  refine hK _ ?_; clear hK K; refine SW.rg fun K hK => ?_; simp -implicitDefEqProofs; repeat (refine And.intro (by clear hK; first | omega | (intros; omega) | (intros; simp_all; done) | (intros; grind)) ?_)
  refine CallS.mono (scan_i b (by omega) hb _ hr) ?_
  rintro o h' ⟨rfl, rfl⟩
  simp -implicitDefEqProofs; repeat (refine And.intro (by clear hK; first | omega | (intros; omega) | (intros; simp_all; done) | (intros; grind)) ?_)
  refine hK _ ?_; clear hK K; refine SW.seqK fun K1 hK1 => ?_; refine SW.rg fun K hK => ?_; simp -implicitDefEqProofs; repeat (refine And.intro (by clear hK; first | omega | (intros; omega) | (intros; simp_all; done) | (intros; grind)) ?_)
  refine hK _ ?_; clear hK K; refine SW.cond _ rfl (by simp) ?_ ?_
  case' refine_2 =>
   intro hb1
   first
   | (exfalso; simp at hb1; done)
   | (exfalso; simp at hb1; omega)
   | (
    refine SW.skip ?_; refine hK1 _ ?_; refine SW.rg fun K hK => ?_; simp -implicitDefEqProofs; repeat (refine And.intro (by clear hK; first | omega | (intros; omega) | (intros; simp_all; done) | (intros; grind)) ?_)
    refine hK _ ?_; clear hK K; refine SW.rg fun K hK => ?_; simp -implicitDefEqProofs; repeat (refine And.intro (by clear hK; first | omega | (intros; omega) | (intros; simp_all; done) | (intros; grind)) ?_)
    refine hK _ ?_; clear hK K; refine SW.seqK fun K2 hK2 => ?_; refine SW.rg fun K hK => ?_; simp -implicitDefEqProofs [h7n, hE7, YS_takeN]
    repeat (refine And.intro (by clear hK; first | omega | (intros; omega) | (intros; simp_all; done) | (intros; grind)) ?_)
    refine hK _ ?_; clear hK K; refine SW.cond _ rfl (by simp) ?_ ?_
    case' refine_2 =>
     intro hb2
     first
     | (exfalso; simp at hb2; done)
     | (exfalso; simp at hb2; omega)
     | (
      refine SW.skip ?_; refine hK2 _ ?_; refine SW.rg fun K hK => ?_; simp -implicitDefEqProofs; repeat (refine And.intro (by clear hK; first | omega | (intros; omega) | (intros; simp_all; done) | (intros; grind)) ?_)
      first
        | refine CallQ.fzE (show HK.Fn Try.prog 75 [.fz (YS c0), .int .i64 7] (.tup [.int .i64 (nv (getV c0 7) : Nat), .int .i64 (pv (getV c0 7) : Nat), .bool (getV c0 7).isSome]) by rw [← getA_eq]; exact getVar_impl c0 7 (by omega) hc0) (by simp) ?_
        | refine CallK.fzE (show HK.Fn Try.prog 75 [.fz (YS c0), .int .i64 7] (.tup [.int .i64 (nv (getV c0 7) : Nat), .int .i64 (pv (getV c0 7) : Nat), .bool (getV c0 7).isSome]) by rw [← getA_eq]; exact getVar_impl c0 7 (by omega) hc0) (by simp) ?_
      simp -implicitDefEqProofs; repeat (refine And.intro (by clear hK; first | omega | (intros; omega) | (intros; simp_all; done) | (intros; grind)) ?_)
      refine hK _ ?_; clear hK K; refine SW.seqK fun K3 hK3 => ?_; refine SW.rg fun K hK => ?_; simp -implicitDefEqProofs [hq, hp, hp2]
      repeat (refine And.intro (by clear hK; first | omega | (intros; omega) | (intros; simp_all; done) | (intros; grind)) ?_)
      refine hK _ ?_; clear hK K; refine SW.cond _ rfl (by simp) ?_ ?_
      case' refine_2 =>
       intro hb3
       first
       | (exfalso; simp at hb3; done)
       | (exfalso; simp at hb3; omega)
       | (
        refine SW.skip ?_; refine hK3 _ ?_; refine SW.rg fun K hK => ?_; simp -implicitDefEqProofs; repeat (refine And.intro (by clear hK; first | omega | (intros; omega) | (intros; simp_all; done) | (intros; grind)) ?_)
        refine hK _ ?_; clear hK K; refine SW.seqK fun K4 hK4 => ?_; refine SW.rg fun K hK => ?_; simp -implicitDefEqProofs
        repeat (refine And.intro (by clear hK; first | omega | (intros; omega) | (intros; simp_all; done) | (intros; grind)) ?_)
        refine hK _ ?_; clear hK K; refine SW.block ?_; refine SW.loop (α := Nat) (fun x => ⟨[], []⟩) (fun x => True) (fun x => 0) (0) ?_ ?_ (fun x hx => ?_)
        case' refine_1 =>
         simp
        case' refine_2 =>
         exact Wk.cut (by simp) (by simp [subE]) (by simp [cutH]) (by simp [lowE, lowN]) (by simp)
        case' refine_3 =>
         skip
         refine SW.rg fun K hK => ?_; simp -implicitDefEqProofs; repeat (refine And.intro (by clear hK; first | omega | (intros; omega) | (intros; simp_all; done) | (intros; grind)) ?_)
         refine hK _ ?_; clear hK K; refine SW.seqK fun K5 hK5 => ?_; refine SW.cond _ rfl (by simp) ?_ ?_
         case' refine_2 =>
          intro hb4
          first
          | (exfalso; simp at hb4; done)
          | (exfalso; simp at hb4; omega)
          | (
           refine SW.exit ?_; simp only [Ex.then, Ex.ib]; try simp only [if_true, if_false, reduceIte]
           refine hK4 _ ?_; refine SW.rg fun K hK => ?_; simp -implicitDefEqProofs; repeat (refine And.intro (by clear hK; first | omega | (intros; omega) | (intros; simp_all; done) | (intros; grind)) ?_)
           refine hK _ ?_; clear hK K; refine SW.ret ?_; simp [Ex.then, Ex.ib]
           all_goals first
             | done
             | (simp; done)
             | fail)
         rotate_right
         case' _ =>
          intro hb4
          first
          | (exfalso; simp at hb4; done)
          | (exfalso; simp at hb4; omega)
          | (
           refine SW.skip ?_; refine hK5 _ ?_; refine SW.seqK fun K6 hK6 => ?_; refine SW.block ?_; refine SW.rg fun K hK => ?_; simp -implicitDefEqProofs
           repeat (refine And.intro (by clear hK; first | omega | (intros; omega) | (intros; simp_all; done) | (intros; grind)) ?_)
           refine hK _ ?_; clear hK K; refine SW.rg fun K hK => ?_; simp -implicitDefEqProofs; repeat (refine And.intro (by clear hK; first | omega | (intros; omega) | (intros; simp_all; done) | (intros; grind)) ?_)
           fail
           simp -implicitDefEqProofs; repeat (refine And.intro (by clear hK; first | omega | (intros; omega) | (intros; simp_all; done) | (intros; grind)) ?_)
           refine hK _ ?_; clear hK K; refine SW.rg fun K hK => ?_; simp -implicitDefEqProofs; repeat (refine And.intro (by clear hK; first | omega | (intros; omega) | (intros; simp_all; done) | (intros; grind)) ?_)
           fail
           simp -implicitDefEqProofs; repeat (refine And.intro (by clear hK; first | omega | (intros; omega) | (intros; simp_all; done) | (intros; grind)) ?_)
           refine hK _ ?_; clear hK K; refine SW.seqK fun K7 hK7 => ?_; refine SW.rg fun K hK => ?_; simp -implicitDefEqProofs
           repeat (refine And.intro (by clear hK; first | omega | (intros; omega) | (intros; simp_all; done) | (intros; grind)) ?_)
           fail
           simp -implicitDefEqProofs; repeat (refine And.intro (by clear hK; first | omega | (intros; omega) | (intros; simp_all; done) | (intros; grind)) ?_)
           refine hK _ ?_; clear hK K; refine SW.cond _ rfl (by simp) ?_ ?_
           case' refine_2 =>
            intro hb5
            first
            | (exfalso; simp at hb5; done)
            | (exfalso; simp at hb5; omega)
            | (
             refine SW.skip ?_; refine hK7 _ ?_; refine SW.regionE fun K hK => ?_; simp -implicitDefEqProofs; repeat (refine And.intro (by clear hK; first | omega | (intros; omega) | (intros; simp_all; done) | (intros; grind)) ?_)
             refine hK _ ?_; clear hK K; refine hK6 _ ?_; refine SW.regionE fun K hK => ?_; simp -implicitDefEqProofs; repeat (refine And.intro (by clear hK; first | omega | (intros; omega) | (intros; simp_all; done) | (intros; grind)) ?_)
             refine hK _ ?_; clear hK K
             fail)
           rotate_right
           case' _ =>
            intro hb5
            first
            | (exfalso; simp at hb5; done)
            | (exfalso; simp at hb5; omega)
            | (
             refine SW.rg fun K hK => ?_; simp -implicitDefEqProofs; repeat (refine And.intro (by clear hK; first | omega | (intros; omega) | (intros; simp_all; done) | (intros; grind)) ?_)
             refine hK _ ?_; clear hK K; refine SW.ret ?_; simp [Ex.then, Ex.ib]
             all_goals first
               | done
               | (simp; done)
               | fail)))
      rotate_right
      case' _ =>
       intro hb3
       first
       | (exfalso; simp at hb3; done)
       | (exfalso; simp at hb3; omega)
       | (
        refine SW.rg fun K hK => ?_; simp -implicitDefEqProofs; repeat (refine And.intro (by clear hK; first | omega | (intros; omega) | (intros; simp_all; done) | (intros; grind)) ?_)
        refine hK _ ?_; clear hK K; refine SW.ret ?_; simp [Ex.then, Ex.ib]
        all_goals first
          | done
          | (simp; done)
          | fail))
    rotate_right
    case' _ =>
     intro hb2
     first
     | (exfalso; simp at hb2; done)
     | (exfalso; simp at hb2; omega)
     | (
      refine SW.rg fun K hK => ?_; simp -implicitDefEqProofs; repeat (refine And.intro (by clear hK; first | omega | (intros; omega) | (intros; simp_all; done) | (intros; grind)) ?_)
      refine hK _ ?_; clear hK K; refine SW.ret ?_; simp [Ex.then, Ex.ib]
      all_goals first
        | done
        | (simp; done)
        | fail))
  rotate_right
  case' _ =>
   intro hb1
   first
   | (exfalso; simp at hb1; done)
   | (exfalso; simp at hb1; omega)
   | (
    refine SW.rg fun K hK => ?_; simp -implicitDefEqProofs; repeat (refine And.intro (by clear hK; first | omega | (intros; omega) | (intros; simp_all; done) | (intros; grind)) ?_)
    refine hK _ ?_; clear hK K; refine SW.ret ?_; simp [Ex.then, Ex.ib]
    all_goals first
      | done
      | (simp; done)
      | fail)
def logR (b : List Int) : Int × List Deed × Int := match scan b 0 [] with
  | ([], _, _) => (0, [], 3)
  | (c0 :: cr, _, S) => if hdOk c0 then ((nv (getV c0 7) : Nat), (logL S [] cr).1, ((logL S [] cr).2 : Nat)) else (0, [], 3)
abbrev LG (r : Int × List Deed × Int) : AV := .tup [.agg [.int .i64 r.1, .own 4 (DS r.2.1)], .int .i64 r.2.2]
theorem logRead_i (b : List Int) (hl : b.length ≤ 1048576) (hb : ∀ x ∈ b, isB x) : HK.Fn Try.prog 47 [.fz (YS b)] (LG (logR b)) := by
  obtain ⟨cs, A, S, hr⟩ : ∃ cs A S, scan b 0 [] = (cs, A, S) := ⟨_, _, _, rfl⟩
  unfold logR; rw [hr]; rcases cs with _ | ⟨c0, cr⟩
  · exact Fn.ownNilA 4 (logRead_i1 b hl hb A S hr)
  · have hc0 := (scan_all0 hb hl c0 (by rw [hr]; simp)).1
    simp only []
    cases hd : hdOk c0 with
    | true => exact logRead_iy b hl hb c0 cr A S hr hd
    | false =>
      refine Fn.ownNilA 4 ?_; have hn : ¬ hdOk c0 = true := by simp [hd]
      rw [hd_iff hc0] at hn; rcases Nat.lt_or_ge c0.length 7 with h7 | h7
      · exact logRead_i2a b hl hb c0 cr A S hr h7
      · by_cases ht : c0.take 7 = wordL
        · have hE7 : strB (List.take 7 c0) = ⟨#[82, 69, 80, 76, 65, 89, 49]⟩ := by rw [ht]; rfl
          cases hq : (getV c0 7).isSome with
          | false => exact logRead_i2c b hl hb c0 cr A S hr h7 hE7 hq
          | true => exact logRead_i2d b hl hb c0 cr A S hr h7 hE7 hq (fun e => hn ⟨⟨h7, ht⟩, hq, e⟩)
        · exact logRead_i2b b hl hb c0 cr A S hr h7 (fun e => by
            rw [wordS, strB_inj (takeB hc0) wordB] at e
            exact ht e)
end HS
