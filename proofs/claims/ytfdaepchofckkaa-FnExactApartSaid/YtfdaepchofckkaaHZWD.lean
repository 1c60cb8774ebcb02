import Derived.Test.YtfdaepchofckkaaHZW8
/-
  My own texts (road H): HZWD.
-/
set_option linter.unusedSimpArgs false
set_option linter.unusedVariables false
namespace HT
open Go Go.Proofs HK
set_option maxHeartbeats 1000000 in
theorem apart_s (p : Prog) (l : List Deed) (n j : Int) (h : p.ok) (hl : l.length ≤ 1048576) : Fn Try.prog 6 [.agg p.fr, .fz (DeedS l), .int .i64 n, .int .i64 j] (.bool (apart p l n j)) := by
  refine Fn.intro Try.func6 (by decide) rfl (rs := [.tmp 8]) rfl Try.ntmps6 (by simp) ?_
  have h1 := ahead_len p l n
  have h2 := ahead_len p l j
  refine SW.regionK fun K hK => ?_
  simp -implicitDefEqProofs
  repeat (refine And.intro (by clear hK; first | omega | (intros; simp_all; done) | (intros; grind)) ?_)
  refine hK _ ?_
  clear hK K
  refine SW.regionK fun K hK => ?_
  simp -implicitDefEqProofs
  repeat (refine And.intro (by clear hK; first | omega | (intros; simp_all; done) | (intros; grind)) ?_)
  first
    | refine CallQ.fzE (inl_s l n) (by simp) ?_
    | refine CallK.fzE (inl_s l n) (by simp) ?_
  simp -implicitDefEqProofs
  repeat (refine And.intro (by clear hK; first | omega | (intros; simp_all; done) | (intros; grind)) ?_)
  refine CallG.fzE (by simp) (fun _ => inl_s l j) (by simp) ?_
  simp -implicitDefEqProofs
  repeat (refine And.intro (by clear hK; first | omega | (intros; simp_all; done) | (intros; grind)) ?_)
  refine CallG.fzE (by simp) (fun _ => ahead_s p l n h hl) (by simp) ?_
  simp -implicitDefEqProofs
  repeat (refine And.intro (by clear hK; first | omega | (intros; simp_all; done) | (intros; grind)) ?_)
  refine CallG.fzE (by simp) (fun _ => has_s (ahead p l n) j (by omega)) (by simp) ?_
  simp -implicitDefEqProofs
  repeat (refine And.intro (by clear hK; first | omega | (intros; simp_all; done) | (intros; grind)) ?_)
  refine CallG.fzE (by simp) (fun _ => ahead_s p l j h hl) (by simp) ?_
  simp -implicitDefEqProofs
  repeat (refine And.intro (by clear hK; first | omega | (intros; simp_all; done) | (intros; grind)) ?_)
  refine CallG.fzE (by simp) (fun _ => has_s (ahead p l j) n (by omega)) (by simp) ?_
  simp -implicitDefEqProofs
  repeat (refine And.intro (by clear hK; first | omega | (intros; simp_all; done) | (intros; grind)) ?_)
  refine hK _ ?_
  clear hK K
  refine SW.ret ?_
  simp [Ex.then, Ex.inBlock]
  all_goals first
    | (simp [apart]; done)
    | (simp [apart, inL] at *; grind)
    | (simp [apart, inL]; done)
    | fail
set_option maxHeartbeats 1000000 in
theorem apart_i (p : Prog) (l : List Deed) (n j : Int) (h : p.ok) (hl : l.length ≤ 1048576) : Fn Try.prog 9 [.agg p.fr, .fz (DeedS l), .int .i64 n, .int .i64 j] (.bool (apart p l n j)) := by
  refine Fn.intro Try.func9 (by decide) rfl (rs := [.tmp 8]) rfl Try.ntmps9 (by simp) ?_
  have h1 := ahead_len p l n
  have h2 := ahead_len p l j
  refine SW.regionK fun K hK => ?_
  simp -implicitDefEqProofs
  repeat (refine And.intro (by clear hK; first | omega | (intros; simp_all; done) | (intros; grind)) ?_)
  refine hK _ ?_
  clear hK K
  refine SW.seqK fun K1 hK1 => ?_
  refine SW.regionK fun K hK => ?_
  simp -implicitDefEqProofs
  repeat (refine And.intro (by clear hK; first | omega | (intros; simp_all; done) | (intros; grind)) ?_)
  first
    | refine CallQ.fzE (within_ok n 0 l.length) (by simp) ?_
    | refine CallK.fzE (within_ok n 0 l.length) (by simp) ?_
  simp -implicitDefEqProofs
  repeat (refine And.intro (by clear hK; first | omega | (intros; simp_all; done) | (intros; grind)) ?_)
  refine CallG.fzE (by simp) (fun _ => within_ok j 0 l.length) (by simp) ?_
  simp -implicitDefEqProofs
  repeat (refine And.intro (by clear hK; first | omega | (intros; simp_all; done) | (intros; grind)) ?_)
  refine hK _ ?_
  clear hK K
  refine SW.cond _ rfl (by simp) ?_ ?_
  case' refine_2 =>
   intro hb1
   first
   | (exfalso; simp at hb1; done)
   | (exfalso; simp at hb1; omega)
   | (
    refine SW.skip ?_
    refine hK1 _ ?_
    refine SW.regionK fun K hK => ?_
    simp -implicitDefEqProofs
    repeat (refine And.intro (by clear hK; first | omega | (intros; simp_all; done) | (intros; grind)) ?_)
    first
      | refine CallQ.fzE (ahead_i p l n h hl) (by simp) ?_
      | refine CallK.fzE (ahead_i p l n h hl) (by simp) ?_
    simp -implicitDefEqProofs
    repeat (refine And.intro (by clear hK; first | omega | (intros; simp_all; done) | (intros; grind)) ?_)
    first
      | refine CallQ.fzE (contains_ok (ahead p l n) j (by omega)) (by simp) ?_
      | refine CallK.fzE (contains_ok (ahead p l n) j (by omega)) (by simp) ?_
    simp -implicitDefEqProofs
    repeat (refine And.intro (by clear hK; first | omega | (intros; simp_all; done) | (intros; grind)) ?_)
    refine CallG.fzE (by simp) (fun _ => ahead_i p l j h hl) (by simp) ?_
    simp -implicitDefEqProofs
    repeat (refine And.intro (by clear hK; first | omega | (intros; simp_all; done) | (intros; grind)) ?_)
    refine CallG.fzE (by simp) (fun _ => contains_ok (ahead p l j) n (by omega)) (by simp) ?_
    simp -implicitDefEqProofs
    repeat (refine And.intro (by clear hK; first | omega | (intros; simp_all; done) | (intros; grind)) ?_)
    refine hK _ ?_
    clear hK K
    refine SW.ret ?_
    simp [Ex.then, Ex.inBlock]
    all_goals first
      | (simp [apart]; done)
      | (simp [apart, inL] at *; grind)
      | (simp [apart, inL]; done)
      | fail)
  rotate_right
  case' _ =>
   intro hb1
   first
   | (exfalso; simp at hb1; done)
   | (exfalso; simp at hb1; omega)
   | (
    refine SW.regionK fun K hK => ?_
    simp -implicitDefEqProofs
    repeat (refine And.intro (by clear hK; first | omega | (intros; simp_all; done) | (intros; grind)) ?_)
    refine hK _ ?_
    clear hK K
    refine SW.ret ?_
    simp [Ex.then, Ex.inBlock]
    all_goals first
      | (simp [apart]; done)
      | (simp [apart, inL] at *; grind)
      | (simp [apart, inL]; done)
      | fail)
set_option maxHeartbeats 1000000 in
theorem law_apart (a : Prog) (l : List Deed) (n j : Int) (fa : a.fit) (fl : l.length ≤ maxLen) : Fn Try.prog 3 [.agg a.fr, .fz (DeedS l), .int .i64 n, .int .i64 j] (.bool true) := by
  refine Fn.intro Try.func3 (by decide) rfl (rs := [.tmp 8]) rfl Try.ntmps3 (by simp) ?_
  have q1 := szR_cases a.sz 1048576
  have q2 := szR_cases l.length (szR a.sz 1048576)
  have qt := Prog.tw_le a
  refine SW.regionK fun K hK => ?_
  simp -implicitDefEqProofs
  repeat refine ⟨by omega, ?_⟩
  refine hK _ ?_
  clear hK K
  refine SW.regionK fun K hK => ?_
  simp -implicitDefEqProofs
  repeat refine ⟨by omega, ?_⟩
  refine hK _ ?_
  clear hK K
  refine SW.regionK fun K hK => ?_
  simp -implicitDefEqProofs
  first | refine ⟨by omega, by omega, ?_⟩ | refine ⟨by omega, ?_⟩ | skip
  refine CallK.fzE (szProg_ok a 1048576 fa (by omega) (by omega)) (by simp) ?_
  simp -implicitDefEqProofs
  repeat refine ⟨by omega, ?_⟩
  refine hK _ ?_
  clear hK K
  refine SW.seqK fun K1 hK1 => ?_
  refine SW.regionK fun K hK => ?_
  simp -implicitDefEqProofs
  repeat refine ⟨by omega, ?_⟩
  refine hK _ ?_
  clear hK K
  refine SW.cond _ rfl (by simp) ?_ ?_
  case' refine_2 =>
   intro hb1
   first
   | (exfalso; simp at hb1; done)
   | (exfalso; simp at hb1; omega)
   | (
    have n1 : 0 ≤ szR a.sz 1048576 := by simp at hb1; omega
    have ha : a.ok := Prog.sz_ok (by omega)
    have hW : a.tw ≤ 2 ^ 30 := by omega
    have hl0 : a.caps.length ≤ 2 ^ 30 := by have := ha.1; omega
    have hl1 : a.sels.length ≤ 2 ^ 30 := by have := ha.2.1; omega
    have hl2 : a.procs.length ≤ 2 ^ 30 := by have := ha.2.2.2.1; omega
    refine SW.skip ?_
    refine hK1 _ ?_
    refine SW.regionK fun K hK => ?_
    simp -implicitDefEqProofs
    first | refine ⟨by omega, by omega, ?_⟩ | refine ⟨by omega, ?_⟩ | skip
    refine CallK.fzE (szDeedS_ok l (szR a.sz 1048576) fl (by omega) (by omega)) (by simp) ?_
    simp -implicitDefEqProofs
    repeat refine ⟨by omega, ?_⟩
    refine hK _ ?_
    clear hK K
    refine SW.seqK fun K2 hK2 => ?_
    refine SW.regionK fun K hK => ?_
    simp -implicitDefEqProofs
    repeat refine ⟨by omega, ?_⟩
    refine hK _ ?_
    clear hK K
    refine SW.cond _ rfl (by simp) ?_ ?_
    case' refine_2 =>
     intro hb2
     first
     | (exfalso; simp at hb2; done)
     | (exfalso; simp at hb2; omega)
     | (
      have n2 : 0 ≤ szR l.length (szR a.sz 1048576) := by simp at hb2; omega
      have hlm : l.length ≤ 1048576 := by omega
      refine SW.skip ?_
      refine hK2 _ ?_
      refine SW.regionK fun K hK => ?_
      simp -implicitDefEqProofs
      first | refine ⟨by omega, by omega, ?_⟩ | refine ⟨by omega, ?_⟩ | skip
      first
        | refine CallQ.fzE (toProg_ok a ha) (by simp) ?_
        | refine CallK.fzE (toProg_ok a ha) (by simp) ?_
      simp -implicitDefEqProofs
      first | refine ⟨by omega, by omega, ?_⟩ | refine ⟨by omega, ?_⟩ | skip
      first
        | refine CallQ.fzE (toDeedS_ok l hlm) (by simp) ?_
        | refine CallK.fzE (toDeedS_ok l hlm) (by simp) ?_
      simp -implicitDefEqProofs
      first | refine ⟨by omega, by omega, ?_⟩ | refine ⟨by omega, ?_⟩ | skip
      first
        | refine CallQ.fzE (apart_s a l n j ha hlm) (by simp) ?_
        | refine CallK.fzE (apart_s a l n j ha hlm) (by simp) ?_
      simp -implicitDefEqProofs
      repeat refine ⟨by omega, ?_⟩
      refine hK _ ?_
      clear hK K
      refine SW.regionK fun K hK => ?_
      simp -implicitDefEqProofs
      first | refine ⟨by omega, by omega, ?_⟩ | refine ⟨by omega, ?_⟩ | skip
      refine CallK.imE (toProg_ok a ha) (by simp) (Prog_oI a) ?_
      simp -implicitDefEqProofs
      repeat refine ⟨by omega, ?_⟩
      refine hK _ ?_
      clear hK K
      refine SW.regionK fun K hK => ?_
      simp -implicitDefEqProofs
      first | refine ⟨by omega, by omega, ?_⟩ | refine ⟨by omega, ?_⟩ | skip
      refine CallK.imE (toDeedS_ok l hlm) (by simp) (DeedS_okI _) ?_
      simp -implicitDefEqProofs
      repeat refine ⟨by omega, ?_⟩
      refine hK _ ?_
      clear hK K
      refine SW.regionK fun K hK => ?_
      simp -implicitDefEqProofs
      first | refine ⟨by omega, by omega, ?_⟩ | refine ⟨by omega, ?_⟩ | skip
      first
        | refine CallQ.fzE (apart_i a l n j ha hlm) (by simp) ?_
        | refine CallK.fzE (apart_i a l n j ha hlm) (by simp) ?_
      simp -implicitDefEqProofs
      repeat refine ⟨by omega, ?_⟩
      refine hK _ ?_
      clear hK K
      refine SW.seqK fun K3 hK3 => ?_
      refine SW.regionK fun K hK => ?_
      simp -implicitDefEqProofs
      repeat refine ⟨by omega, ?_⟩
      refine hK _ ?_
      clear hK K
      refine SW.cond _ rfl (by simp) ?_ ?_
      case' refine_2 =>
       intro hb3
       first
       | (exfalso; simp at hb3; done)
       | (exfalso; simp at hb3; omega)
       | (
        refine SW.skip ?_
        refine hK3 _ ?_
        refine SW.seqK fun K4 hK4 => ?_
        refine SW.drawK mixed [.q [(0, false), (1, false), (2, false), (3, false), (4, false)]] (by kernel_rfl) rfl fun K hK => ?_
        simp -implicitDefEqProofs
        first | refine ⟨by omega, by omega, ?_⟩ | refine ⟨by omega, ?_⟩ | skip
        first
          | refine CallQ.fzE (toProg_ok a ha) (by simp) ?_
          | refine CallK.fzE (toProg_ok a ha) (by simp) ?_
        simp -implicitDefEqProofs
        first | refine ⟨by omega, by omega, ?_⟩ | refine ⟨by omega, ?_⟩ | skip
        refine CallQ.fzE (eqProg_ok a ha) (by simp) ?_
        simp -implicitDefEqProofs
        repeat refine ⟨by omega, ?_⟩
        refine hK _ ?_
        clear hK K
        refine SW.cond _ rfl (by simp) ?_ ?_
        case' refine_2 =>
         intro hb4
         first
         | (exfalso; simp at hb4; done)
         | (exfalso; simp at hb4; omega)
         | (
          refine SW.skip ?_
          refine hK4 _ ?_
          refine SW.seqK fun K5 hK5 => ?_
          refine SW.regionK fun K hK => ?_
          simp -implicitDefEqProofs
          first | refine ⟨by omega, by omega, ?_⟩ | refine ⟨by omega, ?_⟩ | skip
          first
            | refine CallQ.fzE (toDeedS_ok l hlm) (by simp) ?_
            | refine CallK.fzE (toDeedS_ok l hlm) (by simp) ?_
          simp -implicitDefEqProofs
          first | refine ⟨by omega, by omega, ?_⟩ | refine ⟨by omega, ?_⟩ | skip
          refine CallK.fzE (eqDeedS_ok l hlm) (by simp) ?_
          simp -implicitDefEqProofs
          repeat refine ⟨by omega, ?_⟩
          refine hK _ ?_
          clear hK K
          refine SW.cond _ rfl (by simp) ?_ ?_
          case' refine_2 =>
           intro hb5
           first
           | (exfalso; simp at hb5; done)
           | (exfalso; simp at hb5; omega)
           | (
            refine SW.skip ?_
            refine hK5 _ ?_
            refine SW.regionK fun K hK => ?_
            simp -implicitDefEqProofs
            repeat refine ⟨by omega, ?_⟩
            refine hK _ ?_
            clear hK K
            refine SW.ret ?_
            simp [Ex.then, Ex.inBlock])
          rotate_right
          case' _ =>
           intro hb5
           first
           | (exfalso; simp at hb5; done)
           | (exfalso; simp at hb5; omega)
           | (
            refine SW.regionK fun K hK => ?_
            simp -implicitDefEqProofs
            repeat refine ⟨by omega, ?_⟩
            refine hK _ ?_
            clear hK K
            refine SW.ret ?_
            simp [Ex.then, Ex.inBlock]))
        rotate_right
        case' _ =>
         intro hb4
         first
         | (exfalso; simp at hb4; done)
         | (exfalso; simp at hb4; omega)
         | (
          refine SW.regionK fun K hK => ?_
          simp -implicitDefEqProofs
          repeat refine ⟨by omega, ?_⟩
          refine hK _ ?_
          clear hK K
          refine SW.ret ?_
          simp [Ex.then, Ex.inBlock]))
      rotate_right
      case' _ =>
       intro hb3
       first
       | (exfalso; simp at hb3; done)
       | (exfalso; simp at hb3; omega)
       | (
        refine SW.regionK fun K hK => ?_
        simp -implicitDefEqProofs
        repeat refine ⟨by omega, ?_⟩
        refine hK _ ?_
        clear hK K
        refine SW.ret ?_
        simp [Ex.then, Ex.inBlock]))
    rotate_right
    case' _ =>
     intro hb2
     first
     | (exfalso; simp at hb2; done)
     | (exfalso; simp at hb2; omega)
     | (
      refine SW.regionK fun K hK => ?_
      simp -implicitDefEqProofs
      repeat refine ⟨by omega, ?_⟩
      refine hK _ ?_
      clear hK K
      refine SW.ret ?_
      simp [Ex.then, Ex.inBlock]))
  rotate_right
  case' _ =>
   intro hb1
   first
   | (exfalso; simp at hb1; done)
   | (exfalso; simp at hb1; omega)
   | (
    refine SW.regionK fun K hK => ?_
    simp -implicitDefEqProofs
    repeat refine ⟨by omega, ?_⟩
    refine hK _ ?_
    clear hK K
    refine SW.ret ?_
    simp [Ex.then, Ex.inBlock])
end HT
