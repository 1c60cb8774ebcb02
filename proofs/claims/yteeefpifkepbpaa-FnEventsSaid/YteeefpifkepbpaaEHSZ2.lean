import Derived.Test.YteeefpifkepbpaaEHSZ1
/-
  My own texts (road H): HSZ2.
-/
set_option linter.unusedSimpArgs false
set_option linter.unusedVariables false
namespace HS
open Go Go.Proofs HK
def hd3 (seq : Nat) (d : List Int) : List Int := [82] ++ putB seq 3 ++ putB d.length 3
theorem hd3_len (seq : Nat) (d : List Int) : (hd3 seq d).length = 7 := by simp [hd3]
theorem hd3_isB (seq : Nat) (d : List Int) : ∀ x ∈ hd3 seq d, isB x := fun x hx => by
  unfold hd3 at hx; simp only [List.mem_append, List.mem_singleton] at hx; rcases hx with (rfl | hx) | hx
  · exact ⟨by omega, by omega⟩
  · exact putB_isB _ _ x hx
  · exact putB_isB _ _ x hx
def hd11 (seq : Nat) (d : List Int) : List Int := hd3 seq d ++ putB (crc (hd3 seq d)) 4
def hd15 (seq : Nat) (d : List Int) : List Int := hd11 seq d ++ putB (crc d) 4
def frameB (seq : Nat) (d : List Int) : List Int := hd15 seq d ++ d
theorem hd11_len (seq : Nat) (d : List Int) : (hd11 seq d).length = 11 := by simp [hd11, hd3_len]
theorem hd15_len (seq : Nat) (d : List Int) : (hd15 seq d).length = 15 := by simp [hd15, hd11_len]
theorem hd3_cells (seq : Nat) (d : List Int) : List.take 7 (YS (82 :: (putB seq 3 ++ putB d.length 3))) = YS (hd3 seq d) := by
  rw [List.take_of_length_le (by simp)]; simp [hd3]
theorem frm_cells (seq : Nat) (d : List Int) : List.take 15 (YS (hd11 seq d ++ putB (crc d) 4)) ++ YS d = YS (frameB seq d) := by
  rw [List.take_of_length_le (by simp [hd11_len])]; simp [frameB, hd15, YS_app]
@[simp] theorem frameB_len (seq : Nat) (d : List Int) : (frameB seq d).length = 15 + d.length := by simp [frameB, hd15_len]
set_option maxHeartbeats 1000000 in
theorem frm_i (seq : Nat) (d : List Int) (hs : seq ≤ 100000) (hl : d.length ≤ 4000) (hb : ∀ x ∈ d, isB x) : Fn Try.prog 94 [.int .i64 (seq : Nat), .fz (YS d)] (.tup [.own 1 (YS (frameB seq d)), .bool true]) := by
  refine Fn.intro Try.func94 (by decide) rfl (rs := [.tmp 4, .tmp 5]) rfl Try.ntmps94 (by simp) ?_; have hc1 := crc_lt (hd3_isB seq d)
  have hc2 := crc_lt hb
  have e1 := hd3_len seq d
  have e2 := hd11_len seq d
  have e3 := hd15_len seq d
  refine SW.rg fun K hK => ?_; simp -implicitDefEqProofs; repeat (refine And.intro (by clear hK; first | omega | (intros; omega) | (intros; simp_all; done) | (intros; grind)) ?_)
  refine hK _ ?_; clear hK K; refine SW.seqK fun K1 hK1 => ?_; refine SW.rg fun K hK => ?_; simp -implicitDefEqProofs; repeat (refine And.intro (by clear hK; first | omega | (intros; omega) | (intros; simp_all; done) | (intros; grind)) ?_)
  refine hK _ ?_; clear hK K; refine SW.cond _ rfl (by simp) ?_ ?_
  case' refine_2 =>
   intro hb1
   first
   | (exfalso; simp at hb1; done)
   | (exfalso; simp at hb1; omega)
   | (
    refine SW.skip ?_; refine hK1 _ ?_; refine SW.rg fun K hK => ?_; simp -implicitDefEqProofs; repeat (refine And.intro (by clear hK; first | omega | (intros; omega) | (intros; simp_all; done) | (intros; grind)) ?_)
    refine hK _ ?_; clear hK K; refine SW.rg fun K hK => ?_; simp -implicitDefEqProofs; repeat (refine And.intro (by clear hK; first | omega | (intros; omega) | (intros; simp_all; done) | (intros; grind)) ?_)
    refine CallS.mono (put_i [82] seq 3 1 _ 0 rfl (by simp [YS]) (by omega) (by omega) (by omega)) ?_
    rintro o h' ⟨rfl, rfl⟩
    simp -implicitDefEqProofs; repeat (refine And.intro (by clear hK; first | omega | (intros; omega) | (intros; simp_all; done) | (intros; grind)) ?_)
    refine hK _ ?_; clear hK K; refine SW.rg fun K hK => ?_; simp -implicitDefEqProofs; repeat (refine And.intro (by clear hK; first | omega | (intros; omega) | (intros; simp_all; done) | (intros; grind)) ?_)
    refine CallS.mono (put_i ([82] ++ putB seq 3) d.length 3 4 _ 1 (by simp) (by simp) (by omega) (by omega) (by omega)) ?_
    rintro o h' ⟨rfl, rfl⟩
    simp -implicitDefEqProofs; repeat (refine And.intro (by clear hK; first | omega | (intros; omega) | (intros; simp_all; done) | (intros; grind)) ?_)
    refine hK _ ?_; clear hK K; refine SW.rg fun K hK => ?_; simp -implicitDefEqProofs; repeat (refine And.intro (by clear hK; first | omega | (intros; omega) | (intros; simp_all; done) | (intros; grind)) ?_)
    refine CallK.fzE (crc_i (hd3 seq d) (by omega) (hd3_isB seq d)) (by simp [hd3_cells]) ?_; simp -implicitDefEqProofs; repeat (refine And.intro (by clear hK; first | omega | (intros; omega) | (intros; simp_all; done) | (intros; grind)) ?_)
    refine CallS.mono (put_i (hd3 seq d) (crc (hd3 seq d)) 4 7 _ 2 e1 (by simp [hd3]) (by omega) hc1 (by omega)) ?_
    rintro o h' ⟨rfl, rfl⟩
    simp -implicitDefEqProofs; repeat (refine And.intro (by clear hK; first | omega | (intros; omega) | (intros; simp_all; done) | (intros; grind)) ?_)
    refine hK _ ?_; clear hK K; refine SW.rg fun K hK => ?_; simp -implicitDefEqProofs; repeat (refine And.intro (by clear hK; first | omega | (intros; omega) | (intros; simp_all; done) | (intros; grind)) ?_)
    first
      | refine CallQ.fzE (crc_i d (by omega) hb) (by simp) ?_
      | refine CallK.fzE (crc_i d (by omega) hb) (by simp) ?_
    simp -implicitDefEqProofs; repeat (refine And.intro (by clear hK; first | omega | (intros; omega) | (intros; simp_all; done) | (intros; grind)) ?_)
    refine CallS.mono (put_i (hd11 seq d) (crc d) 4 11 _ 3 e2 (by simp [hd11]) (by omega) hc2 (by omega)) ?_
    rintro o h' ⟨rfl, rfl⟩
    simp -implicitDefEqProofs; repeat (refine And.intro (by clear hK; first | omega | (intros; omega) | (intros; simp_all; done) | (intros; grind)) ?_)
    refine hK _ ?_; clear hK K; refine SW.rg fun K hK => ?_; simp -implicitDefEqProofs; refine ⟨⟨by omega, fun e he => YS_len he, fun x hx y hy => YS_oc hx hy, by omega⟩, hK _ ?_⟩; clear hK K; refine SW.ret ?_; simp [Ex.then, Ex.ib]
    all_goals first
      | (have h9 : List.take (15 + d.length) (YS (frameB seq d)) = YS (frameB seq d) := List.take_of_length_le (by simp)
         rw [frm_cells, h9]
         exact ⟨⟨by rw [e2]; decide, fun x hx y hy => by obtain ⟨n, rfl⟩ := YS_int hx hy; rfl⟩, rfl⟩)
      | fail)
  rotate_right
  case' _ =>
   intro hb1
   first
   | (exfalso; simp at hb1; done)
   | (exfalso; simp at hb1; omega)
   | (
    refine SW.rg fun K hK => ?_; simp -implicitDefEqProofs; repeat (refine And.intro (by clear hK; first | omega | (intros; omega) | (intros; simp_all; done) | (intros; grind)) ?_)
    refine hK _ ?_; clear hK K; refine SW.ret ?_; simp [Ex.then, Ex.ib]
    all_goals first
      | (have h9 : List.take (15 + d.length) (YS (frameB seq d)) = YS (frameB seq d) := List.take_of_length_le (by simp)
         rw [frm_cells, h9]
         exact ⟨⟨by rw [e2]; decide, fun x hx y hy => by obtain ⟨n, rfl⟩ := YS_int hx hy; rfl⟩, rfl⟩)
      | fail)
end HS
