import Derived.Test.YteeefpifkepbpaaEHSZ2
import Derived.Test.YteeefpifkepbpaaEHSE
/-
  My own texts (road H): HSZ3.
-/
set_option linter.unusedSimpArgs false
set_option linter.unusedVariables false
namespace HS
open Go Go.Proofs HK
def strm : Nat → List (List Int) → List Int
  | _, [] => []
  | i, d :: cs => frameB i d ++ strm (i + 1) cs
def okC (cs : List (List Int)) : Prop := ∀ d ∈ cs, d.length ≤ 4000 ∧ ∀ x ∈ d, isB x
@[simp] theorem CF_view (l : List (List Int)) (h : Heap) (d : Nat) : (CF l).map (List.map (viewN h (d + 1))) = CF l := by simp [CF, Function.comp_def, viewN]
set_option maxHeartbeats 1000000 in
theorem strm_i (cs : List (List Int)) (hn : cs.length ≤ 1000) (hc : okC cs) : Fn Try.prog 80 [.fz (CF cs)] (.tup [.own 1 (YS (strm 0 cs)), .bool true]) := by
  refine Fn.intro Try.func80 (by decide) rfl (rs := [.tmp 2, .tmp 3]) rfl Try.ntmps80 (by simp) ?_; refine SW.rg fun K hK => ?_; simp -implicitDefEqProofs
  repeat (refine And.intro (by clear hK; first | omega | (intros; omega) | (intros; simp_all; done) | (intros; grind)) ?_)
  refine hK _ ?_; clear hK K; refine SW.rg fun K hK => ?_; simp -implicitDefEqProofs; repeat (refine And.intro (by clear hK; first | omega | (intros; omega) | (intros; simp_all; done) | (intros; grind)) ?_)
  refine hK _ ?_; clear hK K; refine SW.seqK fun K1 hK1 => ?_; refine SW.rg fun K hK => ?_; simp -implicitDefEqProofs; repeat (refine And.intro (by clear hK; first | omega | (intros; omega) | (intros; simp_all; done) | (intros; grind)) ?_)
  refine hK _ ?_; clear hK K; refine SW.block ?_
  refine SW.loop (α := Nat × List Int) (fun x => ⟨[(12, .int .i64 (x.1 : Nat)), (11, .int .i64 cs.length), (10, .fz (CF cs)), (4, .sl 0 0 x.2.length)], [some ⟨1, YS x.2⟩]⟩) (fun x => x.1 ≤ cs.length ∧ x.2 ++ strm x.1 (cs.drop x.1) = strm 0 cs ∧ x.2.length ≤ 4015 * x.1) (fun x => cs.length - x.1) ((0, [])) ?_ ?_ (fun x hx => ?_)
  case' refine_1 =>
   exact ⟨by simp, by simp, by simp⟩
  case' refine_2 =>
   exact Wk.cut (by simp) (by simp [subE]) (by simp [cutH]) (by simp [lowE, lowN]) (by simp)
  case' refine_3 =>
   skip
   refine SW.rg fun K hK => ?_; simp -implicitDefEqProofs; repeat (refine And.intro (by clear hK; first | omega | (intros; omega) | (intros; simp_all; done) | (intros; grind)) ?_)
   refine hK _ ?_; clear hK K; refine SW.seqK fun K2 hK2 => ?_; refine SW.cond _ rfl (by simp) ?_ ?_
   case' refine_2 =>
    intro hb1
    first
    | (exfalso; simp at hb1; done)
    | (exfalso; simp at hb1; omega)
    | (
     have hk : x.1 = cs.length := by simp at hb1; omega
     have hdr : cs.drop x.1 = [] := by rw [hk]; simp
     refine SW.exit ?_; simp only [Ex.then, Ex.ib]; try simp only [if_true, if_false, reduceIte]
     refine hK1 _ ?_; refine SW.rg fun K hK => ?_; simp -implicitDefEqProofs; repeat (refine And.intro (by clear hK; first | omega | (intros; omega) | (intros; simp_all; done) | (intros; grind)) ?_)
     refine hK _ ?_; clear hK K; refine SW.ret ?_; simp [Ex.then, Ex.ib]
     all_goals first
       | (rw [← hx.2.1, hdr]; simp [strm]; intro x hx y hy; obtain ⟨n, rfl⟩ := YS_int hx hy; rfl)
       | fail)
   rotate_right
   case' _ =>
    intro hb1
    first
    | (exfalso; simp at hb1; done)
    | (exfalso; simp at hb1; omega)
    | (
     have hlt : x.1 < cs.length := by first | omega | (simp at hb1; omega)
     obtain ⟨d, hxk⟩ : ∃ q, cs[x.1]? = some q := ⟨_, List.getElem?_eq_getElem hlt⟩
     have hxE : ∀ h, cs[x.1]'h = d := fun h => (List.getElem?_eq_some_iff.1 hxk).2
     obtain ⟨hd1, hd2⟩ := hc d (List.mem_of_getElem? hxk); have hdr := drop_get hxk
     refine SW.skip ?_; refine hK2 _ ?_; refine SW.seqK fun K3 hK3 => ?_; refine SW.block ?_; refine SW.rg fun K hK => ?_; simp -implicitDefEqProofs [hxk, hxE]
     repeat (refine And.intro (by clear hK; first | omega | (intros; omega) | (intros; simp_all; done) | (intros; grind)) ?_)
     refine hK _ ?_; clear hK K; refine SW.rg fun K hK => ?_; simp -implicitDefEqProofs [hxk, hxE]; repeat (refine And.intro (by clear hK; first | omega | (intros; omega) | (intros; simp_all; done) | (intros; grind)) ?_)
     first
       | refine CallQ.fzE (frm_i x.1 d (by omega) hd1 hd2) (by simp) ?_
       | refine CallK.fzE (frm_i x.1 d (by omega) hd1 hd2) (by simp) ?_
     simp -implicitDefEqProofs [hxk, hxE]; repeat (refine And.intro (by clear hK; first | omega | (intros; omega) | (intros; simp_all; done) | (intros; grind)) ?_)
     refine hK _ ?_; clear hK K; refine SW.seqK fun K4 hK4 => ?_; refine SW.rg fun K hK => ?_; simp -implicitDefEqProofs
     repeat (refine And.intro (by clear hK; first | omega | (intros; omega) | (intros; simp_all; done) | (intros; grind)) ?_)
     refine hK _ ?_; clear hK K; refine SW.cond _ rfl (by simp) ?_ ?_
     case' refine_2 =>
      intro hb2
      first
      | (exfalso; simp at hb2; done)
      | (exfalso; simp at hb2; omega)
      | (
       refine SW.skip ?_; refine hK4 _ ?_; refine SW.regionE fun K hK => ?_; simp -implicitDefEqProofs; refine ⟨⟨fun e he => YS_len he, fun x hx y hy => YS_oc hx hy, by have := hx.2.2; omega⟩, hK _ ?_⟩; clear hK K; refine hK3 _ ?_
       refine SW.regionE fun K hK => ?_; simp -implicitDefEqProofs; repeat (refine And.intro (by clear hK; first | omega | (intros; omega) | (intros; simp_all; done) | (intros; grind)) ?_)
       refine hK _ ?_; clear hK K; refine ⟨(x.1 + 1, x.2 ++ frameB x.1 d), ⟨by simp only []; omega, ?_, by simp; omega⟩, by simp only []; omega, ?_⟩
       · rw [← hx.2.1, hdr]; simp [strm]
       exact Wk.ren [2] (by simp) (by simp) (by simp) (by simp) (by simp [renE, wrap1 x.1 (by omega)]) (by simp [renH, YS_app]) (by simp [lowE, lowN]) (by simp))
     rotate_right
     case' _ =>
      intro hb2
      first
      | (exfalso; simp at hb2; done)
      | (exfalso; simp at hb2; omega)
      | (
       refine SW.rg fun K hK => ?_; simp -implicitDefEqProofs; repeat (refine And.intro (by clear hK; first | omega | (intros; omega) | (intros; simp_all; done) | (intros; grind)) ?_)
       refine hK _ ?_; clear hK K; refine SW.ret ?_; simp [Ex.then, Ex.ib]
       all_goals first
         | (rw [← hx.2.1, hdr]; simp [strm]; intro x hx y hy; obtain ⟨n, rfl⟩ := YS_int hx hy; rfl)
         | fail))
end HS
