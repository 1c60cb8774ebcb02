import Derived.Test.YteeefpifkepbpaaEHS5
/-
  My own texts (road H): HSE.
-/
set_option linter.unusedSimpArgs false
namespace HS
open Go Go.Proofs HK
def packL : Int → List Deed → List Int
  | _, [] => []
  | last, d :: l => packB last d ++ packL d.g l
def packLOk : Int → List Deed → Bool
  | _, [] => true
  | last, d :: l => packOk last d && packLOk d.g l
def someOk (l : List Deed) : Bool := decide (l.length ≤ 4) && packLOk 0 l
def packSome (l : List Deed) : AV := if someOk l then .tup [.own 1 (YS (packL 0 l)), .bool true] else .tup [.nil, .bool false]
theorem drop_get {α : Type} {l : List α} {k : Nat} {x : α} (h : l[k]? = some x) : l.drop k = x :: l.drop (k + 1) := by
  obtain ⟨hlt, rfl⟩ := List.getElem?_eq_some_iff.1 h; exact List.drop_eq_getElem_cons hlt
theorem packL_len : ∀ {l : List Deed} {last : Int}, packLOk last l = true → (packL last l).length ≤ 20 * l.length
  | [], _, _ => by simp [packL]
  | d :: l, last, h => by
    simp [packLOk] at h; have h1 := packB_len h.1
    have h2 := packL_len h.2
    simp [packL]; omega
set_option maxHeartbeats 1000000 in
theorem packSome_impl (l : List Deed) : Fn Try.prog 38 [.fz (DS l)] (packSome l) := by
  refine Fn.intro Try.func38 (by decide) rfl (rs := [.tmp 2, .tmp 3]) rfl Try.ntmps38 (by simp) ?_; refine SW.rg fun K hK => ?_; simp -implicitDefEqProofs; repeat refine ⟨by omega, ?_⟩
  refine hK _ ?_; clear hK K; refine SW.seqK fun K1 hK1 => ?_; refine SW.rg fun K hK => ?_; simp -implicitDefEqProofs; repeat refine ⟨by omega, ?_⟩
  refine hK _ ?_; clear hK K; refine SW.cond _ rfl (by simp) ?_ ?_
  case' refine_2 =>
   intro hb1; have hl4 : l.length ≤ 4 := by simp at hb1; omega
   first
   | (exfalso; simp at hb1; done)
   | (exfalso; simp at hb1; omega)
   | (
    refine SW.skip ?_; refine hK1 _ ?_; refine SW.rg fun K hK => ?_; simp -implicitDefEqProofs; repeat refine ⟨by omega, ?_⟩
    refine hK _ ?_; clear hK K; refine SW.rg fun K hK => ?_; simp -implicitDefEqProofs; repeat refine ⟨by omega, ?_⟩
    refine hK _ ?_; clear hK K; refine SW.seqK fun K2 hK2 => ?_; refine SW.rg fun K hK => ?_; simp -implicitDefEqProofs; repeat refine ⟨by omega, ?_⟩
    refine hK _ ?_; clear hK K; refine SW.block ?_
    refine SW.loop (α := Nat × Int × List Int) (fun x => ⟨[(16, .int .i64 x.1), (15, .int .i64 l.length), (14, .fz (DS l)), (5, .int .i64 x.2.1), (4, .sl 0 0 x.2.2.length)], [some ⟨1, YS x.2.2⟩]⟩) (fun x => x.1 ≤ l.length ∧ x.2.2 ++ packL x.2.1 (l.drop x.1) = packL 0 l ∧ packLOk x.2.1 (l.drop x.1) = packLOk 0 l ∧ x.2.2.length ≤ 20 * x.1) (fun x => l.length - x.1) ((0, 0, [])) ?_ ?_ (fun x hx => ?_)
    case' refine_1 =>
     exact ⟨by simp, by simp, by simp, by simp⟩
    case' refine_2 =>
     exact Wk.cut (by simp) (by simp [subE]) (by simp [cutH]) (by simp [lowE, lowN]) (by simp)
    case' refine_3 =>
     skip
     refine SW.rg fun K hK => ?_; simp -implicitDefEqProofs; repeat refine ⟨by omega, ?_⟩
     refine hK _ ?_; clear hK K; refine SW.seqK fun K3 hK3 => ?_; refine SW.cond _ rfl (by simp) ?_ ?_
     case' refine_2 =>
      intro hb2; have hk : x.1 = l.length := by simp at hb2; omega
      have hdr : l.drop x.1 = [] := by rw [hk]; simp
      first
      | (exfalso; simp at hb2; done)
      | (exfalso; simp at hb2; omega)
      | (
       have hpk : someOk l = true := by rw [someOk, hx.2.2.1.symm, hdr]; simp [packLOk, hl4]
       have hpl : packL 0 l = x.2.2 := by rw [← hx.2.1, hdr]; simp [packL]
       refine SW.exit ?_; simp only [Ex.then, Ex.ib]; try simp only [if_true, if_false, reduceIte]
       refine hK2 _ ?_; refine SW.rg fun K hK => ?_; simp -implicitDefEqProofs; repeat refine ⟨by omega, ?_⟩
       refine hK _ ?_; clear hK K; refine SW.ret ?_; simp [Ex.then, Ex.ib]
       first
         | (simp [packSome, hpk]; done)
         | (simp [packSome, hpk, hpl]; intro x hx y hy; obtain ⟨n, rfl⟩ := YS_int hx hy; rfl))
     rotate_right
     case' _ =>
      intro hb2; have hlt : x.1 < l.length := by simp at hb2; omega
      obtain ⟨e, hxk⟩ : ∃ e, l[x.1]? = some e := ⟨_, List.getElem?_eq_getElem hlt⟩
      have hdr := drop_get hxk
      first
      | (exfalso; simp at hb2; done)
      | (exfalso; simp at hb2; omega)
      | (
       refine SW.skip ?_; refine hK3 _ ?_; refine SW.seqK fun K4 hK4 => ?_; refine SW.block ?_; refine SW.rg fun K hK => ?_; simp -implicitDefEqProofs [hxk]; repeat refine ⟨by omega, ?_⟩
       refine hK _ ?_; clear hK K; cases hn : packOk x.2.1 e
       all_goals (
        refine SW.rg fun K hK => ?_; simp -implicitDefEqProofs; iterate 2 (try refine ⟨by omega, ?_⟩)
        first
          | refine CallK.imE (packEvent_iy x.2.2 x.2.1 e (by omega) (by assumption)) (by simp) (tupB_okI _) ?_
          | refine CallK.fzE (packEvent_in x.2.2 x.2.1 e (by omega) (by assumption)) (by simp) ?_
        simp -implicitDefEqProofs; repeat refine ⟨by omega, ?_⟩
        refine hK _ ?_; clear hK K; refine SW.seqK fun K5 hK5 => ?_; refine SW.rg fun K hK => ?_; simp -implicitDefEqProofs; repeat refine ⟨by omega, ?_⟩
        refine hK _ ?_; clear hK K; refine SW.cond _ rfl (by simp) ?_ ?_
        case' refine_2 =>
         intro hb3
         first
         | (exfalso; simp at hb3; done)
         | (exfalso; simp at hb3; omega)
         | (
          refine SW.skip ?_; refine hK5 _ ?_; refine SW.rg fun K hK => ?_; simp -implicitDefEqProofs; repeat refine ⟨by omega, ?_⟩
          refine hK _ ?_; clear hK K; refine SW.regionE fun K hK => ?_; simp -implicitDefEqProofs; repeat refine ⟨by omega, ?_⟩
          refine hK _ ?_; clear hK K; refine hK4 _ ?_; refine SW.regionE fun K hK => ?_; simp -implicitDefEqProofs; repeat refine ⟨by omega, ?_⟩
          refine hK _ ?_; clear hK K; have hbl := packB_len hn
          refine ⟨(x.1 + 1, e.g, x.2.2 ++ packB x.2.1 e), ⟨by simp only []; omega, ?_, ?_, by simp; omega⟩, by simp only []; omega, ?_⟩
          · rw [← hx.2.1, hdr]; simp [packL]
          · rw [← hx.2.2.1, hdr]; simp [packLOk, hn]
          exact Wk.ren [2] (by simp) (by simp) (by simp) (by simp) (by simp [renE, wrap1 x.1 (by omega)]) (by simp [renH]) (by simp [lowE, lowN]) (by simp))
        rotate_right
        case' _ =>
         intro hb3
         first
         | (exfalso; simp at hb3; done)
         | (exfalso; simp at hb3; omega)
         | (
          have hpk : someOk l = false := by rw [someOk, hx.2.2.1.symm, hdr]; simp [packLOk, hn]
          refine SW.rg fun K hK => ?_; simp -implicitDefEqProofs; repeat refine ⟨by omega, ?_⟩
          refine hK _ ?_; clear hK K; refine SW.ret ?_; simp [Ex.then, Ex.ib]
          first
            | (simp [packSome, hpk]; done)
            | (simp [packSome, hpk, hpl]; intro x hx y hy; obtain ⟨n, rfl⟩ := YS_int hx hy; rfl)))))
  rotate_right
  case' _ =>
   intro hb1; have hpk : someOk l = false := by simp [someOk]; simp at hb1; omega
   first
   | (exfalso; simp at hb1; done)
   | (exfalso; simp at hb1; omega)
   | (
    refine SW.rg fun K hK => ?_; simp -implicitDefEqProofs; repeat refine ⟨by omega, ?_⟩
    refine hK _ ?_; clear hK K; refine SW.ret ?_; simp [Ex.then, Ex.ib]
    first
      | (simp [packSome, hpk]; done)
      | (simp [packSome, hpk, hpl]; intro x hx y hy; obtain ⟨n, rfl⟩ := YS_int hx hy; rfl))
theorem packSome_yes {l : List Deed} (h : someOk l = true) : packSome l = .tup [.own 1 (YS (packL 0 l)), .bool true] := by rw [packSome, if_pos h]
theorem packSome_iy (l : List Deed) (h : someOk l = true) : Fn Try.prog 38 [.fz (DS l)] (.tup [.own 1 (YS (packL 0 l)), .bool true]) := by rw [← packSome_yes h]; exact packSome_impl l
theorem packL_len80 {l : List Deed} (h : someOk l = true) : (packL 0 l).length ≤ 80 := by
  simp [someOk] at h; have := packL_len h.2
  omega
end HS
