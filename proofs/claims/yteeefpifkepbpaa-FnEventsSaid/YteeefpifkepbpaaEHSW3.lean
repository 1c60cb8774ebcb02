import Derived.Test.YteeefpifkepbpaaEHSW2
/-
  My own texts (road H): HSW3.
-/
set_option linter.unusedSimpArgs false
namespace HS
open Go Go.Proofs HK
set_option maxHeartbeats 4000000 in
theorem logRead_iy (b : List Int) (hl : b.length ≤ 1048576) (hb : ∀ x ∈ b, isB x) (c0 : List Int) (cr : List (List Int)) (A S : Nat) (hr : scan b 0 [] = (c0 :: cr, A, S)) (hd : hdOk c0 = true) : Fn Try.prog 47 [.fz (YS b)] (.tup [.agg [.int .i64 (nv (getV c0 7) : Nat), .own 4 (DS (logL S [] cr).1)], .int .i64 ((logL S [] cr).2 : Nat)]) := by
  refine Fn.intro Try.func47 (by decide) rfl (rs := [.cell 2 45, .tmp 3]) rfl Try.ntmps47 (by simp) ?_; have hall := scan_all0 hb hl
  rw [hr] at hall; have hc0 := (hall c0 (by simp)).1
  have hc0l := (hall c0 (by simp)).2
  have hcl : cr.length + 1 ≤ b.length := by have := scan_len b; rw [hr] at this; simpa using this
  have hd2 := (hd_iff hc0).1 hd
  obtain ⟨⟨h7, ht7⟩, hso, hpv⟩ := hd2; have hE7 : strB (List.take 7 c0) = ⟨#[82, 69, 80, 76, 65, 89, 49]⟩ := by rw [ht7]; rfl
  refine SW.rg fun K hK => ?_; simp -implicitDefEqProofs; repeat (refine And.intro (by clear hK; first | omega | (intros; omega) | (intros; simp_all; done) | (intros; grind)) ?_)
  refine hK _ ?_; clear hK K; refine SW.rg fun K hK => ?_; simp -implicitDefEqProofs; repeat (refine And.intro (by clear hK; first | omega | (intros; omega) | (intros; simp_all; done) | (intros; grind)) ?_)
  refine CallS.mono (scan_i b (by omega) hb _ hr) ?_
  rintro o h' ⟨rfl, rfl⟩
  simp -implicitDefEqProofs; repeat (refine And.intro (by clear hK; first | omega | (intros; omega) | (intros; simp_all; done) | (intros; grind)) ?_)
  refine hK _ ?_; clear hK K; refine SW.seqK fun K1 hK1 => ?_; refine SW.rg fun K hK => ?_; simp -implicitDefEqProofs; repeat (refine And.intro (by clear hK; first | omega | (intros; omega) | (intros; simp_all; done) | (intros; grind)) ?_)
  refine hK _ ?_; clear hK K; refine SW.cond _ rfl (by simp) ?_ ?_
  case' refine_2 =>
   intro hb1
   first
   | (exfalso; simp at hb1; done)
   | (exfalso; simp at hb1; omega)
   | (
    refine SW.skip ?_; refine hK1 _ ?_; refine SW.rg fun K hK => ?_; simp -implicitDefEqProofs; repeat (refine And.intro (by clear hK; first | omega | (intros; omega) | (intros; simp_all; done) | (intros; grind)) ?_)
    refine hK _ ?_; clear hK K; refine SW.rg fun K hK => ?_; simp -implicitDefEqProofs; repeat (refine And.intro (by clear hK; first | omega | (intros; omega) | (intros; simp_all; done) | (intros; grind)) ?_)
    refine hK _ ?_; clear hK K; refine SW.seqK fun K2 hK2 => ?_; refine SW.rg fun K hK => ?_; simp -implicitDefEqProofs [YS_takeN, hE7]
    repeat (refine And.intro (by clear hK; first | omega | (intros; omega) | (intros; simp_all; done) | (intros; grind)) ?_)
    refine hK _ ?_; clear hK K; refine SW.cond _ rfl (by simp) ?_ ?_
    case' refine_2 =>
     intro hb2
     first
     | (exfalso; simp at hb2; done)
     | (exfalso; simp at hb2; omega)
     | (
      refine SW.skip ?_; refine hK2 _ ?_; refine SW.rg fun K hK => ?_; simp -implicitDefEqProofs; repeat (refine And.intro (by clear hK; first | omega | (intros; omega) | (intros; simp_all; done) | (intros; grind)) ?_)
      first
        | refine CallQ.fzE (show HK.Fn Try.prog 75 [.fz (YS c0), .int .i64 7] (.tup [.int .i64 (nv (getV c0 7) : Nat), .int .i64 (pv (getV c0 7) : Nat), .bool (getV c0 7).isSome]) by rw [← getA_eq]; exact getVar_impl c0 7 (by omega) hc0) (by simp) ?_
        | refine CallK.fzE (show HK.Fn Try.prog 75 [.fz (YS c0), .int .i64 7] (.tup [.int .i64 (nv (getV c0 7) : Nat), .int .i64 (pv (getV c0 7) : Nat), .bool (getV c0 7).isSome]) by rw [← getA_eq]; exact getVar_impl c0 7 (by omega) hc0) (by simp) ?_
      simp -implicitDefEqProofs; repeat (refine And.intro (by clear hK; first | omega | (intros; omega) | (intros; simp_all; done) | (intros; grind)) ?_)
      refine hK _ ?_; clear hK K; refine SW.seqK fun K3 hK3 => ?_; refine SW.rg fun K hK => ?_; simp -implicitDefEqProofs [hso, hpv]
      repeat (refine And.intro (by clear hK; first | omega | (intros; omega) | (intros; simp_all; done) | (intros; grind)) ?_)
      refine hK _ ?_; clear hK K; refine SW.cond _ rfl (by simp) ?_ ?_
      case' refine_2 =>
       intro hb3
       first
       | (exfalso; simp at hb3; done)
       | (exfalso; simp at hb3; omega)
       | (
        refine SW.skip ?_; refine hK3 _ ?_; refine SW.rg fun K hK => ?_; simp -implicitDefEqProofs; repeat (refine And.intro (by clear hK; first | omega | (intros; omega) | (intros; simp_all; done) | (intros; grind)) ?_)
        refine hK _ ?_; clear hK K; refine SW.seqK fun K4 hK4 => ?_; refine SW.rg fun K hK => ?_; simp -implicitDefEqProofs
        repeat (refine And.intro (by clear hK; first | omega | (intros; omega) | (intros; simp_all; done) | (intros; grind)) ?_)
        refine hK _ ?_; clear hK K; refine SW.block ?_
        refine SW.loop (α := Nat × List Deed) (fun x => ⟨[(65, .int .i64 (x.1 : Nat)), (64, .int .i64 cr.length), (63, .sl 1 1 cr.length), (12, .ptr 2 0 0), (2, .ptr 0 0 0), (6, .int .i64 (S : Nat))], [some logZ, some ⟨1, CF (c0 :: cr)⟩, some ⟨2, [[.int .i64 (nv (getV c0 7) : Nat), .sl 3 0 x.2.length]]⟩, some ⟨4, DS x.2⟩]⟩) (fun x => x.1 ≤ cr.length ∧ x.2.length ≤ 3000 ∧ logL S [] cr = logL S x.2 (cr.drop x.1)) (fun x => cr.length - x.1) ((0, [])) ?_ ?_ (fun x hx => ?_)
        case' refine_1 =>
         exact ⟨by simp, by simp, by simp⟩
        case' refine_2 =>
         refine Wk.trans (Wk.nilAt (j := 2) (i := 1) 4 (by simp; exact rfl) rfl (by simp) (by simp)) ?_; exact Wk.cut (by simp) (by simp [subE]) (by simp [cutH]) (by simp [lowE, lowN]) (by simp [lowB, lowN, CF])
        case' refine_3 =>
         skip
         refine SW.rg fun K hK => ?_; simp -implicitDefEqProofs; repeat (refine And.intro (by clear hK; first | omega | (intros; omega) | (intros; simp_all; done) | (intros; grind)) ?_)
         refine hK _ ?_; clear hK K; refine SW.seqK fun K5 hK5 => ?_; refine SW.cond _ rfl (by simp) ?_ ?_
         case' refine_2 =>
          intro hb4
          first
          | (exfalso; simp at hb4; done)
          | (exfalso; simp at hb4; omega)
          | (
           have hk9 : x.1 = cr.length := by have := hx.1; simp at hb4; omega
           have hres : logL S [] cr = (x.2, S) := by rw [hx.2.2, hk9, List.drop_length, logL]
           refine SW.exit ?_; simp only [Ex.then, Ex.ib]; try simp only [if_true, if_false, reduceIte]
           refine hK4 _ ?_; refine SW.rg fun K hK => ?_; simp -implicitDefEqProofs; repeat (refine And.intro (by clear hK; first | omega | (intros; omega) | (intros; simp_all; done) | (intros; grind)) ?_)
           refine hK _ ?_; clear hK K; refine SW.ret ?_; simp [Ex.then, Ex.ib]
           all_goals first
             | (rw [hres]; refine ⟨fun x hx y hy => by obtain ⟨n, rfl⟩ := DS_int hx hy; rfl, ?_⟩; simp; done)
             | (rw [hres]; simp; done)
             | fail)
         rotate_right
         case' _ =>
          intro hb4
          first
          | (exfalso; simp at hb4; done)
          | (exfalso; simp at hb4; omega)
          | (
           have hkl : x.1 < cr.length := by simp at hb4; omega
           obtain ⟨c, hck⟩ : ∃ c, cr[x.1]? = some c := ⟨_, List.getElem?_eq_getElem hkl⟩
           have hck1 : (c0 :: cr)[1 + x.1]? = some c := by rw [Nat.add_comm, List.getElem?_cons_succ]; exact hck
           have hck2 : (c0 :: cr)[x.1 + 1]? = some c := by rw [List.getElem?_cons_succ]; exact hck
           have hcc := (hall c (List.mem_cons_of_mem _ (List.mem_of_getElem? hck))).1
           have hccl := (hall c (List.mem_cons_of_mem _ (List.mem_of_getElem? hck))).2
           have hrl := rdL_len c
           have hx2 := hx.2.1
           have htk : List.take (x.2.length + (rdL c).length) (DS x.2 ++ DS (rdL c)) = DS x.2 ++ DS (rdL c) := List.take_of_length_le (by simp)
           have hm4 : ((x.2.length : Nat) : Int).tmod 4 = ((x.2.length % 4 : Nat) : Int) := by rw [Int.tmod_eq_emod_of_nonneg (by omega)]; omega
           refine SW.skip ?_; refine hK5 _ ?_; refine SW.seqK fun K6 hK6 => ?_; refine SW.block ?_; refine SW.rg fun K hK => ?_; simp -implicitDefEqProofs [hck1, hck2, hm4, DS_app]
           repeat (refine And.intro (by clear hK; first | omega | (intros; omega) | (intros; simp_all; done) | (intros; grind)) ?_)
           refine hK _ ?_; clear hK K; refine SW.rg fun K hK => ?_; simp -implicitDefEqProofs; repeat (refine And.intro (by clear hK; first | omega | (intros; omega) | (intros; simp_all; done) | (intros; grind)) ?_)
           first
             | refine CallQ.fzE (readSome_iu c (by omega) hcc) (by simp) ?_
             | refine CallK.fzE (readSome_iu c (by omega) hcc) (by simp) ?_
           simp -implicitDefEqProofs; repeat (refine And.intro (by clear hK; first | omega | (intros; omega) | (intros; simp_all; done) | (intros; grind)) ?_)
           refine hK _ ?_; clear hK K; refine SW.rg fun K hK => ?_; simp -implicitDefEqProofs [hck1, hck2, hm4, DS_app]; repeat (refine And.intro (by clear hK; first | omega | (intros; omega) | (intros; simp_all; done) | (intros; grind)) ?_)
           refine CallK.imE (cloneD_ok x.2 (by omega)) (by simp) (DS_okI _) ?_; simp -implicitDefEqProofs [hck1, hck2, hm4, DS_app]; refine ⟨⟨fun e he => DS_len he, fun x hx y hy => DS_oc hx hy, by omega⟩, ?_⟩; refine hK _ ?_; clear hK K
           refine SW.seqK fun K7 hK7 => ?_; refine SW.rg fun K hK => ?_; simp -implicitDefEqProofs [hck1, hck2, hm4, DS_app]
           repeat (refine And.intro (by clear hK; first | omega | (intros; omega) | (intros; simp_all; done) | (intros; grind)) ?_)
           first
             | refine CallG.fzE (by simp) (fun _ => fits_i (x.2 ++ rdL c) (by simp; omega)) (by simp [DS_app, htk]) ?_
             | refine CallQG.fzE (by simp) (fun _ => fits_i (x.2 ++ rdL c) (by simp; omega)) (by simp [DS_app, htk]) ?_
           simp -implicitDefEqProofs [hck1, hck2, hm4, DS_app]; repeat (refine And.intro (by clear hK; first | omega | (intros; omega) | (intros; simp_all; done) | (intros; grind)) ?_)
           refine hK _ ?_; clear hK K; refine SW.cond _ rfl (by simp) ?_ ?_
           case' refine_2 =>
            intro hb5
            first
            | (exfalso; simp at hb5; done)
            | (exfalso; simp at hb5; omega)
            | (
             have hgood : (rdOk c && fitL (x.2 ++ rdL c) && decide (x.2.length % 4 = 0)) = true := by
               cases h1 : rdOk c <;> cases h2 : fitL (x.2 ++ rdL c) <;> simp [h1, h2, hm4] at hb5 ⊢ <;> omega
             have hnl : (x.2 ++ rdL c).length ≤ 3000 := by
               simp only [Bool.and_eq_true, fitL, decide_eq_true_eq] at hgood; exact hgood.1.2.2
             refine SW.skip ?_; refine hK7 _ ?_; refine SW.regionE fun K hK => ?_; simp -implicitDefEqProofs; repeat (refine And.intro (by clear hK; first | omega | (intros; omega) | (intros; simp_all; done) | (intros; grind)) ?_)
             refine hK _ ?_; clear hK K; refine hK6 _ ?_; refine SW.regionE fun K hK => ?_; simp -implicitDefEqProofs; repeat (refine And.intro (by clear hK; first | omega | (intros; omega) | (intros; simp_all; done) | (intros; grind)) ?_)
             refine hK _ ?_; clear hK K; refine ⟨(x.1 + 1, x.2 ++ rdL c), ⟨by simp only []; omega, hnl, by rw [hx.2.2]; exact logL_go hck hgood⟩, by simp only []; omega, ?_⟩
             exact Wk.ren [0, 1, 2, 6] (by simp) (by simp) (by simp) (by simp) (by simp [renE, renN, wrap1 x.1 (by omega)]) (by simp [renH, DS_app, htk]) (by simp [lowE, lowN]) (by simp [lowB, lowN, CF]; intro x hx y hy; obtain ⟨n, rfl⟩ := DS_int hx hy; rfl))
           rotate_right
           case' _ =>
            intro hb5
            first
            | (exfalso; simp at hb5; done)
            | (exfalso; simp at hb5; omega)
            | (
             have hbad : (rdOk c && fitL (x.2 ++ rdL c) && decide (x.2.length % 4 = 0)) = false := by
               cases h9 : (rdOk c && fitL (x.2 ++ rdL c) && decide (x.2.length % 4 = 0)) with
               | false => rfl
               | true =>
                 exfalso; simp only [Bool.and_eq_true, decide_eq_true_eq] at h9; simp [h9.1.1, h9.1.2, hm4] at hb5; omega
             have hres : logL S [] cr = (x.2, 2) := by rw [hx.2.2]; exact logL_bad hck hbad
             refine SW.rg fun K hK => ?_; simp -implicitDefEqProofs; repeat (refine And.intro (by clear hK; first | omega | (intros; omega) | (intros; simp_all; done) | (intros; grind)) ?_)
             refine hK _ ?_; clear hK K; refine SW.ret ?_; simp [Ex.then, Ex.ib]
             all_goals first
               | (rw [hres]; refine ⟨fun x hx y hy => by obtain ⟨n, rfl⟩ := DS_int hx hy; rfl, ?_⟩; simp; done)
               | (rw [hres]; simp; done)
               | fail)))
      rotate_right
      case' _ =>
       intro hb3
       first
       | (exfalso; simp at hb3; done)
       | (exfalso; simp at hb3; omega)
       | (
        refine SW.rg fun K hK => ?_; simp -implicitDefEqProofs; repeat (refine And.intro (by clear hK; first | omega | (intros; omega) | (intros; simp_all; done) | (intros; grind)) ?_)
        refine hK _ ?_; clear hK K; refine SW.ret ?_; simp [Ex.then, Ex.ib]
        all_goals first
          | (rw [hres]; refine ⟨fun x hx y hy => by obtain ⟨n, rfl⟩ := DS_int hx hy; rfl, ?_⟩; simp; done)
          | (rw [hres]; simp; done)
          | fail))
    rotate_right
    case' _ =>
     intro hb2
     first
     | (exfalso; simp at hb2; done)
     | (exfalso; simp at hb2; omega)
     | (
      refine SW.rg fun K hK => ?_; simp -implicitDefEqProofs; repeat (refine And.intro (by clear hK; first | omega | (intros; omega) | (intros; simp_all; done) | (intros; grind)) ?_)
      refine hK _ ?_; clear hK K; refine SW.ret ?_; simp [Ex.then, Ex.ib]
      all_goals first
        | (rw [hres]; refine ⟨fun x hx y hy => by obtain ⟨n, rfl⟩ := DS_int hx hy; rfl, ?_⟩; simp; done)
        | (rw [hres]; simp; done)
        | fail))
  rotate_right
  case' _ =>
   intro hb1
   first
   | (exfalso; simp at hb1; done)
   | (exfalso; simp at hb1; omega)
   | (
    refine SW.rg fun K hK => ?_; simp -implicitDefEqProofs; repeat (refine And.intro (by clear hK; first | omega | (intros; omega) | (intros; simp_all; done) | (intros; grind)) ?_)
    refine hK _ ?_; clear hK K; refine SW.ret ?_; simp [Ex.then, Ex.ib]
    all_goals first
      | (rw [hres]; refine ⟨fun x hx y hy => by obtain ⟨n, rfl⟩ := DS_int hx hy; rfl, ?_⟩; simp; done)
      | (rw [hres]; simp; done)
      | fail)
end HS
