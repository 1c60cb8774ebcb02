import Derived.Test.YteeefpifkepbpaaHSW
/-
  My own texts (road H): HSW2.
-/
set_option linter.unusedSimpArgs false
namespace HS
open Go Go.Proofs HK
@[simp] theorem CF_getE (l : List (List Int)) (k : Nat) (h : k < (CF l).length) : (CF l)[k] = [AV.fz (YS (l[k]'(by simpa using h)))] := by simp [CF]
theorem scan_ind {b : List Int} {P : List Int → Prop} (h : ∀ a, P (datF (b.drop a))) : ∀ (n a : Nat) (out : List (List Int)), b.length - a ≤ n → (∀ c ∈ out, P c) → (∀ c ∈ (scan b a out).1, P c) ∧ (scan b a out).1.length ≤ out.length + (b.length - a)
  | n, a, out, hn, ho => by
    by_cases ha : a < b.length
    · by_cases hg : frC (b.drop a) = 0 ∧ seqF (b.drop a) = out.length
      · rw [scan_go hg.1 hg.2 ha]
        match n, hn with
        | n + 1, hn =>
          have := scan_ind h n (a + 15 + cntF (b.drop a)) (out ++ [datF (b.drop a)]) (by omega) (fun c hc => by
            rcases List.mem_append.1 hc with h1 | h1
            · exact ho c h1
            · simp at h1; rw [h1]; exact h a)
          refine ⟨this.1, ?_⟩; have h2 := this.2
          rw [List.length_append, List.length_singleton] at h2
          omega
        | 0, hn => omega
      · rw [scan_stop hg ha]; exact ⟨ho, by simp⟩
    · rw [scan_end ha]; exact ⟨ho, by simp⟩
theorem datF_len (f : List Int) : (datF f).length ≤ f.length := by unfold datF; rw [List.length_take, List.length_drop]; omega
theorem scan_all0 {b : List Int} (hb : ∀ x ∈ b, isB x) (hl : b.length ≤ 1048576) : ∀ c ∈ (scan b 0 []).1, (∀ x ∈ c, isB x) ∧ c.length ≤ 1048576 :=
  (scan_ind (P := fun c => (∀ x ∈ c, isB x) ∧ c.length ≤ 1048576) (fun a => ⟨takeB (dropB (dropB hb)), by have := datF_len (b.drop a); rw [List.length_drop] at this; omega⟩) b.length 0 [] (by omega) (by simp)).1
theorem scan_len (b : List Int) : (scan b 0 []).1.length ≤ b.length := by
  have := (scan_ind (b := b) (P := fun _ => True) (fun _ => trivial) b.length 0 [] (by omega) (by simp)).2
  simpa using this
set_option maxHeartbeats 4000000 in
theorem logRead_sy (b : List Int) (hl : b.length ≤ 1048576) (hb : ∀ x ∈ b, isB x) (c0 : List Int) (cr : List (List Int)) (A S : Nat) (hr : scan b 0 [] = (c0 :: cr, A, S)) (hd : hdOk c0 = true) : Fn Try.prog 52 [.fz (YS b)] (.tup [.agg [.int .i64 (nv (getV c0 7) : Nat), .own 4 (DS (logL S [] cr).1)], .int .i64 ((logL S [] cr).2 : Nat)]) := by
  refine Fn.intro Try.func52 (by decide) rfl (rs := [.cell 2 45, .tmp 3]) rfl Try.ntmps52 (by simp) ?_; have hall := scan_all0 hb hl
  rw [hr] at hall; have hc0 := (hall c0 (by simp)).1
  have hc0l := (hall c0 (by simp)).2
  have hcl : cr.length + 1 ≤ b.length := by have := scan_len b; rw [hr] at this; simpa using this
  unfold hdOk at hd; simp only [Bool.and_eq_true, decide_eq_true_eq] at hd; obtain ⟨hso, hwo⟩ := hd; have hse : strB (wordL ++ varB (nv (getV c0 7))) = strB c0 := by rw [hwo]
  refine SW.rg fun K hK => ?_; simp -implicitDefEqProofs; repeat (refine And.intro (by clear hK; first | omega | (intros; omega) | (intros; simp_all; done) | (intros; grind)) ?_)
  refine hK _ ?_; clear hK K; refine SW.rg fun K hK => ?_; simp -implicitDefEqProofs; repeat (refine And.intro (by clear hK; first | omega | (intros; omega) | (intros; simp_all; done) | (intros; grind)) ?_)
  refine CallS.mono (scan_s b (by omega) hb _ hr) ?_
  rintro o h' ⟨rfl, rfl⟩
  simp -implicitDefEqProofs; repeat (refine And.intro (by clear hK; first | omega | (intros; omega) | (intros; simp_all; done) | (intros; grind)) ?_)
  refine hK _ ?_; clear hK K; refine SW.seqK fun K1 hK1 => ?_; refine SW.rg fun K hK => ?_; simp -implicitDefEqProofs; repeat (refine And.intro (by clear hK; first | omega | (intros; omega) | (intros; simp_all; done) | (intros; grind)) ?_)
  refine hK _ ?_; clear hK K; refine SW.cond _ rfl (by simp) ?_ ?_
  case' refine_2 =>
   intro hb1
   first
   | (exfalso; simp at hb1; done)
   | (exfalso; simp at hb1; omega)
   | (
    refine SW.skip ?_; refine hK1 _ ?_; refine SW.rg fun K hK => ?_; simp -implicitDefEqProofs; repeat (refine And.intro (by clear hK; first | omega | (intros; omega) | (intros; simp_all; done) | (intros; grind)) ?_)
    first
      | refine CallQ.fzE (show HK.Fn Try.prog 73 [.fz (YS c0), .int .i64 7] (.tup [.int .i64 (nv (getV c0 7) : Nat), .int .i64 (pv (getV c0 7) : Nat), .bool (getV c0 7).isSome]) by rw [← getA_eq]; exact getVar_spec c0 7 (by omega) hc0) (by simp) ?_
      | refine CallK.fzE (show HK.Fn Try.prog 73 [.fz (YS c0), .int .i64 7] (.tup [.int .i64 (nv (getV c0 7) : Nat), .int .i64 (pv (getV c0 7) : Nat), .bool (getV c0 7).isSome]) by rw [← getA_eq]; exact getVar_spec c0 7 (by omega) hc0) (by simp) ?_
    simp -implicitDefEqProofs; repeat (refine And.intro (by clear hK; first | omega | (intros; omega) | (intros; simp_all; done) | (intros; grind)) ?_)
    refine hK _ ?_; clear hK K; refine SW.seqK fun K2 hK2 => ?_
    refine SW.drawK mixed [.q [(0, false), (1, false), (2, false), (3, false), (4, false), (5, false), (6, false), (7, false), (8, false), (9, false), (10, false), (11, false), (12, false)]] (by kernel_rfl) rfl fun K hK => ?_
    simp -implicitDefEqProofs [hso, hse]; repeat (refine And.intro (by clear hK; first | omega | (intros; omega) | (intros; simp_all; done) | (intros; grind)) ?_)
    first
      | refine CallQG.fzE (by simp) (fun _ => head_s (nv (getV c0 7) : Nat) (nv_ok _ rfl)) (by simp) ?_
      | refine CallG.fzE (by simp) (fun _ => head_s (nv (getV c0 7) : Nat) (nv_ok _ rfl)) (by simp) ?_
      | refine CallQ.fzE (head_s (nv (getV c0 7) : Nat) (nv_ok _ rfl)) (by simp) ?_
      | refine CallK.fzE (head_s (nv (getV c0 7) : Nat) (nv_ok _ rfl)) (by simp) ?_
    simp -implicitDefEqProofs [hso, hse]; repeat (refine And.intro (by clear hK; first | omega | (intros; omega) | (intros; simp_all; done) | (intros; grind)) ?_)
    refine hK _ ?_; clear hK K; refine SW.cond _ rfl (by simp) ?_ ?_
    case' refine_2 =>
     intro hb2
     first
     | (exfalso; simp at hb2; done)
     | (exfalso; simp at hb2; omega)
     | (
      refine SW.skip ?_; refine hK2 _ ?_; refine SW.rg fun K hK => ?_; simp -implicitDefEqProofs; repeat (refine And.intro (by clear hK; first | omega | (intros; omega) | (intros; simp_all; done) | (intros; grind)) ?_)
      refine hK _ ?_; clear hK K; refine SW.seqK fun K3 hK3 => ?_; refine SW.rg fun K hK => ?_; simp -implicitDefEqProofs
      repeat (refine And.intro (by clear hK; first | omega | (intros; omega) | (intros; simp_all; done) | (intros; grind)) ?_)
      refine hK _ ?_; clear hK K; refine SW.block ?_
      refine SW.loop (α := Nat × List Deed) (fun x => ⟨[(54, .int .i64 (x.1 : Nat)), (53, .int .i64 cr.length), (52, .sl 1 1 cr.length), (10, .ptr 2 0 0), (2, .ptr 0 0 0), (6, .int .i64 (S : Nat))], [some logZ, some ⟨1, CF (c0 :: cr)⟩, some ⟨2, [[.int .i64 (nv (getV c0 7) : Nat), .sl 3 0 x.2.length]]⟩, some ⟨4, DS x.2⟩]⟩) (fun x => x.1 ≤ cr.length ∧ x.2.length ≤ 3000 ∧ logL S [] cr = logL S x.2 (cr.drop x.1)) (fun x => cr.length - x.1) ((0, [])) ?_ ?_ (fun x hx => ?_)
      case' refine_1 =>
       exact ⟨by simp, by simp, by simp⟩
      case' refine_2 =>
       refine Wk.trans (Wk.nilAt (j := 2) (i := 1) 4 (by simp; exact rfl) rfl (by simp) (by simp)) ?_; exact Wk.cut (by simp) (by simp [subE]) (by simp [cutH]) (by simp [lowE, lowN]) (by simp [lowB, lowN, CF])
      case' refine_3 =>
       skip
       refine SW.rg fun K hK => ?_; simp -implicitDefEqProofs; repeat (refine And.intro (by clear hK; first | omega | (intros; omega) | (intros; simp_all; done) | (intros; grind)) ?_)
       refine hK _ ?_; clear hK K; refine SW.seqK fun K4 hK4 => ?_; refine SW.cond _ rfl (by simp) ?_ ?_
       case' refine_2 =>
        intro hb3
        first
        | (exfalso; simp at hb3; done)
        | (exfalso; simp at hb3; omega)
        | (
         have hk9 : x.1 = cr.length := by have := hx.1; simp at hb3; omega
         have hres : logL S [] cr = (x.2, S) := by rw [hx.2.2, hk9, List.drop_length, logL]
         refine SW.exit ?_; simp only [Ex.then, Ex.ib]; try simp only [if_true, if_false, reduceIte]
         refine hK3 _ ?_; refine SW.rg fun K hK => ?_; simp -implicitDefEqProofs; repeat (refine And.intro (by clear hK; first | omega | (intros; omega) | (intros; simp_all; done) | (intros; grind)) ?_)
         refine hK _ ?_; clear hK K; refine SW.ret ?_; simp [Ex.then, Ex.ib]
         all_goals first
           | (rw [hres]; refine ⟨fun x hx y hy => by obtain ⟨n, rfl⟩ := DS_int hx hy; rfl, ?_⟩; simp; done)
           | (rw [hres]; simp; done)
           | fail)
       rotate_right
       case' _ =>
        intro hb3
        first
        | (exfalso; simp at hb3; done)
        | (exfalso; simp at hb3; omega)
        | (
         have hkl : x.1 < cr.length := by simp at hb3; omega
         obtain ⟨c, hck⟩ : ∃ c, cr[x.1]? = some c := ⟨_, List.getElem?_eq_getElem hkl⟩
         have hck1 : (c0 :: cr)[1 + x.1]? = some c := by rw [Nat.add_comm, List.getElem?_cons_succ]; exact hck
         have hck2 : (c0 :: cr)[x.1 + 1]? = some c := by rw [List.getElem?_cons_succ]; exact hck
         have hcc := (hall c (List.mem_cons_of_mem _ (List.mem_of_getElem? hck))).1
         have hccl := (hall c (List.mem_cons_of_mem _ (List.mem_of_getElem? hck))).2
         have hrl := rdL_len c
         have hx2 := hx.2.1
         have htk : List.take (x.2.length + (rdL c).length) (DS x.2 ++ DS (rdL c)) = DS x.2 ++ DS (rdL c) := List.take_of_length_le (by simp)
         have hm4 : ((x.2.length : Nat) : Int).tmod 4 = ((x.2.length % 4 : Nat) : Int) := by rw [Int.tmod_eq_emod_of_nonneg (by omega)]; omega
         refine SW.skip ?_; refine hK4 _ ?_; refine SW.seqK fun K5 hK5 => ?_; refine SW.block ?_; refine SW.rg fun K hK => ?_; simp -implicitDefEqProofs [hck1, hck2, hm4, DS_app]
         repeat (refine And.intro (by clear hK; first | omega | (intros; omega) | (intros; simp_all; done) | (intros; grind)) ?_)
         refine hK _ ?_; clear hK K; refine SW.rg fun K hK => ?_; simp -implicitDefEqProofs; repeat (refine And.intro (by clear hK; first | omega | (intros; omega) | (intros; simp_all; done) | (intros; grind)) ?_)
         first
           | refine CallQ.fzE (readSome_su c (by omega) hcc) (by simp) ?_
           | refine CallK.fzE (readSome_su c (by omega) hcc) (by simp) ?_
         simp -implicitDefEqProofs; repeat (refine And.intro (by clear hK; first | omega | (intros; omega) | (intros; simp_all; done) | (intros; grind)) ?_)
         refine hK _ ?_; clear hK K; refine SW.rg fun K hK => ?_; simp -implicitDefEqProofs [hck1, hck2, hm4, DS_app]
         refine ⟨⟨fun e he => DS_len he, fun x hx y hy => DS_oc hx hy, by omega⟩, ⟨fun e he => DS_len he, fun x hx y hy => DS_oc hx hy, by omega⟩, ?_⟩; refine hK _ ?_; clear hK K; refine SW.seqK fun K6 hK6 => ?_; refine SW.rg fun K hK => ?_
         simp -implicitDefEqProofs [hck1, hck2, hm4, DS_app]; repeat (refine And.intro (by clear hK; first | omega | (intros; omega) | (intros; simp_all; done) | (intros; grind)) ?_)
         first
           | refine CallG.fzE (by simp) (fun _ => fits_s (x.2 ++ rdL c) (by simp; omega)) (by simp [DS_app, htk]) ?_
           | refine CallQG.fzE (by simp) (fun _ => fits_s (x.2 ++ rdL c) (by simp; omega)) (by simp [DS_app, htk]) ?_
         simp -implicitDefEqProofs [hck1, hck2, hm4, DS_app]; repeat (refine And.intro (by clear hK; first | omega | (intros; omega) | (intros; simp_all; done) | (intros; grind)) ?_)
         refine hK _ ?_; clear hK K; refine SW.cond _ rfl (by simp) ?_ ?_
         case' refine_2 =>
          intro hb4
          first
          | (exfalso; simp at hb4; done)
          | (exfalso; simp at hb4; omega)
          | (
           have hgood : (rdOk c && fitL (x.2 ++ rdL c) && decide (x.2.length % 4 = 0)) = true := by
             cases h1 : rdOk c <;> cases h2 : fitL (x.2 ++ rdL c) <;> simp [h1, h2, hm4] at hb4 ⊢ <;> omega
           have hnl : (x.2 ++ rdL c).length ≤ 3000 := by
             simp only [Bool.and_eq_true, fitL, decide_eq_true_eq] at hgood; exact hgood.1.2.2
           refine SW.skip ?_; refine hK6 _ ?_; refine SW.regionE fun K hK => ?_; simp -implicitDefEqProofs; repeat (refine And.intro (by clear hK; first | omega | (intros; omega) | (intros; simp_all; done) | (intros; grind)) ?_)
           refine hK _ ?_; clear hK K; refine hK5 _ ?_; refine SW.regionE fun K hK => ?_; simp -implicitDefEqProofs; repeat (refine And.intro (by clear hK; first | omega | (intros; omega) | (intros; simp_all; done) | (intros; grind)) ?_)
           refine hK _ ?_; clear hK K; refine ⟨(x.1 + 1, x.2 ++ rdL c), ⟨by simp only []; omega, hnl, by rw [hx.2.2]; exact logL_go hck hgood⟩, by simp only []; omega, ?_⟩
           exact Wk.ren [0, 1, 2, 7] (by simp) (by simp) (by simp) (by simp) (by simp [renE, renN, wrap1 x.1 (by omega)]) (by simp [renH, DS_app, htk]) (by simp [lowE, lowN]) (by simp [lowB, lowN, CF]; intro x hx y hy; obtain ⟨n, rfl⟩ := DS_int hx hy; rfl))
         rotate_right
         case' _ =>
          intro hb4
          first
          | (exfalso; simp at hb4; done)
          | (exfalso; simp at hb4; omega)
          | (
           have hbad : (rdOk c && fitL (x.2 ++ rdL c) && decide (x.2.length % 4 = 0)) = false := by
             cases h9 : (rdOk c && fitL (x.2 ++ rdL c) && decide (x.2.length % 4 = 0)) with
             | false => rfl
             | true =>
               exfalso; simp only [Bool.and_eq_true, decide_eq_true_eq] at h9; simp [h9.1.1, h9.1.2, hm4] at hb4; omega
           have hres : logL S [] cr = (x.2, 2) := by rw [hx.2.2]; exact logL_bad hck hbad
           refine SW.rg fun K hK => ?_; simp -implicitDefEqProofs; repeat (refine And.intro (by clear hK; first | omega | (intros; omega) | (intros; simp_all; done) | (intros; grind)) ?_)
           refine hK _ ?_; clear hK K; refine SW.ret ?_; simp [Ex.then, Ex.ib]
           all_goals first
             | (rw [hres]; refine ⟨fun x hx y hy => by obtain ⟨n, rfl⟩ := DS_int hx hy; rfl, ?_⟩; simp; done)
             | (rw [hres]; simp; done)
             | fail)))
    rotate_right
    case' _ =>
     intro hb2
     first
     | (exfalso; simp at hb2; done)
     | (exfalso; simp at hb2; omega)
     | (
      refine SW.rg fun K hK => ?_; simp -implicitDefEqProofs; repeat (refine And.intro (by clear hK; first | omega | (intros; omega) | (intros; simp_all; done) | (intros; grind)) ?_)
      refine hK _ ?_; clear hK K; refine SW.ret ?_; simp [Ex.then, Ex.ib]
      all_goals first
        | (rw [hres]; refine ⟨fun x hx y hy => by obtain ⟨n, rfl⟩ := DS_int hx hy; rfl, ?_⟩; simp; done)
        | (rw [hres]; simp; done)
        | fail))
  rotate_right
  case' _ =>
   intro hb1
   first
   | (exfalso; simp at hb1; done)
   | (exfalso; simp at hb1; omega)
   | (
    refine SW.rg fun K hK => ?_; simp -implicitDefEqProofs; repeat (refine And.intro (by clear hK; first | omega | (intros; omega) | (intros; simp_all; done) | (intros; grind)) ?_)
    refine hK _ ?_; clear hK K; refine SW.ret ?_; simp [Ex.then, Ex.ib]
    all_goals first
      | (rw [hres]; refine ⟨fun x hx y hy => by obtain ⟨n, rfl⟩ := DS_int hx hy; rfl, ?_⟩; simp; done)
      | (rw [hres]; simp; done)
      | fail)
end HS
