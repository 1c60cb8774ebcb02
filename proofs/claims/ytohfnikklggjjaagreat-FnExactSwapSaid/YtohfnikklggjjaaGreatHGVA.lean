import Derived.Test.YtohfnikklggjjaaGreatHGV7
/-
  My own texts (road H): HGVA.
-/
set_option linter.unusedSimpArgs false
set_option linter.unusedVariables false
namespace HT
open Go Go.Proofs HK
theorem Fn.ownNil {P : Program} {f : FuncId} {args : List AV} (sz : Nat) (h : Fn P f args .nil) : Fn P f args (.own sz []) :=
  ⟨h.1, fun w vs hc => (h.2 w vs hc).mono fun e w' ⟨v, S, e1, hv, h3, h4, h5⟩ => by
    cases hv
    exact ⟨_, [], e1, .own0 _ _, h3, h4, h5⟩⟩
theorem kin_out {p : Prog} {ch : Int} (hin : inCh p ch = false) : kin p ch = [] := by
  unfold kin; rw [hin]; rfl
theorem kin_i (p : Prog) (ch : Int) (h : p.ok) (hp : progOk p = true) : Fn Tryz.prog 60 [.agg p.fr, .int .i64 ch] (.own 1 (IntS (kin p ch))) := by
  cases hi : inCh p ch with
  | true => exact kin_iY p ch h hp hi
  | false =>
    rw [kin_out hi]; exact Fn.ownNil 1 (kin_iN p ch h (by simp [hi]))
theorem kin_24 {p : Prog} {ch : Int} (hp : progOk p = true) : (kin p ch).length ≤ 25 := by
  have h := kin_len (ch := ch) hp
  simp only [progOk, headOk, Bool.and_eq_true, decide_eq_true_eq] at hp; omega
structure EvF (p : Prog) (op obj : Int) : Prop where
  prog : progOk p = true
  lo : 8 ≤ op
  hi : op ≤ 15
  sel : op = 11 → 0 ≤ obj ∧ obj < p.sels.length ∧ ∃ s, p.sels[obj.toNat]? = some s ∧ s.cases.length ≤ 4
  mus : op = 12 ∨ op = 13 → 0 ≤ obj ∧ obj ≤ 4
theorem evF {p : Prog} {d : Deed} (h : evOk p d = true) : EvF p d.op d.obj := by
  simp only [evOk, evIn, isShared, Bool.and_eq_true, decide_eq_true_eq] at h; obtain ⟨hp, ⟨⟨⟨h1, h2⟩, h3⟩, h4⟩, h5⟩ := h; refine ⟨hp, h3.1, h3.2, fun e => ?_, fun e => ?_⟩
  · simp [objOk, e, inR] at h4
    obtain ⟨s, hs⟩ : ∃ q, p.sels[d.obj.toNat]? = some q := ⟨_, List.getElem?_eq_getElem (by omega)⟩
    exact ⟨h4.1, h4.2, s, hs, sel4 hp s (List.mem_of_getElem? hs)⟩
  · have hm := progOk_mus hp
    have h8 : ¬ (d.op = 8 ∨ d.op = 9 ∨ d.op = 10) := by omega
    have h11 : ¬ d.op = 11 := by omega
    simp only [objOk, if_neg h8, if_neg h11, if_pos e, inR, Bool.and_eq_true, decide_eq_true_eq] at h4; omega
theorem intoAll_len : ∀ (l o : List Int), (intoAll o l).length ≤ o.length + l.length
  | [], o => by simp [intoAll]
  | x :: r, o => by
    have h1 := intoAll_len r (into x o)
    have h2 := into_len x o
    show (intoAll (into x o) r).length ≤ _
    rw [List.length_cons]; omega
theorem objF_len {p : Prog} (hp : progOk p = true) : ∀ (l : List Case) (o : List Int), (l.foldl (objStep p) o).length ≤ o.length + 25 * l.length
  | [], o => by simp
  | x :: r, o => by
    have h1 := objF_len hp r (objStep p o x)
    have h2 := intoAll_len (kin p x.chan) o
    have h3 := kin_24 (ch := x.chan) hp
    rw [List.foldl_cons, List.length_cons]; unfold objStep at h1 ⊢; omega
theorem objO_len {p : Prog} (hp : progOk p = true) {l : List Case} (hl : l.length ≤ 4) (k : Nat) : ((l.take k).foldl (objStep p) []).length ≤ 100 := by
  have h := objF_len hp (l.take k) []
  have h2 : (l.take k).length ≤ l.length := by simp; omega
  simp only [List.length_nil] at h; omega
theorem objA_len {p : Prog} (hp : progOk p = true) : ∀ (l : List Case), (objA p l).length ≤ 25 * l.length
  | [] => by simp [objA]
  | x :: r => by
    have h1 := objA_len hp r
    have h3 := kin_24 (ch := x.chan) hp
    simp only [objA, List.flatMap_cons, List.length_append, List.length_cons] at h1 ⊢; omega
theorem objects_len {p : Prog} {d : Deed} (h : evOk p d = true) : (objects p d).length ≤ 100 := by
  have hf := evF h
  unfold objects; split
  · exact Nat.le_trans (kin_24 hf.prog) (by omega)
  · split
    · rename_i e
      obtain ⟨_, _, s, hs, h4⟩ := hf.sel e; rw [hs]; have h1 := rising_len (objA p s.cases)
      have h2 := objA_len hf.prog s.cases
      simp only []; omega
    · split
      · simp
      · split <;> simp
theorem into_all {o l : List Int} {j : Nat} {x : Int} (h : l[j]? = some x) : intoAll o (l.take (j + 1)) = into x (intoAll o (l.take j)) := by
  unfold intoAll; exact foldl_step h
set_option maxHeartbeats 1000000 in
theorem objl_s (p : Prog) (d : Deed) (h : p.ok) (he : evOk p d = true) : Fn Tryz.prog 53 [.agg p.fr, .agg d.cl] (.own 1 (IntS (objects p d))) := by
  refine Fn.intro Tryz.func53 (by decide) rfl (rs := [.tmp 4]) rfl Tryz.ntmps53 (by simp) ?_; have hf := evF he
  clear he; obtain ⟨g, op, obj, cas⟩ := d; obtain ⟨hp, hlo, hhi, hse, hmu⟩ := hf; simp only [] at hlo hhi hse hmu; have h1 := h.1
  have h2 := h.2.1
  refine SW.rg fun K hK => ?_; simp -implicitDefEqProofs; repeat (refine And.intro (by clear hK; first | omega | (intros; simp_all; done) | (intros; grind)) ?_)
  refine hK _ ?_; clear hK K; refine SW.rg fun K hK => ?_; simp -implicitDefEqProofs; repeat (refine And.intro (by clear hK; first | omega | (intros; simp_all; done) | (intros; grind)) ?_)
  refine hK _ ?_; clear hK K; refine SW.seqK fun K1 hK1 => ?_; refine SW.rg fun K hK => ?_; simp -implicitDefEqProofs; repeat (refine And.intro (by clear hK; first | omega | (intros; simp_all; done) | (intros; grind)) ?_)
  refine hK _ ?_; clear hK K; refine SW.block ?_; refine SW.rg fun K hK => ?_; simp -implicitDefEqProofs; repeat (refine And.intro (by clear hK; first | omega | (intros; simp_all; done) | (intros; grind)) ?_)
  refine hK _ ?_; clear hK K; refine SW.cond _ rfl (by simp) ?_ ?_
  case' refine_2 =>
   intro hb1
   first
   | (exfalso; simp at hb1; done)
   | (exfalso; simp at hb1; omega)
   | (
    try simp at hb1
    try subst hb1
    refine SW.seqK fun K2 hK2 => ?_; refine SW.rg fun K hK => ?_; simp -implicitDefEqProofs; repeat (refine And.intro (by clear hK; first | omega | (intros; simp_all; done) | (intros; grind)) ?_)
    refine hK _ ?_; clear hK K; refine SW.cond _ rfl (by simp) ?_ ?_
    case' refine_2 =>
     intro hb2
     first
     | (exfalso; simp at hb2; done)
     | (exfalso; simp at hb2; omega)
     | (
      try simp at hb2
      try subst hb2
      refine SW.regionE fun K hK => ?_; simp -implicitDefEqProofs; repeat (refine And.intro (by clear hK; first | omega | (intros; simp_all; done) | (intros; grind)) ?_)
      refine hK _ ?_
      clear hK K)
    rotate_right
    case' _ =>
     intro hb2
     first
     | (exfalso; simp at hb2; done)
     | (exfalso; simp at hb2; omega)
     | (
      try simp at hb2
      try subst hb2
      refine SW.skip ?_)
    all_goals (
     refine hK2 _ ?_; refine SW.cond _ rfl (by simp) ?_ ?_
     case' refine_2 =>
      intro hb3
      first
      | (exfalso; simp at hb3; done)
      | (exfalso; simp at hb3; omega)
      | (
       try simp at hb3
       try subst hb3
       refine SW.rg fun K hK => ?_; simp -implicitDefEqProofs; repeat (refine And.intro (by clear hK; first | omega | (intros; simp_all; done) | (intros; grind)) ?_)
       refine hK _ ?_; clear hK K; refine SW.cond _ rfl (by simp) ?_ ?_
       case' refine_2 =>
        intro hb4
        first
        | (exfalso; simp at hb4; done)
        | (exfalso; simp at hb4; omega)
        | (
         try simp at hb4
         try subst hb4
         refine SW.rg fun K hK => ?_; simp -implicitDefEqProofs; repeat (refine And.intro (by clear hK; first | omega | (intros; simp_all; done) | (intros; grind)) ?_)
         refine hK _ ?_; clear hK K; refine SW.cond _ rfl (by simp) ?_ ?_
         case' refine_2 =>
          intro hb5
          first
          | (exfalso; simp at hb5; done)
          | (exfalso; simp at hb5; omega)
          | (
           try simp at hb5
           try subst hb5
           refine SW.regionE fun K hK => ?_; simp -implicitDefEqProofs; repeat (refine And.intro (by clear hK; first | omega | (intros; simp_all; done) | (intros; grind)) ?_)
           refine CallK.imE (kinl_s p obj h hp) (by simp) (IntS_okI _) ?_; simp -implicitDefEqProofs; repeat (refine And.intro (by clear hK; first | omega | (intros; simp_all; done) | (intros; grind)) ?_)
           refine hK _ ?_
           clear hK K)
         rotate_right
         case' _ =>
          intro hb5
          first
          | (exfalso; simp at hb5; done)
          | (exfalso; simp at hb5; omega)
          | (
           try simp at hb5
           try subst hb5
           refine SW.regionE fun K hK => ?_; simp -implicitDefEqProofs; repeat (refine And.intro (by clear hK; first | omega | (intros; simp_all; done) | (intros; grind)) ?_)
           refine hK _ ?_
           clear hK K))
       rotate_right
       case' _ =>
        intro hb4
        first
        | (exfalso; simp at hb4; done)
        | (exfalso; simp at hb4; omega)
        | (
         try simp at hb4
         try subst hb4
         refine SW.regionE fun K hK => ?_; simp -implicitDefEqProofs; repeat (refine And.intro (by clear hK; first | omega | (intros; simp_all; done) | (intros; grind)) ?_)
         refine hK _ ?_
         clear hK K))
     rotate_right
     case' _ =>
      intro hb3
      first
      | (exfalso; simp at hb3; done)
      | (exfalso; simp at hb3; omega)
      | (
       try simp at hb3
       try subst hb3
       have hm9 := hmu (by omega)
       have hw := wrapI (100 + obj) (by omega) (by omega)
       refine SW.regionE fun K hK => ?_; simp -implicitDefEqProofs [hw]; repeat (refine And.intro (by clear hK; first | omega | (intros; simp_all; done) | (intros; grind)) ?_)
       refine hK _ ?_
       clear hK K)))
  rotate_right
  case' _ =>
   intro hb1
   first
   | (exfalso; simp at hb1; done)
   | (exfalso; simp at hb1; omega)
   | (
    try simp at hb1
    try subst hb1
    obtain ⟨hA, hB, s, hss, hs4⟩ := hse rfl; have hsE : ∀ h, p.sels[obj.toNat]'h = s := fun h => (List.getElem?_eq_some_iff.1 hss).2
    refine SW.rg fun K hK => ?_; simp -implicitDefEqProofs [hA, hB, hss, hsE]; repeat (refine And.intro (by clear hK; first | omega | (intros; simp_all; done) | (intros; grind)) ?_)
    refine hK _ ?_; clear hK K; refine SW.block ?_
    refine SW.loop (α := Nat) (fun k => ⟨[(27, .int .i64 k), (26, .int .i64 s.cases.length), (25, .fz (CaseS s.cases)), (2, .ptr 0 0 0), (5, .sl 1 0 (List.foldl (objStep p) [] (List.take k s.cases)).length)], [some ⟨4, [p.fr]⟩, some ⟨1, IntS (List.foldl (objStep p) [] (List.take k s.cases))⟩]⟩) (fun k => k ≤ s.cases.length) (fun k => s.cases.length - k) (0) ?_ ?_ (fun k hx => ?_)
    case' refine_1 =>
     simp
    case' refine_2 =>
     exact Wk.ren [0, 2] (by simp) (by simp) (by simp) (by simp) (by simp [renE, renN]) (by simp [renH, IntS]) (by simp [lowE, lowN]) (by simp)
    case' refine_3 =>
     have hol := objO_len hp hs4 k
     refine SW.rg fun K hK => ?_; simp -implicitDefEqProofs; repeat (refine And.intro (by clear hK; first | omega | (intros; simp_all; done) | (intros; grind)) ?_)
     refine hK _ ?_; clear hK K; refine SW.seqK fun K3 hK3 => ?_; refine SW.cond _ rfl (by simp) ?_ ?_
     case' refine_2 =>
      intro hb6
      first
      | (exfalso; simp at hb6; done)
      | (exfalso; simp at hb6; omega)
      | (
       try simp at hb6
       try subst hb6
       have hk1 : k = s.cases.length := by omega
       subst hk1; have htk : List.take s.cases.length s.cases = s.cases := List.take_length
       refine SW.exit ?_; simp only [Ex.then, Ex.ib]
       try simp only [if_true, if_false, reduceIte])
     rotate_right
     case' _ =>
      intro hb6
      first
      | (exfalso; simp at hb6; done)
      | (exfalso; simp at hb6; omega)
      | (
       try simp at hb6
       try subst hb6
       have hltx : k < s.cases.length := by first | omega | (simp at hb6; omega)
       obtain ⟨x, hxk⟩ : ∃ q, s.cases[k]? = some q := ⟨_, List.getElem?_eq_getElem hltx⟩
       have hko := foldl_step (f := objStep p) (o := []) hxk
       have hk25 := kin_24 (ch := x.chan) hp
       refine SW.skip ?_; refine hK3 _ ?_; refine SW.seqK fun K4 hK4 => ?_; refine SW.block ?_; refine SW.rg fun K hK => ?_; simp -implicitDefEqProofs [hxk]
       repeat (refine And.intro (by clear hK; first | omega | (intros; simp_all; done) | (intros; grind)) ?_)
       refine hK _ ?_; clear hK K; refine SW.rg fun K hK => ?_; simp -implicitDefEqProofs; repeat (refine And.intro (by clear hK; first | omega | (intros; simp_all; done) | (intros; grind)) ?_)
       first
         | refine CallQ.fzE (kinl_s p x.chan h hp) (by simp) ?_
         | refine CallK.fzE (kinl_s p x.chan h hp) (by simp) ?_
       simp -implicitDefEqProofs; repeat (refine And.intro (by clear hK; first | omega | (intros; simp_all; done) | (intros; grind)) ?_)
       refine hK _ ?_; clear hK K; refine SW.block ?_
       refine SW.loop (α := Nat) (fun j => ⟨[(36, .int .i64 j), (35, .int .i64 (kin p x.chan).length), (34, .fz (IntS (kin p x.chan))), (27, .int .i64 k), (26, .int .i64 s.cases.length), (25, .fz (CaseS s.cases)), (2, .ptr 0 0 0), (5, .sl 1 0 (intoAll (List.foldl (objStep p) [] (List.take k s.cases)) (List.take j (kin p x.chan))).length)], [some ⟨4, [p.fr]⟩, some ⟨1, IntS (intoAll (List.foldl (objStep p) [] (List.take k s.cases)) (List.take j (kin p x.chan)))⟩]⟩) (fun j => j ≤ (kin p x.chan).length) (fun j => (kin p x.chan).length - j) (0) ?_ ?_ (fun j hx => ?_)
       case' refine_1 =>
        simp
       case' refine_2 =>
        exact Wk.cut (by simp) (by simp [subE, intoAll]) (by simp [cutH, intoAll]) (by simp [lowE, lowN]) (by simp)
       case' refine_3 =>
        skip
        refine SW.rg fun K hK => ?_; simp -implicitDefEqProofs; repeat (refine And.intro (by clear hK; first | omega | (intros; simp_all; done) | (intros; grind)) ?_)
        refine hK _ ?_; clear hK K; refine SW.seqK fun K5 hK5 => ?_; refine SW.cond _ rfl (by simp) ?_ ?_
        case' refine_2 =>
         intro hb7
         first
         | (exfalso; simp at hb7; done)
         | (exfalso; simp at hb7; omega)
         | (
          try simp at hb7
          try subst hb7
          have hj1 : j = (kin p x.chan).length := by omega
          subst hj1; have htj : List.take (kin p x.chan).length (kin p x.chan) = kin p x.chan := List.take_length
          refine SW.exit ?_; simp only [Ex.then, Ex.ib]; try simp only [if_true, if_false, reduceIte]
          refine hK4 _ ?_; refine SW.regionE fun K hK => ?_; simp -implicitDefEqProofs; repeat (refine And.intro (by clear hK; first | omega | (intros; simp_all; done) | (intros; grind)) ?_)
          refine hK _ ?_; clear hK K; refine ⟨k + 1, by omega, by omega, ?_⟩
          exact Wk.cut (by simp) (by simp [subE, wrap1 k (by omega), hko, objStep]) (by simp [cutH, hko, objStep]) (by simp [lowE, lowN]) (by simp))
        rotate_right
        case' _ =>
         intro hb7
         first
         | (exfalso; simp at hb7; done)
         | (exfalso; simp at hb7; omega)
         | (
          try simp at hb7
          try subst hb7
          have hlty : j < (kin p x.chan).length := by first | omega | (simp at hb7; omega)
          obtain ⟨y, hyk⟩ : ∃ q, (kin p x.chan)[j]? = some q := ⟨_, List.getElem?_eq_getElem hlty⟩
          have hst := into_all (o := (List.foldl (objStep p) [] (List.take k s.cases))) hyk
          have hil := intoAll_len (List.take j (kin p x.chan)) (List.foldl (objStep p) [] (List.take k s.cases))
          have hil2 : (List.take j (kin p x.chan)).length ≤ 25 := by simp; omega
          refine SW.skip ?_; refine hK5 _ ?_; refine SW.seqK fun K6 hK6 => ?_; refine SW.block ?_; refine SW.rg fun K hK => ?_; simp -implicitDefEqProofs [hyk]
          repeat (refine And.intro (by clear hK; first | omega | (intros; simp_all; done) | (intros; grind)) ?_)
          refine hK _ ?_; clear hK K; refine SW.regionE fun K hK => ?_; simp -implicitDefEqProofs; repeat (refine And.intro (by clear hK; first | omega | (intros; simp_all; done) | (intros; grind)) ?_)
          refine CallK.imE (into_s y (intoAll (List.foldl (objStep p) [] (List.take k s.cases)) (List.take j (kin p x.chan))) (by omega)) (by simp) (IntS_okI _) ?_; simp -implicitDefEqProofs
          repeat (refine And.intro (by clear hK; first | omega | (intros; simp_all; done) | (intros; grind)) ?_)
          refine hK _ ?_; clear hK K; refine hK6 _ ?_; refine SW.regionE fun K hK => ?_; simp -implicitDefEqProofs; repeat (refine And.intro (by clear hK; first | omega | (intros; simp_all; done) | (intros; grind)) ?_)
          refine hK _ ?_; clear hK K; refine ⟨j + 1, by omega, by omega, ?_⟩
          exact Wk.ren [0, 2] (by simp) (by simp) (by simp) (by simp) (by simp [renE, renN, wrap1 j (by omega), hst]) (by simp [renH, hst]) (by simp [lowE, lowN]) (by simp))))
  all_goals (
   refine hK1 _ ?_; refine SW.rg fun K hK => ?_; simp -implicitDefEqProofs; repeat (refine And.intro (by clear hK; first | omega | (intros; simp_all; done) | (intros; grind)) ?_)
   refine hK _ ?_; clear hK K; refine SW.ret ?_; simp [Ex.then, Ex.ib, -strN]
   all_goals first
     | (rw [htk, objS_eq]; simp [objects, hss, -strN]; exact IntS_strM _)
     | (simp [objects, hss, objS_eq, -strN]; done)
     | (simp [objects, IntS, strS_int, -strN]; done)
     | (have h8 : op = 8 ∨ op = 9 ∨ op = 10 := by omega
        simp only [objects]; rw [if_pos h8]
        first | done | rfl | exact ⟨IntS_strM _, rfl⟩ | trivial)
     | fail)
end HT
