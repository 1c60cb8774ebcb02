import Derived.Test.YtohfnikklggjjaaGreatHGVA
/-
  My own texts (road H): HGVB.
-/
set_option linter.unusedSimpArgs false
set_option linter.unusedVariables false
namespace HT
open Go Go.Proofs HK
theorem objA_lenK {p : Prog} (hp : progOk p = true) {l : List Case} (hl : l.length ≤ 4) (k : Nat) : (objA p (l.take k)).length ≤ 100 := by
  have h := objA_len hp (l.take k)
  have h2 : (l.take k).length ≤ l.length := by simp; omega
  omega
set_option maxHeartbeats 1000000 in
theorem objY_i (p : Prog) (d : Deed) (h : p.ok) (he : evOk p d = true) : Fn Tryz.prog 39 [.agg p.fr, .agg d.cl] (.own 1 (IntS (objects p d))) := by
  refine Fn.intro Tryz.func39 (by decide) rfl (rs := [.tmp 4]) rfl Tryz.ntmps39 (by simp) ?_; have hf := evF he
  have hev := evOk_i p d h
  rw [he] at hev; clear he; obtain ⟨g, op, obj, cas⟩ := d; obtain ⟨hp, hlo, hhi, hse, hmu⟩ := hf; simp only [] at hlo hhi hse hmu hev; have h1 := h.1
  have h2 := h.2.1
  refine SW.rg fun K hK => ?_; simp -implicitDefEqProofs; repeat (refine And.intro (by clear hK; first | omega | (intros; simp_all; done) | (intros; grind)) ?_)
  refine hK _ ?_; clear hK K; refine SW.seqK fun K1 hK1 => ?_; refine SW.rg fun K hK => ?_; simp -implicitDefEqProofs; repeat (refine And.intro (by clear hK; first | omega | (intros; simp_all; done) | (intros; grind)) ?_)
  first
    | refine CallQ.fzE (hev) (by simp) ?_
    | refine CallK.fzE (hev) (by simp) ?_
  simp -implicitDefEqProofs; repeat (refine And.intro (by clear hK; first | omega | (intros; simp_all; done) | (intros; grind)) ?_)
  refine hK _ ?_; clear hK K; refine SW.cond _ rfl (by simp) ?_ ?_
  case' refine_2 =>
   intro hb1
   first
   | (exfalso; simp at hb1; done)
   | (exfalso; simp at hb1; omega)
   | (
    try simp at hb1
    try subst hb1
    refine SW.skip ?_; refine hK1 _ ?_; refine SW.seqK fun K2 hK2 => ?_; refine SW.rg fun K hK => ?_; simp -implicitDefEqProofs; repeat (refine And.intro (by clear hK; first | omega | (intros; simp_all; done) | (intros; grind)) ?_)
    refine hK _ ?_; clear hK K; refine SW.block ?_; refine SW.seqK fun K3 hK3 => ?_; refine SW.rg fun K hK => ?_; simp -implicitDefEqProofs
    repeat (refine And.intro (by clear hK; first | omega | (intros; simp_all; done) | (intros; grind)) ?_)
    refine hK _ ?_; clear hK K; refine SW.cond _ rfl (by simp) ?_ ?_
    case' refine_2 =>
     intro hb2
     first
     | (exfalso; simp at hb2; done)
     | (exfalso; simp at hb2; omega)
     | (
      try simp at hb2
      try subst hb2
      refine SW.rg fun K hK => ?_; simp -implicitDefEqProofs; repeat (refine And.intro (by clear hK; first | omega | (intros; simp_all; done) | (intros; grind)) ?_)
      refine hK _ ?_; clear hK K; refine SW.cond _ rfl (by simp) ?_ ?_
      case' refine_2 =>
       intro hb3
       first
       | (exfalso; simp at hb3; done)
       | (exfalso; simp at hb3; omega)
       | (
        try simp at hb3
        try subst hb3
        refine SW.regionE fun K hK => ?_; simp -implicitDefEqProofs; repeat (refine And.intro (by clear hK; first | omega | (intros; simp_all; done) | (intros; grind)) ?_)
        refine hK _ ?_
        clear hK K)
      rotate_right
      case' _ =>
       intro hb3
       first
       | (exfalso; simp at hb3; done)
       | (exfalso; simp at hb3; omega)
       | (
        try simp at hb3
        try subst hb3
        refine SW.skip ?_))
    rotate_right
    case' _ =>
     intro hb2
     first
     | (exfalso; simp at hb2; done)
     | (exfalso; simp at hb2; omega)
     | (
      try simp at hb2
      try subst hb2
      refine SW.skip ?_)
    all_goals (
     refine hK3 _ ?_; refine SW.cond _ rfl (by simp) ?_ ?_
     case' refine_2 =>
      intro hb4
      first
      | (exfalso; simp at hb4; done)
      | (exfalso; simp at hb4; omega)
      | (
       try simp at hb4
       try subst hb4
       refine SW.rg fun K hK => ?_; simp -implicitDefEqProofs; repeat (refine And.intro (by clear hK; first | omega | (intros; simp_all; done) | (intros; grind)) ?_)
       refine hK _ ?_; clear hK K; refine SW.cond _ rfl (by simp) ?_ ?_
       case' refine_2 =>
        intro hb5
        first
        | (exfalso; simp at hb5; done)
        | (exfalso; simp at hb5; omega)
        | (
         try simp at hb5
         try subst hb5
         refine SW.seqK fun K4 hK4 => ?_; refine SW.rg fun K hK => ?_; simp -implicitDefEqProofs; repeat (refine And.intro (by clear hK; first | omega | (intros; simp_all; done) | (intros; grind)) ?_)
         refine hK _ ?_; clear hK K; refine SW.cond _ rfl (by simp) ?_ ?_
         case' refine_2 =>
          intro hb6
          first
          | (exfalso; simp at hb6; done)
          | (exfalso; simp at hb6; omega)
          | (
           try simp at hb6
           try subst hb6
           refine SW.regionE fun K hK => ?_; simp -implicitDefEqProofs; repeat (refine And.intro (by clear hK; first | omega | (intros; simp_all; done) | (intros; grind)) ?_)
           refine hK _ ?_
           clear hK K)
         rotate_right
         case' _ =>
          intro hb6
          first
          | (exfalso; simp at hb6; done)
          | (exfalso; simp at hb6; omega)
          | (
           try simp at hb6
           try subst hb6
           refine SW.skip ?_)
         all_goals (
          refine hK4 _ ?_; refine SW.cond _ rfl (by simp) ?_ ?_
          case' refine_2 =>
           intro hb7
           first
           | (exfalso; simp at hb7; done)
           | (exfalso; simp at hb7; omega)
           | (
            try simp at hb7
            try subst hb7
            refine SW.rg fun K hK => ?_; simp -implicitDefEqProofs; repeat (refine And.intro (by clear hK; first | omega | (intros; simp_all; done) | (intros; grind)) ?_)
            refine hK _ ?_; clear hK K; refine SW.cond _ rfl (by simp) ?_ ?_
            case' refine_2 =>
             intro hb8
             first
             | (exfalso; simp at hb8; done)
             | (exfalso; simp at hb8; omega)
             | (
              try simp at hb8
              try subst hb8
              refine SW.skip ?_; refine hK2 _ ?_; refine SW.rg fun K hK => ?_; simp -implicitDefEqProofs; repeat (refine And.intro (by clear hK; first | omega | (intros; simp_all; done) | (intros; grind)) ?_)
              refine hK _ ?_; clear hK K; refine SW.ret ?_; simp [Ex.then, Ex.ib, -strN]
              all_goals first
                | (simp [objects, hss, -strN]; rw [IntS_takeL]; exact ⟨IntS_strM _, rfl⟩)
                | (have h8 : op = 8 ∨ op = 9 ∨ op = 10 := by omega
                   simp only [objects]; rw [if_pos h8]
                   first | done | rfl | exact ⟨IntS_strM _, rfl⟩ | trivial)
                | (simp [objects, strS_int, -strN]; exact IntS_strM _)
                | (simp [objects, IntS, strS_int, -strN]; done)
                | (simp [objects, IntS, strS_int, -strN, *]; done)
                | fail)
            rotate_right
            case' _ =>
             intro hb8
             first
             | (exfalso; simp at hb8; done)
             | (exfalso; simp at hb8; omega)
             | (
              try simp at hb8
              try subst hb8
              refine SW.rg fun K hK => ?_; simp -implicitDefEqProofs; repeat (refine And.intro (by clear hK; first | omega | (intros; simp_all; done) | (intros; grind)) ?_)
              refine hK _ ?_; clear hK K; refine SW.ret ?_; simp [Ex.then, Ex.ib, -strN]
              all_goals first
                | (simp [objects, hss, -strN]; rw [IntS_takeL]; exact ⟨IntS_strM _, rfl⟩)
                | (have h8 : op = 8 ∨ op = 9 ∨ op = 10 := by omega
                   simp only [objects]; rw [if_pos h8]
                   first | done | rfl | exact ⟨IntS_strM _, rfl⟩ | trivial)
                | (simp [objects, strS_int, -strN]; exact IntS_strM _)
                | (simp [objects, IntS, strS_int, -strN]; done)
                | (simp [objects, IntS, strS_int, -strN, *]; done)
                | fail))
          rotate_right
          case' _ =>
           intro hb7
           first
           | (exfalso; simp at hb7; done)
           | (exfalso; simp at hb7; omega)
           | (
            try simp at hb7
            try subst hb7
            have hm9 := hmu (by omega)
            have hw := wrapI (100 + obj) (by omega) (by omega)
            refine SW.rg fun K hK => ?_; simp -implicitDefEqProofs [hw]; repeat (refine And.intro (by clear hK; first | omega | (intros; simp_all; done) | (intros; grind)) ?_)
            refine hK _ ?_; clear hK K; refine SW.ret ?_; simp [Ex.then, Ex.ib, -strN]
            all_goals first
              | (simp [objects, hss, -strN]; rw [IntS_takeL]; exact ⟨IntS_strM _, rfl⟩)
              | (have h8 : op = 8 ∨ op = 9 ∨ op = 10 := by omega
                 simp only [objects]; rw [if_pos h8]
                 first | done | rfl | exact ⟨IntS_strM _, rfl⟩ | trivial)
              | (simp [objects, strS_int, -strN]; exact IntS_strM _)
              | (simp [objects, IntS, strS_int, -strN]; done)
              | (simp [objects, IntS, strS_int, -strN, *]; done)
              | fail)))
       rotate_right
       case' _ =>
        intro hb5
        first
        | (exfalso; simp at hb5; done)
        | (exfalso; simp at hb5; omega)
        | (
         try simp at hb5
         try subst hb5
         obtain ⟨hA, hB, s, hss, hs4⟩ := hse rfl; have hsE : ∀ h, p.sels[obj.toNat]'h = s := fun h => (List.getElem?_eq_some_iff.1 hss).2
         refine SW.rg fun K hK => ?_; simp -implicitDefEqProofs; repeat (refine And.intro (by clear hK; first | omega | (intros; simp_all; done) | (intros; grind)) ?_)
         refine hK _ ?_; clear hK K; refine SW.seqK fun K5 hK5 => ?_; refine SW.rg fun K hK => ?_; simp -implicitDefEqProofs [hA, hB, hss, hsE]
         repeat (refine And.intro (by clear hK; first | omega | (intros; simp_all; done) | (intros; grind)) ?_)
         refine hK _ ?_; clear hK K; refine SW.block ?_
         refine SW.loop (α := Nat) (fun k => ⟨[(33, .int .i64 k), (32, .int .i64 s.cases.length), (31, .fz (CaseS s.cases)), (2, .ptr 0 0 0), (5, .sl 1 0 (objA p (List.take k s.cases)).length)], [some ⟨4, [p.fr]⟩, some ⟨1, IntS (objA p (List.take k s.cases))⟩]⟩) (fun k => k ≤ s.cases.length) (fun k => s.cases.length - k) (0) ?_ ?_ (fun k hx => ?_)
         case' refine_1 =>
          simp
         case' refine_2 =>
          exact Wk.ren [0, 2] (by simp) (by simp) (by simp) (by simp) (by simp [renE, renN, objA]) (by simp [renH, IntS, objA]) (by simp [lowE, lowN]) (by simp)
         case' refine_3 =>
          have hol := objA_lenK hp hs4 k
          refine SW.rg fun K hK => ?_; simp -implicitDefEqProofs; repeat (refine And.intro (by clear hK; first | omega | (intros; simp_all; done) | (intros; grind)) ?_)
          refine hK _ ?_; clear hK K; refine SW.seqK fun K6 hK6 => ?_; refine SW.cond _ rfl (by simp) ?_ ?_
          case' refine_2 =>
           intro hb9
           first
           | (exfalso; simp at hb9; done)
           | (exfalso; simp at hb9; omega)
           | (
            try simp at hb9
            try subst hb9
            have hk1 : k = s.cases.length := by omega
            subst hk1; have htk : List.take s.cases.length s.cases = s.cases := List.take_length
            rw [htk] at hol; refine SW.exit ?_; simp only [Ex.then, Ex.ib]; try simp only [if_true, if_false, reduceIte]
            refine hK5 _ ?_; refine SW.rg fun K hK => ?_; simp -implicitDefEqProofs [frameH, merge, fids, renB, List.range_succ]; repeat (refine And.intro (by clear hK; first | omega | (intros; simp_all; done) | (intros; grind)) ?_)
            refine CallS.mono (CallS.frame [1] (rising_ok (objA p s.cases) (by omega)) (by simp) (by simp [lowN]) (by simp) (by simp) (by simp [renH]) (by simp) (by simp) ?_) ?_
            · rintro o h' ⟨t, rfl, rfl⟩
              exact ⟨by simp, by simp [IntS_nfz], by simp [lowN], by simp [nfz, strN]⟩
            rintro o h' ⟨o0, h0, ⟨t, rfl, rfl⟩, rfl, rfl⟩
            simp -implicitDefEqProofs [frameH, merge, fids, renB, List.range_succ]; repeat (refine And.intro (by clear hK; first | omega | (intros; simp_all; done) | (intros; grind)) ?_)
            refine hK _ ?_; clear hK K; refine SW.ret ?_; simp [Ex.then, Ex.ib, -strN]
            all_goals first
              | (simp [objects, hss, -strN]; rw [IntS_takeL]; exact ⟨IntS_strM _, rfl⟩)
              | (have h8 : op = 8 ∨ op = 9 ∨ op = 10 := by omega
                 simp only [objects]; rw [if_pos h8]
                 first | done | rfl | exact ⟨IntS_strM _, rfl⟩ | trivial)
              | (simp [objects, strS_int, -strN]; exact IntS_strM _)
              | (simp [objects, IntS, strS_int, -strN]; done)
              | (simp [objects, IntS, strS_int, -strN, *]; done)
              | fail)
          rotate_right
          case' _ =>
           intro hb9
           first
           | (exfalso; simp at hb9; done)
           | (exfalso; simp at hb9; omega)
           | (
            try simp at hb9
            try subst hb9
            have hltx : k < s.cases.length := by first | omega | (simp at hb9; omega)
            obtain ⟨x, hxk⟩ : ∃ q, s.cases[k]? = some q := ⟨_, List.getElem?_eq_getElem hltx⟩
            have hko := objA_step (p := p) hxk
            have hk25 := kin_24 (ch := x.chan) hp
            refine SW.skip ?_; refine hK6 _ ?_; refine SW.seqK fun K7 hK7 => ?_; refine SW.block ?_; refine SW.rg fun K hK => ?_; simp -implicitDefEqProofs [hxk]
            repeat (refine And.intro (by clear hK; first | omega | (intros; simp_all; done) | (intros; grind)) ?_)
            refine hK _ ?_; clear hK K; refine SW.regionE fun K hK => ?_; simp -implicitDefEqProofs; repeat (refine And.intro (by clear hK; first | omega | (intros; simp_all; done) | (intros; grind)) ?_)
            first
              | refine CallQ.fzE (kin_i p x.chan h hp) (by simp) ?_
              | refine CallK.fzE (kin_i p x.chan h hp) (by simp) ?_
            simp -implicitDefEqProofs; refine ⟨⟨fun e he => IntS_len he, ?_, by omega⟩, hK _ ?_⟩
            · intro x hx y hy
              obtain ⟨n, _, rfl⟩ := List.mem_map.1 hx; simp only [List.mem_singleton] at hy; subst hy; exact ⟨rfl, rfl⟩
            clear hK K; refine hK7 _ ?_; refine SW.regionE fun K hK => ?_; simp -implicitDefEqProofs; repeat (refine And.intro (by clear hK; first | omega | (intros; simp_all; done) | (intros; grind)) ?_)
            refine hK _ ?_; clear hK K; refine ⟨k + 1, by omega, by omega, ?_⟩
            exact Wk.ren [0, 3] (by simp) (by simp) (by simp) (by simp) (by simp [renE, renN, wrap1 k (by omega), hko]) (by simp [renH, hko, IntS_app]) (by simp [lowE, lowN]) (by simp))))
     rotate_right
     case' _ =>
      intro hb4
      first
      | (exfalso; simp at hb4; done)
      | (exfalso; simp at hb4; omega)
      | (
       try simp at hb4
       try subst hb4
       refine SW.rg fun K hK => ?_; simp -implicitDefEqProofs; repeat (refine And.intro (by clear hK; first | omega | (intros; simp_all; done) | (intros; grind)) ?_)
       refine CallK.imE (kin_i p obj h hp) (by simp) (IntS_okI _) ?_; simp -implicitDefEqProofs; repeat (refine And.intro (by clear hK; first | omega | (intros; simp_all; done) | (intros; grind)) ?_)
       refine hK _ ?_; clear hK K; refine SW.ret ?_; simp [Ex.then, Ex.ib, -strN]
       all_goals first
         | (simp [objects, hss, -strN]; rw [IntS_takeL]; exact ⟨IntS_strM _, rfl⟩)
         | (have h8 : op = 8 ∨ op = 9 ∨ op = 10 := by omega
            simp only [objects]; rw [if_pos h8]
            first | done | rfl | exact ⟨IntS_strM _, rfl⟩ | trivial)
         | (simp [objects, strS_int, -strN]; exact IntS_strM _)
         | (simp [objects, IntS, strS_int, -strN]; done)
         | (simp [objects, IntS, strS_int, -strN, *]; done)
         | fail)))
  rotate_right
  case' _ =>
   intro hb1
   first
   | (exfalso; simp at hb1; done)
   | (exfalso; simp at hb1; omega)
   | (
    try simp at hb1
    try subst hb1
    refine SW.rg fun K hK => ?_; simp -implicitDefEqProofs; repeat (refine And.intro (by clear hK; first | omega | (intros; simp_all; done) | (intros; grind)) ?_)
    refine hK _ ?_; clear hK K; refine SW.ret ?_; simp [Ex.then, Ex.ib, -strN]
    all_goals first
      | (simp [objects, hss, -strN]; rw [IntS_takeL]; exact ⟨IntS_strM _, rfl⟩)
      | (have h8 : op = 8 ∨ op = 9 ∨ op = 10 := by omega
         simp only [objects]; rw [if_pos h8]
         first | done | rfl | exact ⟨IntS_strM _, rfl⟩ | trivial)
      | (simp [objects, strS_int, -strN]; exact IntS_strM _)
      | (simp [objects, IntS, strS_int, -strN]; done)
      | (simp [objects, IntS, strS_int, -strN, *]; done)
      | fail)
end HT
