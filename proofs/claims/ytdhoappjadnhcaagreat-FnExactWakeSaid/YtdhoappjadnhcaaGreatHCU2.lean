import Derived.Test.YtdhoappjadnhcaaGreatG13
import Derived.Test.YtdhoappjadnhcaaGreatG15
/-
  My own texts (road H): HCU2.
-/
set_option maxHeartbeats 8000000
set_option linter.unusedSimpArgs false
set_option linter.unusedVariables false
namespace HT
open Go Go.Proofs HK
def plC (g : Gor) (n : Int) (k : Nat) (x : Case) : Place := ⟨false, x.chan, x.send, n, k, if x.send then regD g x.reg else 0⟩
def plCs (g : Gor) (n : Int) : Nat → List Case → List Place
  | _, [] => []
  | k, x :: r => (if x.chan < 0 then [] else [plC g n k x]) ++ plCs g n (k + 1) r
theorem plCs_app (g : Gor) (n : Int) : ∀ (k : Nat) (a b : List Case), plCs g n k (a ++ b) = plCs g n k a ++ plCs g n (k + a.length) b
  | k, [], b => by simp [plCs]
  | k, x :: a, b => by
    rw [List.cons_append, plCs, plCs, plCs_app g n (k + 1) a b, List.append_assoc, List.length_cons]
    congr 3
    omega
theorem plCs_step {g : Gor} {n : Int} {l : List Case} {k : Nat} {x : Case} (h : l[k]? = some x) : plCs g n 0 (l.take (k + 1)) = plCs g n 0 (l.take k) ++ (if x.chan < 0 then [] else [plC g n k x]) := by
  have hlt := (List.getElem?_eq_some_iff.1 h).1
  rw [List.take_add_one, h, plCs_app]; have e : (l.take k).length = k := by simp; omega
  rw [e]; simp [plCs]
theorem plCs_len (g : Gor) (n : Int) : ∀ (k : Nat) (l : List Case), (plCs g n k l).length ≤ l.length
  | _, [] => by simp [plCs]
  | k, x :: r => by
    have := plCs_len g n (k + 1) r
    rw [plCs, List.length_append, List.length_cons]; split <;> simp <;> omega
def pls (p : Prog) (g : Gor) (n : Int) : List Place :=
  if (atI p g).op = 8 then (if 0 ≤ (atI p g).a then [⟨false, (atI p g).a, true, n, -1, regD g (atI p g).b⟩] else [])
  else if (atI p g).op = 9 then (if 0 ≤ (atI p g).a then [⟨false, (atI p g).a, false, n, -1, 0⟩] else [])
  else if (atI p g).op = 11 then (match p.sels[(atI p g).a.toNat]? with | some s => plCs g n 0 s.cases | none => [])
  else if (atI p g).op = 12 then [⟨true, (atI p g).a, false, n, -1, 0⟩] else []
theorem casesOk_all {p : Prog} {n : Int} : ∀ {l a : List Case}, casesOk p n a l = true → ∀ x ∈ l, caseOk p n x = true
  | y :: r, a, h, x, hx => by
    simp only [casesOk, Bool.and_eq_true] at h; rcases List.mem_cons.1 hx with rfl | hx
    · exact h.1.1
    · exact casesOk_all h.2 x hx
theorem at_facts {p : Prog} {g : Gor} (hp : progOk p = true) (ha : atOk p g) : ∃ (x : Proc) (i : Instr), p.procs[g.proc.toNat]? = some x ∧ x.code[g.pc.toNat]? = some i ∧ atI p g = i ∧
    (i.op = 8 → 0 ≤ i.b ∧ i.b < 6) ∧ (i.op = 11 → 0 ≤ i.a ∧ i.a < p.sels.length ∧ ∃ s, p.sels[i.a.toNat]? = some s ∧ ∀ c ∈ s.cases, 0 ≤ c.reg ∧ c.reg < 6) := by
  obtain ⟨hA, hC, x, hx, hD⟩ := ha; obtain ⟨i, hi⟩ : ∃ i, x.code[g.pc.toNat]? = some i := ⟨_, List.getElem?_eq_getElem (by omega)⟩
  have hat : atI p g = i := by simp [atI, hx, hi]
  simp only [progOk, Bool.and_eq_true, List.all_eq_true] at hp; have hc := hp.2 x (List.mem_of_getElem? hx)
  simp only [codeOk, Bool.and_eq_true, decide_eq_true_eq, List.all_eq_true] at hc; have hI := hc.1.2 i (List.mem_of_getElem? hi)
  simp only [codeI, Bool.and_eq_true] at hI; have hk := hI.1
  refine ⟨x, i, hx, hi, hat, ?_, ?_⟩
  · intro h
    simp [instrOk, kindOk, h, inR, regOk] at hk; omega
  · intro h
    have h1 := instrOk_sel hk h
    obtain ⟨s, hs⟩ : ∃ s, p.sels[i.a.toNat]? = some s := ⟨_, List.getElem?_eq_getElem (by omega)⟩
    have h2 := hI.2
    simp [h, hs] at h2; refine ⟨h1.1, h1.2, s, hs, fun c hcm => ?_⟩; simp only [selOk, Bool.and_eq_true] at h2; have h3 := casesOk_all h2.1 c hcm
    simp [caseOk, regOk] at h3; omega
theorem PlaceS_strM (l : List Place) : ∀ x ∈ PlaceS l, ∀ y ∈ x, strN 4 y = true := fun x hx y hy => by
  obtain ⟨d, _, rfl⟩ := List.mem_map.1 hx; simp at hy; rcases hy with rfl | rfl | rfl | rfl | rfl | rfl <;> rfl
theorem cases_s (s : Select) (g : Gor) (n : Int) (hs : s.cases.length ≤ 1048576) (hg : g.regs.length ≤ 2 ^ 29) : Fn Tryz.prog 188 [.agg s.fr, .agg g.fr, .int .i64 n] (.own 6 (PlaceS (plCs g n 0 s.cases))) := by
  refine Fn.intro Tryz.func188 (by decide) rfl (rs := [.tmp 6]) rfl Tryz.ntmps188 (by simp) ?_; refine SW.rb ?_; refine SW.rb ?_; refine SW.seqK fun K1 hK1 => ?_; refine SW.rb ?_; refine SW.block ?_
  refine SW.loop (α := Nat) (fun k => ⟨[(15, .int .i64 k), (14, .int .i64 s.cases.length), (13, .fz (CaseS s.cases)), (2, .int .i64 n), (7, .sl 2 0 (plCs g n 0 (s.cases.take k)).length), (3, .ptr 0 0 0), (4, .ptr 1 0 0)], [some ⟨2, [s.fr]⟩, some ⟨5, [g.fr]⟩, some ⟨6, (PlaceS (plCs g n 0 (s.cases.take k)))⟩]⟩) (fun k => k ≤ s.cases.length) (fun k => s.cases.length - k) (0) ?_ ?_ (fun k hx => ?_)
  case' refine_1 =>
   simp
  case' refine_2 =>
   exact Wk.cut (by simp) (by simp [subE, plCs]) (by simp [cutH, plCs]) (by simp [lowE, lowN]) (by simp)
  case' refine_3 =>
   skip
   refine SW.rb ?_; refine SW.seqK fun K2 hK2 => ?_; refine SW.cond _ rfl (by simp) ?_ ?_
   case' refine_1 =>
    intro hb1; have hlt : k < s.cases.length := by first | omega | (simp at hb1; omega)
    obtain ⟨x, hxk⟩ : ∃ x, s.cases[k]? = some x := ⟨_, List.getElem?_eq_getElem hlt⟩
    have hxm := List.mem_of_getElem? hxk
    have hps := plCs_step (g := g) (n := n) hxk
    have hpl := plCs_len g n 0 (s.cases.take k)
    have hpl2 : (s.cases.take k).length ≤ s.cases.length := by simp; omega
    refine SW.skip ?_; refine hK2 _ ?_; refine SW.seqK fun K3 hK3 => ?_; refine SW.block ?_; refine SW.rg fun K hK => ?_; simp -implicitDefEqProofs [hxk]
    repeat (refine And.intro (by clear hK; first | omega | (intros; simp_all; done) | (intros; grind)) ?_)
    refine hK _ ?_; clear hK K; refine SW.seqK fun K4 hK4 => ?_; refine SW.rb ?_; refine SW.cond _ rfl (by simp) ?_ ?_
    case' refine_2 =>
     intro hb2
     have hst : plCs g n 0 (s.cases.take (k + 1)) = plCs g n 0 (s.cases.take k) ++ [plC g n k x] := by
       rw [hps, if_neg (by simpa using hb2)]
     have hap := True.intro
     refine SW.skip ?_; refine hK4 _ ?_; refine SW.rb ?_; refine SW.seqK fun K5 hK5 => ?_; refine SW.rb ?_; refine SW.cond _ rfl (by simp) ?_ ?_
     case' refine_2 =>
      intro hb3; have hsd : x.send = false := by simpa using hb3
      refine SW.skip ?_
     rotate_right
     case' _ =>
      intro hb3; have hsd : x.send = true := by simpa using hb3
      refine SW.regionE fun K hK => ?_; simp -implicitDefEqProofs; repeat (refine And.intro (by clear hK; first | omega | (intros; simp_all; done) | (intros; grind)) ?_)
      first
        | refine CallQ.fzE (reg_s2 g x.reg hg) (by simp) ?_
        | refine CallK.fzE (reg_s2 g x.reg hg) (by simp) ?_
      simp -implicitDefEqProofs; repeat (refine And.intro (by clear hK; first | omega | (intros; simp_all; done) | (intros; grind)) ?_)
      refine hK _ ?_; clear hK K
     all_goals (
      refine hK5 _ ?_; refine SW.regionE fun K hK => ?_; simp -implicitDefEqProofs; repeat (refine And.intro (by clear hK; first | omega | (intros; simp_all; done) | (intros; grind)) ?_)
      refine hK _ ?_
      clear hK K)
    rotate_right
    case' _ =>
     intro hb2
     have hst : plCs g n 0 (s.cases.take (k + 1)) = plCs g n 0 (s.cases.take k) := by
       rw [hps, if_pos (by simpa using hb2)]; simp
     refine SW.exit ?_; simp only [Ex.then, Ex.ib]; try simp only [if_true, if_false, reduceIte]
    all_goals (
     refine hK3 _ ?_; refine SW.eb ?_; refine ⟨k + 1, by omega, by omega, ?_⟩
     first
       | (have q := hap; exact Wk.ren [0, 1, 6] (by simp) (by simp) (by simp) (by simp) (by simp [renE, renN, wrap1 k (by omega), hst]) (by simp [renH, hst, PlaceS_app, PlaceS, plC, hsd]) (by simp [lowE, lowN]) (by simp))
       | exact Wk.cut (by simp) (by simp [subE, wrap1 k (by omega), hst]) (by simp [cutH, hst]) (by simp [lowE, lowN]) (by simp))
   intro hb1; have hk1 : k = s.cases.length := by simp at hb1; omega
   subst hk1; have htk : List.take s.cases.length s.cases = s.cases := List.take_length
   refine SW.exit ?_; simp only [Ex.then, Ex.ib]; try simp only [if_true, if_false, reduceIte]
   refine hK1 _ ?_; refine SW.rb ?_; refine SW.ret ?_; simp [Ex.then, Ex.ib, -strN]
   all_goals (simp [htk, -strN])
   all_goals (try exact PlaceS_strM _)
theorem places_s (p : Prog) (g : Gor) (n : Int) (h : p.ok) (hp : progOk p = true) (ha : atOk p g) (hg6 : g.regs.length = 6) : Fn Tryz.prog 105 [.agg p.fr, .agg g.fr, .int .i64 n] (.own 6 (PlaceS (pls p g n))) := by
  refine Fn.intro Tryz.func105 (by decide) rfl (rs := [.tmp 6]) rfl Tryz.ntmps105 (by simp) ?_; obtain ⟨y, i, hy, hi, hat, f8, f11⟩ := at_facts hp ha; have h2 := h.2.1
  have hso := h.2.2.1
  refine SW.rb ?_; refine SW.rg fun K hK => ?_; simp -implicitDefEqProofs [hat]; repeat (refine And.intro (by clear hK; first | omega | (intros; simp_all; done) | (intros; grind)) ?_)
  first
    | refine CallQ.fzE (instr_s p g ha) (by simp) ?_
    | refine CallK.fzE (instr_s p g ha) (by simp) ?_
  simp -implicitDefEqProofs [hat]; repeat (refine And.intro (by clear hK; first | omega | (intros; simp_all; done) | (intros; grind)) ?_)
  refine hK _ ?_; clear hK K; refine SW.rb ?_; refine SW.seqK fun K1 hK1 => ?_; refine SW.block ?_; refine SW.rb ?_; refine SW.cond _ rfl (by simp) ?_ ?_
  case' refine_1 =>
   intro hb1; try simp at hb1
   try subst hb1
   have hr : pls p g n = [⟨false, i.a, true, n, -1, regD g i.b⟩] := by
     unfold pls; rw [hat]; simp [*]
   refine SW.rg fun K hK => ?_; simp -implicitDefEqProofs; repeat (refine And.intro (by clear hK; first | omega | (intros; simp_all; done) | (intros; grind)) ?_)
   first
     | refine CallQ.fzE (reg_s2 g i.b (by omega)) (by simp) ?_
     | refine CallK.fzE (reg_s2 g i.b (by omega)) (by simp) ?_
   simp -implicitDefEqProofs; repeat (refine And.intro (by clear hK; first | omega | (intros; simp_all; done) | (intros; grind)) ?_)
   refine hK _ ?_; clear hK K; refine SW.rb ?_; refine SW.ret ?_; simp [Ex.then, Ex.ib, -strN]
   all_goals first
     | (rw [hr]; done)
     | (rw [hr]; simp [PlaceS, strS_int, strS_bool, -strN]; done)
     | (rw [hr]; simp [strS_int, strS_bool, -strN]; exact PlaceS_strM _)
     | (rw [hr]; simp [-strN]; done)
     | fail
  intro hb1; try simp at hb1
  try subst hb1
  refine SW.rb ?_; refine SW.cond _ rfl (by simp) ?_ ?_
  case' refine_1 =>
   intro hb2; try simp at hb2
   try subst hb2
   have hr : pls p g n = [⟨false, i.a, false, n, -1, 0⟩] := by
     unfold pls; rw [hat]; simp [*]
   refine SW.rb ?_; refine SW.ret ?_; simp [Ex.then, Ex.ib, -strN]
   all_goals first
     | (rw [hr]; done)
     | (rw [hr]; simp [PlaceS, strS_int, strS_bool, -strN]; done)
     | (rw [hr]; simp [strS_int, strS_bool, -strN]; exact PlaceS_strM _)
     | (rw [hr]; simp [-strN]; done)
     | fail
  intro hb2; try simp at hb2
  try subst hb2
  refine SW.rb ?_; refine SW.cond _ rfl (by simp) ?_ ?_
  case' refine_1 =>
   intro hb3; try simp at hb3
   try subst hb3
   obtain ⟨hA, hB, s, hsk, hcr⟩ := f11 (by simpa using hb3); have hsE : ∀ h, p.sels[i.a.toNat]'h = s := fun h => (List.getElem?_eq_some_iff.1 hsk).2
   have hsl : s.cases.length ≤ 1048576 := hso s (List.mem_of_getElem? hsk)
   have hr : pls p g n = plCs g n 0 s.cases := by
     unfold pls; rw [hat]; simp [*]
   refine SW.drawK mixed [.q [(0, false), (1, false), (2, false), (3, false), (4, false), (5, false), (6, false), (7, false), (8, true), (9, false)]] (by kernel_rfl) rfl fun K hK => ?_; simp -implicitDefEqProofs [hA, hB, hsk, hsE]
   repeat (refine And.intro (by clear hK; first | omega | (intros; simp_all; done) | (intros; grind)) ?_)
   refine imQ (cases_s s g n hsl (by omega)) (by simp) (PlaceS_okI _) ?_; simp -implicitDefEqProofs [hA, hB, hsk, hsE]; repeat (refine And.intro (by clear hK; first | omega | (intros; simp_all; done) | (intros; grind)) ?_)
   refine hK _ ?_; clear hK K; refine SW.ret ?_; simp [Ex.then, Ex.ib, -strN]
   all_goals first
     | (rw [hr]; done)
     | (rw [hr]; simp [PlaceS, strS_int, strS_bool, -strN]; done)
     | (rw [hr]; simp [strS_int, strS_bool, -strN]; exact PlaceS_strM _)
     | (rw [hr]; simp [-strN]; done)
     | fail
  intro hb3; try simp at hb3
  try subst hb3
  refine SW.rb ?_; refine SW.cond _ rfl (by simp) ?_ ?_
  case' refine_1 =>
   intro hb4; try simp at hb4
   try subst hb4
   have hr : pls p g n = [⟨true, i.a, false, n, -1, 0⟩] := by
     unfold pls; rw [hat]; simp [*]
   refine SW.rb ?_; refine SW.ret ?_; simp [Ex.then, Ex.ib, -strN]
   all_goals first
     | (rw [hr]; done)
     | (rw [hr]; simp [PlaceS, strS_int, strS_bool, -strN]; done)
     | (rw [hr]; simp [strS_int, strS_bool, -strN]; exact PlaceS_strM _)
     | (rw [hr]; simp [-strN]; done)
     | fail
  intro hb4; try simp at hb4
  try subst hb4
  have hr : pls p g n = [] := by
    unfold pls; rw [hat]; repeat' split
    all_goals first | rfl | (exfalso; grind)
  refine SW.skip ?_; refine hK1 _ ?_; refine SW.rb ?_; refine SW.ret ?_; simp [Ex.then, Ex.ib, -strN]
  all_goals first
    | (rw [hr]; done)
    | (rw [hr]; simp [PlaceS, strS_int, strS_bool, -strN]; done)
    | (rw [hr]; simp [strS_int, strS_bool, -strN]; exact PlaceS_strM _)
    | (rw [hr]; simp [-strN]; done)
    | fail
theorem places_i (p : Prog) (g : Gor) (n : Int) (h : p.ok) (hp : progOk p = true) (ha : atOk p g) (hg6 : g.regs.length = 6) : Fn Tryz.prog 126 [.agg p.fr, .agg g.fr, .int .i64 n] (.own 6 (PlaceS (pls p g n))) := by
  refine Fn.intro Tryz.func126 (by decide) rfl (rs := [.tmp 6]) rfl Tryz.ntmps126 (by simp) ?_; obtain ⟨y, i, hy, hi, hat, f8, f11⟩ := at_facts hp ha; have h2 := h.2.1
  have hso := h.2.2.1
  refine SW.rb ?_; refine SW.rb ?_; refine SW.rg fun K hK => ?_; simp -implicitDefEqProofs [hat]; repeat (refine And.intro (by clear hK; first | omega | (intros; simp_all; done) | (intros; grind)) ?_)
  first
    | refine CallQ.fzE (instr_i p g ha) (by simp) ?_
    | refine CallK.fzE (instr_i p g ha) (by simp) ?_
  simp -implicitDefEqProofs [hat]; repeat (refine And.intro (by clear hK; first | omega | (intros; simp_all; done) | (intros; grind)) ?_)
  refine hK _ ?_; clear hK K; refine SW.seqK fun K1 hK1 => ?_; refine SW.rb ?_; refine SW.block ?_; refine SW.rb ?_; refine SW.cond _ rfl (by simp) ?_ ?_
  case' refine_2 =>
   intro hb1; try simp at hb1
   try subst hb1
   refine SW.rb ?_; refine SW.cond _ rfl (by simp) ?_ ?_
   case' refine_2 =>
    intro hb2; try simp at hb2
    try subst hb2
    refine SW.rb ?_; refine SW.cond _ rfl (by simp) ?_ ?_
    case' refine_2 =>
     intro hb3; try simp at hb3
     try subst hb3
     refine SW.rb ?_; refine SW.cond _ rfl (by simp) ?_ ?_
     case' refine_2 =>
      intro hb4; try simp at hb4
      try subst hb4
      have hr : pls p g n = [] := by
        unfold pls; rw [hat]; repeat' split
        all_goals first | rfl | (exfalso; grind)
      refine SW.skip ?_
     rotate_right
     case' _ =>
      intro hb4; try simp at hb4
      try subst hb4
      have hr : pls p g n = [⟨true, i.a, false, n, -1, 0⟩] := by
        unfold pls; rw [hat]; simp [*]
      refine SW.eb ?_
    rotate_right
    case' _ =>
     intro hb3; try simp at hb3
     try subst hb3
     obtain ⟨hA, hB, s, hsk, hcr⟩ := f11 (by simpa using hb3); have hsE : ∀ h, p.sels[i.a.toNat]'h = s := fun h => (List.getElem?_eq_some_iff.1 hsk).2
     have hsl : s.cases.length ≤ 1048576 := hso s (List.mem_of_getElem? hsk)
     have hr : pls p g n = plCs g n 0 s.cases := by
       unfold pls; rw [hat]; simp [*]
     refine SW.rg fun K hK => ?_; simp -implicitDefEqProofs [hA, hB, hsk, hsE]; repeat (refine And.intro (by clear hK; first | omega | (intros; simp_all; done) | (intros; grind)) ?_)
     refine hK _ ?_; clear hK K; refine SW.block ?_
     refine SW.loop (α := Nat) (fun k => ⟨[(60, .int .i64 k), (59, .int .i64 s.cases.length), (58, .fz (CaseS s.cases)), (2, .int .i64 n), (7, .sl 2 0 (plCs g n 0 (s.cases.take k)).length), (3, .ptr 0 0 0), (4, .ptr 1 0 0)], [some ⟨4, [p.fr]⟩, some ⟨5, [g.fr]⟩, some ⟨6, (PlaceS (plCs g n 0 (s.cases.take k)))⟩]⟩) (fun k => k ≤ s.cases.length) (fun k => s.cases.length - k) (0) ?_ ?_ (fun k hx => ?_)
     case' refine_1 =>
      simp
     case' refine_2 =>
      exact Wk.cut (by simp) (by simp [subE, plCs]) (by simp [cutH, plCs]) (by simp [lowE, lowN]) (by simp)
     case' refine_3 =>
      skip
      refine SW.rb ?_; refine SW.seqK fun K2 hK2 => ?_; refine SW.cond _ rfl (by simp) ?_ ?_
      case' refine_1 =>
       intro hb5; try simp at hb5
       try subst hb5
       have hlt : k < s.cases.length := by first | omega | (simp at hb5; omega)
       obtain ⟨x, hxk⟩ : ∃ x, s.cases[k]? = some x := ⟨_, List.getElem?_eq_getElem hlt⟩
       have hxm := List.mem_of_getElem? hxk
       have hps := plCs_step (g := g) (n := n) hxk
       have hpl := plCs_len g n 0 (s.cases.take k)
       have hpl2 : (s.cases.take k).length ≤ s.cases.length := by simp; omega
       refine SW.skip ?_; refine hK2 _ ?_; refine SW.seqK fun K3 hK3 => ?_; refine SW.block ?_; refine SW.rg fun K hK => ?_; simp -implicitDefEqProofs [hxk]
       repeat (refine And.intro (by clear hK; first | omega | (intros; simp_all; done) | (intros; grind)) ?_)
       refine hK _ ?_; clear hK K; refine SW.seqK fun K4 hK4 => ?_; refine SW.rb ?_; refine SW.cond _ rfl (by simp) ?_ ?_
       case' refine_2 =>
        intro hb6; try simp at hb6
        try subst hb6
        have hst : plCs g n 0 (s.cases.take (k + 1)) = plCs g n 0 (s.cases.take k) ++ [plC g n k x] := by
          rw [hps, if_neg (by simpa using hb6)]
        have hap := True.intro
        refine SW.skip ?_; refine hK4 _ ?_; refine SW.rb ?_; refine SW.seqK fun K5 hK5 => ?_; refine SW.rb ?_; refine SW.cond _ rfl (by simp) ?_ ?_
        case' refine_2 =>
         intro hb7; try simp at hb7
         try subst hb7
         have hsd : x.send = false := by simpa using hb7
         have vrD := True.intro
         refine SW.skip ?_
        rotate_right
        case' _ =>
         intro hb7; try simp at hb7
         try subst hb7
         have hsd : x.send = true := by simpa using hb7
         have hR0 : 0 ≤ x.reg := (hcr x hxm).1
         have hR1 : x.reg < 6 := (hcr x hxm).2
         obtain ⟨vr, hvr⟩ : ∃ q, g.regs[x.reg.toNat]? = some q := ⟨_, List.getElem?_eq_getElem (by omega)⟩
         have vrE : ∀ h, g.regs[x.reg.toNat]'h = vr := fun h => (List.getElem?_eq_some_iff.1 hvr).2
         have vrD : regD g x.reg = vr := regD_get (by omega) hvr
         refine SW.regionE fun K hK => ?_; simp -implicitDefEqProofs [hg6, hvr, vrE, hR0, hR1, splice]; repeat (refine And.intro (by clear hK; first | omega | (intros; simp_all; done) | (intros; grind)) ?_)
         refine hK _ ?_; clear hK K
        all_goals (
         refine hK5 _ ?_; refine SW.regionE fun K hK => ?_; simp -implicitDefEqProofs; repeat (refine And.intro (by clear hK; first | omega | (intros; simp_all; done) | (intros; grind)) ?_)
         refine hK _ ?_
         clear hK K)
       rotate_right
       case' _ =>
        intro hb6; try simp at hb6
        try subst hb6
        have hst : plCs g n 0 (s.cases.take (k + 1)) = plCs g n 0 (s.cases.take k) := by
          rw [hps, if_pos (by simpa using hb6)]; simp
        refine SW.exit ?_; simp only [Ex.then, Ex.ib]; try simp only [if_true, if_false, reduceIte]
       all_goals (
        refine hK3 _ ?_; refine SW.eb ?_; refine ⟨k + 1, by omega, by omega, ?_⟩
        first
          | (have q := hap; exact Wk.ren [0, 1, 6] (by simp) (by simp) (by simp) (by simp) (by simp [renE, renN, wrap1 k (by omega), hst]) (by simp [renH, hst, PlaceS_app, PlaceS, plC, hsd, vrD]) (by simp [lowE, lowN]) (by simp))
          | exact Wk.cut (by simp) (by simp [subE, wrap1 k (by omega), hst]) (by simp [cutH, hst]) (by simp [lowE, lowN]) (by simp))
      intro hb5; try simp at hb5
      try subst hb5
      have hk1 : k = s.cases.length := by first | omega | (simp at hb5; omega)
      subst hk1; have htk : List.take s.cases.length s.cases = s.cases := List.take_length
      refine SW.exit ?_; simp only [Ex.then, Ex.ib]; try simp only [if_true, if_false, reduceIte]
   rotate_right
   case' _ =>
    intro hb2; try simp at hb2
    try subst hb2
    refine SW.rb ?_; refine SW.cond _ rfl (by simp) ?_ ?_
    case' refine_2 =>
     intro hb8; try simp at hb8
     try subst hb8
     have hr : pls p g n = [] := by
       unfold pls; rw [hat]; repeat' split
       all_goals first | rfl | (exfalso; grind)
     refine SW.skip ?_
    rotate_right
    case' _ =>
     intro hb8; try simp at hb8
     try subst hb8
     have hr : pls p g n = [⟨false, i.a, false, n, -1, 0⟩] := by
       unfold pls; rw [hat]; simp [*]
     refine SW.eb ?_
  rotate_right
  case' _ =>
   intro hb1; try simp at hb1
   try subst hb1
   refine SW.rb ?_; refine SW.cond _ rfl (by simp) ?_ ?_
   case' refine_2 =>
    intro hb9; try simp at hb9
    try subst hb9
    have hr : pls p g n = [] := by
      unfold pls; rw [hat]; repeat' split
      all_goals first | rfl | (exfalso; grind)
    refine SW.skip ?_
   rotate_right
   case' _ =>
    intro hb9; try simp at hb9
    try subst hb9
    have h8 := f8 (by assumption)
    have hB0 : 0 ≤ i.b := h8.1
    have hB1 : i.b < 6 := h8.2
    obtain ⟨vb, hvb⟩ : ∃ q, g.regs[i.b.toNat]? = some q := ⟨_, List.getElem?_eq_getElem (by omega)⟩
    have vbE : ∀ h, g.regs[i.b.toNat]'h = vb := fun h => (List.getElem?_eq_some_iff.1 hvb).2
    have vbD : regD g i.b = vb := regD_get (by omega) hvb
    have hr : pls p g n = [⟨false, i.a, true, n, -1, vb⟩] := by
      unfold pls; rw [hat]; simp [*]
    refine SW.drawE mixed [.q [(0, false), (1, false), (2, false), (3, false), (4, false), (5, false), (6, false), (7, false), (8, false), (9, false), (10, false), (11, false), (12, true)], .b 13, .q [(14, false)]] (by kernel_rfl) rfl fun K hK => ?_
    simp -implicitDefEqProofs [hg6, hvb, vbE, hB0, hB1]; repeat (refine And.intro (by clear hK; first | omega | (intros; simp_all; done) | (intros; grind)) ?_)
    refine hK _ ?_; clear hK K
  all_goals (
   refine hK1 _ ?_; refine SW.rb ?_; refine SW.ret ?_; simp [Ex.then, Ex.ib, -strN]
   all_goals (try rw [htk])
   all_goals first
     | (rw [hr]; done)
     | (rw [hr]; simp [PlaceS, strS_int, strS_bool, -strN]; done)
     | (rw [hr]; simp [strS_int, strS_bool, -strN]; exact PlaceS_strM _)
     | (rw [hr]; simp [-strN]; done)
     | fail)
end HT
