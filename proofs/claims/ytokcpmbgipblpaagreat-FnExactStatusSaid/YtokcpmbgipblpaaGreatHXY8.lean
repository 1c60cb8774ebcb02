import Derived.Test.YtokcpmbgipblpaaGreatHXY5
import Derived.Test.YtokcpmbgipblpaaGreatHXTD
/-
  My own texts (road H): HXY8.
-/
set_option linter.unusedSimpArgs false
set_option linter.unusedVariables false
namespace HT
open Go Go.Proofs HK
/-! ### states, who is ready -/
def stFrom (s : Int) : Nat → List Gor → List Int
  | _, [] => []
  | k, g :: r => (if g.state = s then [(k : Int)] else []) ++ stFrom s (k + 1) r
theorem stFrom_snoc (s : Int) : ∀ (l : List Gor) (k : Nat) (g : Gor), stFrom s k (l ++ [g]) = stFrom s k l ++ (if g.state = s then [((k + l.length : Nat) : Int)] else [])
  | [], k, g => by simp [stFrom]
  | x :: r, k, g => by simp [stFrom, stFrom_snoc s r (k + 1) g]; rw [show ((k : Int) + 1 + (r.length : Int)) = (k : Int) + ((r.length : Int) + 1) by omega]
theorem stFrom_step {s : Int} {l : List Gor} {k : Nat} {g : Gor} (h : l[k]? = some g) : stFrom s 0 (l.take (k + 1)) = stFrom s 0 (l.take k) ++ (if g.state = s then [(k : Int)] else []) := by
  have hlt := (List.getElem?_eq_some_iff.1 h).1
  rw [List.take_add_one, h]
  simp only [Option.toList_some, stFrom_snoc, List.length_take, Nat.zero_add]
  rw [Nat.min_eq_left (by omega)]
theorem stFrom_len (s : Int) : ∀ (l : List Gor) (k : Nat), (stFrom s k l).length ≤ l.length
  | [], _ => by simp [stFrom]
  | g :: r, k => by
    have := stFrom_len s r (k + 1)
    simp only [stFrom, List.length_append, List.length_cons]
    split <;> simp <;> omega
theorem IntS_snoc1 (l : List Int) (n : Int) : IntS (l ++ [n]) = IntS l ++ [[.int .i64 n]] := by simp [IntS]
theorem IntS_strN2 (l : List Int) : ∀ x ∈ IntS l, ∀ y ∈ x, strN 4 y = true := fun x hx y hy => by
  obtain ⟨d, _, rfl⟩ := List.mem_map.1 hx
  simp at hy
  subst hy; rfl
def status (p : Prog) (e : Eng) : Int := if engOk p e then (if 0 < (stFrom 1 0 e.gs).length then 1 else if 0 < (stFrom 2 0 e.gs).length then 3 else 2) else 0
def asked (p : Prog) (e : Eng) (n : Int) : Bool := engOk p e && decide (0 ≤ n) && decide (n < (e.gs.length : Int)) && (match e.gs[n.toNat]? with | some g => decide (g.state = 1) | none => false)
def rdy (e : Eng) : Nat → List Case → List Int
  | _, [] => []
  | k, x :: r => (if caseR e x then [(k : Int)] else []) ++ rdy e (k + 1) r
set_option maxHeartbeats 1000000 in
theorem states_s (e : Eng) (s : Int) (h : e.ok) : Fn Tryz.prog 113 [.agg e.fr, .int .i64 s] (.own 1 (IntS (stFrom s 0 e.gs))) := by
  refine Fn.intro Tryz.func113 (by decide) rfl (rs := [.tmp 4]) rfl Tryz.ntmps113 (by simp) ?_
  have h1 := h.1
  refine SW.regionK fun K hK => ?_
  simp -implicitDefEqProofs
  repeat (refine And.intro (by clear hK; first | omega | (intros; simp_all; done) | (intros; grind)) ?_)
  refine hK _ ?_
  clear hK K
  refine SW.regionK fun K hK => ?_
  simp -implicitDefEqProofs
  repeat (refine And.intro (by clear hK; first | omega | (intros; simp_all; done) | (intros; grind)) ?_)
  refine hK _ ?_
  clear hK K
  refine SW.seqK fun K1 hK1 => ?_
  refine SW.regionK fun K hK => ?_
  simp -implicitDefEqProofs
  repeat (refine And.intro (by clear hK; first | omega | (intros; simp_all; done) | (intros; grind)) ?_)
  refine hK _ ?_
  clear hK K
  refine SW.block ?_
  refine SW.loop (α := Nat) (fun k => ⟨[(12, .int .i64 k), (11, .int .i64 e.gs.length), (10, .fz (GorSf e.gs)), (5, .sl 1 0 (stFrom s 0 (List.take k e.gs)).length), (2, .ptr 0 0 0), (1, .int .i64 s)], [some ⟨3, [e.fr]⟩, some ⟨1, IntS (stFrom s 0 (List.take k e.gs))⟩]⟩) (fun k => k ≤ e.gs.length) (fun k => e.gs.length - k) (0) ?_ ?_ (fun k hx => ?_)
  case' refine_1 =>
   simp
  case' refine_2 =>
   exact Wk.cut (by simp) (by simp [subE, stFrom]) (by simp [cutH, stFrom]) (by simp [lowE, lowN]) (by simp)
  case' refine_3 =>
   skip
   refine SW.regionK fun K hK => ?_
   simp -implicitDefEqProofs
   repeat (refine And.intro (by clear hK; first | omega | (intros; simp_all; done) | (intros; grind)) ?_)
   refine hK _ ?_
   clear hK K
   refine SW.seqK fun K2 hK2 => ?_
   refine SW.cond _ rfl (by simp) ?_ ?_
   case' refine_2 =>
    intro hb1
    first
    | (exfalso; simp at hb1; done)
    | (exfalso; simp at hb1; omega)
    | (
     have hk1 : k = e.gs.length := by simp at hb1; omega
     subst hk1
     refine SW.exit ?_
     simp only [Ex.then, Ex.inBlock]
     try simp only [if_true, if_false, reduceIte]
     refine hK1 _ ?_
     refine SW.regionK fun K hK => ?_
     simp -implicitDefEqProofs
     repeat (refine And.intro (by clear hK; first | omega | (intros; simp_all; done) | (intros; grind)) ?_)
     refine hK _ ?_
     clear hK K
     refine SW.ret ?_
     simp [Ex.then, Ex.inBlock, -strN]
     all_goals first
       | (simp; done)
       | (exact ⟨by simpa using IntS_strN2 _, by simp⟩)
       | fail)
   rotate_right
   case' _ =>
    intro hb1
    first
    | (exfalso; simp at hb1; done)
    | (exfalso; simp at hb1; omega)
    | (
     have hltc : k < e.gs.length := by first | omega | (simp at hb1; omega)
     obtain ⟨c, hck⟩ : ∃ q, e.gs[k]? = some q := ⟨_, List.getElem?_eq_getElem hltc⟩
     have hst := stFrom_step (s := s) hck
     have hfl := stFrom_len s (e.gs.take k) 0
     rw [List.length_take] at hfl
     refine SW.skip ?_
     refine hK2 _ ?_
     refine SW.seqK fun K3 hK3 => ?_
     refine SW.block ?_
     refine SW.regionK fun K hK => ?_
     simp -implicitDefEqProofs [hck]
     repeat (refine And.intro (by clear hK; first | omega | (intros; simp_all; done) | (intros; grind)) ?_)
     refine hK _ ?_
     clear hK K
     refine SW.regionK fun K hK => ?_
     simp -implicitDefEqProofs
     repeat (refine And.intro (by clear hK; first | omega | (intros; simp_all; done) | (intros; grind)) ?_)
     refine hK _ ?_
     clear hK K
     refine SW.cond _ rfl (by simp) ?_ ?_
     case' refine_2 =>
      intro hb2
      first
      | (exfalso; simp at hb2; done)
      | (exfalso; simp at hb2; omega)
      | (
       have he : ¬ c.state = s := by simpa using hb2
       rw [if_neg he, List.append_nil] at hst
       refine SW.skip ?_)
     rotate_right
     case' _ =>
      intro hb2
      first
      | (exfalso; simp at hb2; done)
      | (exfalso; simp at hb2; omega)
      | (
       have he : c.state = s := by simpa using hb2
       rw [if_pos he] at hst
       refine SW.regionE fun K hK => ?_
       simp -implicitDefEqProofs
       repeat (refine And.intro (by clear hK; first | omega | (intros; simp_all; done) | (intros; grind)) ?_)
       refine hK _ ?_
       clear hK K)
     all_goals (
      refine hK3 _ ?_
      refine SW.regionE fun K hK => ?_
      simp -implicitDefEqProofs
      repeat (refine And.intro (by clear hK; first | omega | (intros; simp_all; done) | (intros; grind)) ?_)
      refine hK _ ?_
      clear hK K
      refine ⟨k + 1, by omega, by omega, ?_⟩
      first
        | (have q : c.state = s := he; exact Wk.ren [0, 4] (by simp) (by simp) (by simp) (by simp) (by simp [renE, renN, wrap1 k (by omega), hst]) (by simp [renH, hst, IntS_snoc1]) (by simp [lowE, lowN]) (by simp))
        | exact Wk.cut (by simp) (by simp [subE, wrap1 k (by omega), hst]) (by simp [cutH, hst]) (by simp [lowE, lowN]) (by simp)
        | fail))
set_option maxHeartbeats 1000000 in
theorem states_i (e : Eng) (s : Int) (h : e.ok) : Fn Tryz.prog 114 [.agg e.fr, .int .i64 s] (.own 1 (IntS (stFrom s 0 e.gs))) := by
  refine Fn.intro Tryz.func114 (by decide) rfl (rs := [.tmp 4]) rfl Tryz.ntmps114 (by simp) ?_
  have h1 := h.1
  refine SW.regionK fun K hK => ?_
  simp -implicitDefEqProofs
  repeat (refine And.intro (by clear hK; first | omega | (intros; simp_all; done) | (intros; grind)) ?_)
  refine hK _ ?_
  clear hK K
  refine SW.regionK fun K hK => ?_
  simp -implicitDefEqProofs
  repeat (refine And.intro (by clear hK; first | omega | (intros; simp_all; done) | (intros; grind)) ?_)
  refine hK _ ?_
  clear hK K
  refine SW.seqK fun K1 hK1 => ?_
  refine SW.regionK fun K hK => ?_
  simp -implicitDefEqProofs
  repeat (refine And.intro (by clear hK; first | omega | (intros; simp_all; done) | (intros; grind)) ?_)
  refine hK _ ?_
  clear hK K
  refine SW.block ?_
  refine SW.loop (α := Nat) (fun k => ⟨[(12, .int .i64 k), (11, .int .i64 e.gs.length), (10, .fz (GorSf e.gs)), (5, .sl 1 0 (stFrom s 0 (List.take k e.gs)).length), (2, .ptr 0 0 0), (1, .int .i64 s)], [some ⟨3, [e.fr]⟩, some ⟨1, IntS (stFrom s 0 (List.take k e.gs))⟩]⟩) (fun k => k ≤ e.gs.length) (fun k => e.gs.length - k) (0) ?_ ?_ (fun k hx => ?_)
  case' refine_1 =>
   simp
  case' refine_2 =>
   exact Wk.cut (by simp) (by simp [subE, stFrom]) (by simp [cutH, stFrom]) (by simp [lowE, lowN]) (by simp)
  case' refine_3 =>
   skip
   refine SW.regionK fun K hK => ?_
   simp -implicitDefEqProofs
   repeat (refine And.intro (by clear hK; first | omega | (intros; simp_all; done) | (intros; grind)) ?_)
   refine hK _ ?_
   clear hK K
   refine SW.seqK fun K2 hK2 => ?_
   refine SW.cond _ rfl (by simp) ?_ ?_
   case' refine_2 =>
    intro hb1
    first
    | (exfalso; simp at hb1; done)
    | (exfalso; simp at hb1; omega)
    | (
     have hk1 : k = e.gs.length := by simp at hb1; omega
     subst hk1
     refine SW.exit ?_
     simp only [Ex.then, Ex.inBlock]
     try simp only [if_true, if_false, reduceIte]
     refine hK1 _ ?_
     refine SW.regionK fun K hK => ?_
     simp -implicitDefEqProofs
     repeat (refine And.intro (by clear hK; first | omega | (intros; simp_all; done) | (intros; grind)) ?_)
     refine hK _ ?_
     clear hK K
     refine SW.ret ?_
     simp [Ex.then, Ex.inBlock, -strN]
     all_goals first
       | (simp; done)
       | (exact ⟨by simpa using IntS_strN2 _, by simp⟩)
       | fail)
   rotate_right
   case' _ =>
    intro hb1
    first
    | (exfalso; simp at hb1; done)
    | (exfalso; simp at hb1; omega)
    | (
     have hltc : k < e.gs.length := by first | omega | (simp at hb1; omega)
     obtain ⟨c, hck⟩ : ∃ q, e.gs[k]? = some q := ⟨_, List.getElem?_eq_getElem hltc⟩
     have hst := stFrom_step (s := s) hck
     have hfl := stFrom_len s (e.gs.take k) 0
     rw [List.length_take] at hfl
     refine SW.skip ?_
     refine hK2 _ ?_
     refine SW.seqK fun K3 hK3 => ?_
     refine SW.block ?_
     refine SW.regionK fun K hK => ?_
     simp -implicitDefEqProofs [hck]
     repeat (refine And.intro (by clear hK; first | omega | (intros; simp_all; done) | (intros; grind)) ?_)
     refine hK _ ?_
     clear hK K
     refine SW.regionK fun K hK => ?_
     simp -implicitDefEqProofs
     repeat (refine And.intro (by clear hK; first | omega | (intros; simp_all; done) | (intros; grind)) ?_)
     refine hK _ ?_
     clear hK K
     refine SW.cond _ rfl (by simp) ?_ ?_
     case' refine_2 =>
      intro hb2
      first
      | (exfalso; simp at hb2; done)
      | (exfalso; simp at hb2; omega)
      | (
       have he : ¬ c.state = s := by simpa using hb2
       rw [if_neg he, List.append_nil] at hst
       refine SW.skip ?_)
     rotate_right
     case' _ =>
      intro hb2
      first
      | (exfalso; simp at hb2; done)
      | (exfalso; simp at hb2; omega)
      | (
       have he : c.state = s := by simpa using hb2
       rw [if_pos he] at hst
       refine SW.regionE fun K hK => ?_
       simp -implicitDefEqProofs
       repeat (refine And.intro (by clear hK; first | omega | (intros; simp_all; done) | (intros; grind)) ?_)
       refine hK _ ?_
       clear hK K)
     all_goals (
      refine hK3 _ ?_
      refine SW.regionE fun K hK => ?_
      simp -implicitDefEqProofs
      repeat (refine And.intro (by clear hK; first | omega | (intros; simp_all; done) | (intros; grind)) ?_)
      refine hK _ ?_
      clear hK K
      refine ⟨k + 1, by omega, by omega, ?_⟩
      first
        | (have q : c.state = s := he; exact Wk.ren [0, 4] (by simp) (by simp) (by simp) (by simp) (by simp [renE, renN, wrap1 k (by omega), hst]) (by simp [renH, hst, IntS_snoc1]) (by simp [lowE, lowN]) (by simp))
        | exact Wk.cut (by simp) (by simp [subE, wrap1 k (by omega), hst]) (by simp [cutH, hst]) (by simp [lowE, lowN]) (by simp)
        | fail))
set_option maxHeartbeats 1000000 in
theorem ready_s (e : Eng) (h : e.ok) : Fn Tryz.prog 59 [.agg e.fr] (.own 1 (IntS (stFrom 1 0 e.gs))) := by
  refine Fn.intro Tryz.func59 (by decide) rfl (rs := [.tmp 2]) rfl Tryz.ntmps59 (by simp) ?_
  refine SW.regionK fun K hK => ?_
  simp -implicitDefEqProofs
  repeat refine ⟨by omega, ?_⟩
  refine hK _ ?_
  clear hK K
  refine SW.regionK fun K hK => ?_
  simp -implicitDefEqProofs
  first | refine ⟨by omega, by omega, ?_⟩ | refine ⟨by omega, ?_⟩ | skip
  refine CallK.imE (states_s e 1 h) (by simp) (by simp [okI]) ?_
  simp -implicitDefEqProofs
  repeat refine ⟨by omega, ?_⟩
  refine hK _ ?_
  clear hK K
  refine SW.ret ?_
  simp [Ex.then, Ex.inBlock, -strN]
  all_goals fail
set_option maxHeartbeats 1000000 in
theorem asleep_s (e : Eng) (h : e.ok) : Fn Tryz.prog 60 [.agg e.fr] (.own 1 (IntS (stFrom 2 0 e.gs))) := by
  refine Fn.intro Tryz.func60 (by decide) rfl (rs := [.tmp 2]) rfl Tryz.ntmps60 (by simp) ?_
  refine SW.regionK fun K hK => ?_
  simp -implicitDefEqProofs
  repeat refine ⟨by omega, ?_⟩
  refine hK _ ?_
  clear hK K
  refine SW.regionK fun K hK => ?_
  simp -implicitDefEqProofs
  first | refine ⟨by omega, by omega, ?_⟩ | refine ⟨by omega, ?_⟩ | skip
  refine CallK.imE (states_s e 2 h) (by simp) (by simp [okI]) ?_
  simp -implicitDefEqProofs
  repeat refine ⟨by omega, ?_⟩
  refine hK _ ?_
  clear hK K
  refine SW.ret ?_
  simp [Ex.then, Ex.inBlock, -strN]
  all_goals fail
set_option maxHeartbeats 1000000 in
theorem status_s (p : Prog) (e : Eng) (h : p.ok) (he : e.ok) : Fn Tryz.prog 16 [.agg p.fr, .agg e.fr] (.int .i64 (status p e)) := by
  refine Fn.intro Tryz.func16 (by decide) rfl (rs := [.tmp 4]) rfl Tryz.ntmps16 (by simp) ?_
  refine SW.regionK fun K hK => ?_
  simp -implicitDefEqProofs
  repeat (refine And.intro (by clear hK; first | omega | (intros; simp_all; done) | (intros; grind)) ?_)
  refine hK _ ?_
  clear hK K
  refine SW.seqK fun K1 hK1 => ?_
  refine SW.block ?_
  refine SW.regionK fun K hK => ?_
  simp -implicitDefEqProofs
  repeat (refine And.intro (by clear hK; first | omega | (intros; simp_all; done) | (intros; grind)) ?_)
  first
    | refine CallQ.fzE (engOk_s p e h he) (by simp) ?_
    | refine CallK.fzE (engOk_s p e h he) (by simp) ?_
  simp -implicitDefEqProofs
  repeat (refine And.intro (by clear hK; first | omega | (intros; simp_all; done) | (intros; grind)) ?_)
  refine hK _ ?_
  clear hK K
  refine SW.cond _ rfl (by simp) ?_ ?_
  case' refine_2 =>
   intro hb1
   first
   | (exfalso; simp at hb1; done)
   | (exfalso; simp at hb1; omega)
   | (
    have k1 : engOk p e = true := by simpa using hb1
    refine SW.regionK fun K hK => ?_
    simp -implicitDefEqProofs
    repeat (refine And.intro (by clear hK; first | omega | (intros; simp_all; done) | (intros; grind)) ?_)
    first
      | refine CallQ.fzE (ready_s e he) (by simp) ?_
      | refine CallK.fzE (ready_s e he) (by simp) ?_
    simp -implicitDefEqProofs
    repeat (refine And.intro (by clear hK; first | omega | (intros; simp_all; done) | (intros; grind)) ?_)
    refine hK _ ?_
    clear hK K
    refine SW.cond _ rfl (by simp) ?_ ?_
    case' refine_2 =>
     intro hb2
     first
     | (exfalso; simp at hb2; done)
     | (exfalso; simp at hb2; omega)
     | (
      have k2 : ¬ 0 < (stFrom 1 0 e.gs).length := by simpa using hb2
      refine SW.regionK fun K hK => ?_
      simp -implicitDefEqProofs
      repeat (refine And.intro (by clear hK; first | omega | (intros; simp_all; done) | (intros; grind)) ?_)
      first
        | refine CallQ.fzE (asleep_s e he) (by simp) ?_
        | refine CallK.fzE (asleep_s e he) (by simp) ?_
      simp -implicitDefEqProofs
      repeat (refine And.intro (by clear hK; first | omega | (intros; simp_all; done) | (intros; grind)) ?_)
      refine hK _ ?_
      clear hK K
      refine SW.cond _ rfl (by simp) ?_ ?_
      case' refine_2 =>
       intro hb3
       first
       | (exfalso; simp at hb3; done)
       | (exfalso; simp at hb3; omega)
       | (
        have k3 : ¬ 0 < (stFrom 2 0 e.gs).length := by simpa using hb3
        refine SW.skip ?_
        refine hK1 _ ?_
        refine SW.regionK fun K hK => ?_
        simp -implicitDefEqProofs
        repeat (refine And.intro (by clear hK; first | omega | (intros; simp_all; done) | (intros; grind)) ?_)
        refine hK _ ?_
        clear hK K
        refine SW.ret ?_
        simp [Ex.then, Ex.inBlock]
        all_goals first
          | (simp [status, k1]; done)
          | (simp [status, k1, k2]; done)
          | (simp [status, k1, k2, k3]; done)
          | fail)
      rotate_right
      case' _ =>
       intro hb3
       first
       | (exfalso; simp at hb3; done)
       | (exfalso; simp at hb3; omega)
       | (
        have k3 : 0 < (stFrom 2 0 e.gs).length := by simpa using hb3
        refine SW.regionK fun K hK => ?_
        simp -implicitDefEqProofs
        repeat (refine And.intro (by clear hK; first | omega | (intros; simp_all; done) | (intros; grind)) ?_)
        refine hK _ ?_
        clear hK K
        refine SW.ret ?_
        simp [Ex.then, Ex.inBlock]
        all_goals first
          | (simp [status, k1]; done)
          | (simp [status, k1, k2]; done)
          | (simp [status, k1, k2, k3]; done)
          | fail))
    rotate_right
    case' _ =>
     intro hb2
     first
     | (exfalso; simp at hb2; done)
     | (exfalso; simp at hb2; omega)
     | (
      have k2 : 0 < (stFrom 1 0 e.gs).length := by simpa using hb2
      refine SW.regionK fun K hK => ?_
      simp -implicitDefEqProofs
      repeat (refine And.intro (by clear hK; first | omega | (intros; simp_all; done) | (intros; grind)) ?_)
      refine hK _ ?_
      clear hK K
      refine SW.ret ?_
      simp [Ex.then, Ex.inBlock]
      all_goals first
        | (simp [status, k1]; done)
        | (simp [status, k1, k2]; done)
        | (simp [status, k1, k2, k3]; done)
        | fail))
  rotate_right
  case' _ =>
   intro hb1
   first
   | (exfalso; simp at hb1; done)
   | (exfalso; simp at hb1; omega)
   | (
    have k1 : engOk p e = false := by simpa using hb1
    refine SW.regionK fun K hK => ?_
    simp -implicitDefEqProofs
    repeat (refine And.intro (by clear hK; first | omega | (intros; simp_all; done) | (intros; grind)) ?_)
    refine hK _ ?_
    clear hK K
    refine SW.ret ?_
    simp [Ex.then, Ex.inBlock]
    all_goals first
      | (simp [status, k1]; done)
      | (simp [status, k1, k2]; done)
      | (simp [status, k1, k2, k3]; done)
      | fail)
set_option maxHeartbeats 1000000 in
theorem ready_i (e : Eng) (h : e.ok) : Fn Tryz.prog 61 [.agg e.fr] (.own 1 (IntS (stFrom 1 0 e.gs))) := by
  refine Fn.intro Tryz.func61 (by decide) rfl (rs := [.tmp 2]) rfl Tryz.ntmps61 (by simp) ?_
  refine SW.regionK fun K hK => ?_
  simp -implicitDefEqProofs
  repeat refine ⟨by omega, ?_⟩
  refine hK _ ?_
  clear hK K
  refine SW.regionK fun K hK => ?_
  simp -implicitDefEqProofs
  first | refine ⟨by omega, by omega, ?_⟩ | refine ⟨by omega, ?_⟩ | skip
  refine CallK.imE (states_i e 1 h) (by simp) (by simp [okI]) ?_
  simp -implicitDefEqProofs
  repeat refine ⟨by omega, ?_⟩
  refine hK _ ?_
  clear hK K
  refine SW.ret ?_
  simp [Ex.then, Ex.inBlock, -strN]
  all_goals fail
set_option maxHeartbeats 1000000 in
theorem asleep_i (e : Eng) (h : e.ok) : Fn Tryz.prog 62 [.agg e.fr] (.own 1 (IntS (stFrom 2 0 e.gs))) := by
  refine Fn.intro Tryz.func62 (by decide) rfl (rs := [.tmp 2]) rfl Tryz.ntmps62 (by simp) ?_
  refine SW.regionK fun K hK => ?_
  simp -implicitDefEqProofs
  repeat refine ⟨by omega, ?_⟩
  refine hK _ ?_
  clear hK K
  refine SW.regionK fun K hK => ?_
  simp -implicitDefEqProofs
  first | refine ⟨by omega, by omega, ?_⟩ | refine ⟨by omega, ?_⟩ | skip
  refine CallK.imE (states_i e 2 h) (by simp) (by simp [okI]) ?_
  simp -implicitDefEqProofs
  repeat refine ⟨by omega, ?_⟩
  refine hK _ ?_
  clear hK K
  refine SW.ret ?_
  simp [Ex.then, Ex.inBlock, -strN]
  all_goals fail
set_option maxHeartbeats 1000000 in
theorem status_i (p : Prog) (e : Eng) (h : p.ok) (he : e.ok) : Fn Tryz.prog 17 [.agg p.fr, .agg e.fr] (.int .i64 (status p e)) := by
  refine Fn.intro Tryz.func17 (by decide) rfl (rs := [.tmp 4]) rfl Tryz.ntmps17 (by simp) ?_
  refine SW.regionK fun K hK => ?_
  simp -implicitDefEqProofs
  repeat (refine And.intro (by clear hK; first | omega | (intros; simp_all; done) | (intros; grind)) ?_)
  refine hK _ ?_
  clear hK K
  refine SW.seqK fun K1 hK1 => ?_
  refine SW.block ?_
  refine SW.regionK fun K hK => ?_
  simp -implicitDefEqProofs
  repeat (refine And.intro (by clear hK; first | omega | (intros; simp_all; done) | (intros; grind)) ?_)
  first
    | refine CallQ.fzE (engOk_i p e h he) (by simp) ?_
    | refine CallK.fzE (engOk_i p e h he) (by simp) ?_
  simp -implicitDefEqProofs
  repeat (refine And.intro (by clear hK; first | omega | (intros; simp_all; done) | (intros; grind)) ?_)
  refine hK _ ?_
  clear hK K
  refine SW.cond _ rfl (by simp) ?_ ?_
  case' refine_2 =>
   intro hb1
   first
   | (exfalso; simp at hb1; done)
   | (exfalso; simp at hb1; omega)
   | (
    have k1 : engOk p e = true := by simpa using hb1
    refine SW.regionK fun K hK => ?_
    simp -implicitDefEqProofs
    repeat (refine And.intro (by clear hK; first | omega | (intros; simp_all; done) | (intros; grind)) ?_)
    first
      | refine CallQ.fzE (ready_i e he) (by simp) ?_
      | refine CallK.fzE (ready_i e he) (by simp) ?_
    simp -implicitDefEqProofs
    repeat (refine And.intro (by clear hK; first | omega | (intros; simp_all; done) | (intros; grind)) ?_)
    refine hK _ ?_
    clear hK K
    refine SW.cond _ rfl (by simp) ?_ ?_
    case' refine_2 =>
     intro hb2
     first
     | (exfalso; simp at hb2; done)
     | (exfalso; simp at hb2; omega)
     | (
      have k2 : ¬ 0 < (stFrom 1 0 e.gs).length := by simpa using hb2
      refine SW.regionK fun K hK => ?_
      simp -implicitDefEqProofs
      repeat (refine And.intro (by clear hK; first | omega | (intros; simp_all; done) | (intros; grind)) ?_)
      first
        | refine CallQ.fzE (asleep_i e he) (by simp) ?_
        | refine CallK.fzE (asleep_i e he) (by simp) ?_
      simp -implicitDefEqProofs
      repeat (refine And.intro (by clear hK; first | omega | (intros; simp_all; done) | (intros; grind)) ?_)
      refine hK _ ?_
      clear hK K
      refine SW.cond _ rfl (by simp) ?_ ?_
      case' refine_2 =>
       intro hb3
       first
       | (exfalso; simp at hb3; done)
       | (exfalso; simp at hb3; omega)
       | (
        have k3 : ¬ 0 < (stFrom 2 0 e.gs).length := by simpa using hb3
        refine SW.skip ?_
        refine hK1 _ ?_
        refine SW.regionK fun K hK => ?_
        simp -implicitDefEqProofs
        repeat (refine And.intro (by clear hK; first | omega | (intros; simp_all; done) | (intros; grind)) ?_)
        refine hK _ ?_
        clear hK K
        refine SW.ret ?_
        simp [Ex.then, Ex.inBlock]
        all_goals first
          | (simp [status, k1]; done)
          | (simp [status, k1, k2]; done)
          | (simp [status, k1, k2, k3]; done)
          | fail)
      rotate_right
      case' _ =>
       intro hb3
       first
       | (exfalso; simp at hb3; done)
       | (exfalso; simp at hb3; omega)
       | (
        have k3 : 0 < (stFrom 2 0 e.gs).length := by simpa using hb3
        refine SW.regionK fun K hK => ?_
        simp -implicitDefEqProofs
        repeat (refine And.intro (by clear hK; first | omega | (intros; simp_all; done) | (intros; grind)) ?_)
        refine hK _ ?_
        clear hK K
        refine SW.ret ?_
        simp [Ex.then, Ex.inBlock]
        all_goals first
          | (simp [status, k1]; done)
          | (simp [status, k1, k2]; done)
          | (simp [status, k1, k2, k3]; done)
          | fail))
    rotate_right
    case' _ =>
     intro hb2
     first
     | (exfalso; simp at hb2; done)
     | (exfalso; simp at hb2; omega)
     | (
      have k2 : 0 < (stFrom 1 0 e.gs).length := by simpa using hb2
      refine SW.regionK fun K hK => ?_
      simp -implicitDefEqProofs
      repeat (refine And.intro (by clear hK; first | omega | (intros; simp_all; done) | (intros; grind)) ?_)
      refine hK _ ?_
      clear hK K
      refine SW.ret ?_
      simp [Ex.then, Ex.inBlock]
      all_goals first
        | (simp [status, k1]; done)
        | (simp [status, k1, k2]; done)
        | (simp [status, k1, k2, k3]; done)
        | fail))
  rotate_right
  case' _ =>
   intro hb1
   first
   | (exfalso; simp at hb1; done)
   | (exfalso; simp at hb1; omega)
   | (
    have k1 : engOk p e = false := by simpa using hb1
    refine SW.regionK fun K hK => ?_
    simp -implicitDefEqProofs
    repeat (refine And.intro (by clear hK; first | omega | (intros; simp_all; done) | (intros; grind)) ?_)
    refine hK _ ?_
    clear hK K
    refine SW.ret ?_
    simp [Ex.then, Ex.inBlock]
    all_goals first
      | (simp [status, k1]; done)
      | (simp [status, k1, k2]; done)
      | (simp [status, k1, k2, k3]; done)
      | fail)
end HT
