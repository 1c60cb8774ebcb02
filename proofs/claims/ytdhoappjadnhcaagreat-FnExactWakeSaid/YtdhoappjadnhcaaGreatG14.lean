import Derived.Test.YtdhoappjadnhcaaGreatG12
import Derived.Test.YtdhoappjadnhcaaGreatG13
/-
  My own texts (road H): HCTR HCTS.
-/
set_option maxHeartbeats 8000000
set_option linter.unusedSimpArgs false
set_option linter.unusedVariables false
namespace HT
open Go Go.Proofs HK
theorem IntS_oc {l : List Int} {x : List AV} {y : AV} (hx : x ∈ IntS l) (hy : y ∈ x) : oc y = true ∧ plain y = true := by
  obtain ⟨d, _, rfl⟩ := List.mem_map.1 hx; simp at hy; subst hy; exact ⟨rfl, rfl⟩
theorem IntS_strM (l : List Int) : ∀ x ∈ IntS l, ∀ y ∈ x, strN 4 y = true := fun x hx y hy => by
  obtain ⟨d, _, rfl⟩ := List.mem_map.1 hx; simp at hy; subst hy; rfl
theorem IntS_sh {l : List Int} (h : IntS l = []) : l = [] := by simpa [IntS] using h
def regD (g : Gor) (r : Int) : Int := if 0 ≤ r then (g.regs[r.toNat]?).getD 0 else 0
def setR (g : Gor) (r v : Int) : Gor := if 0 ≤ r ∧ r < (g.regs.length : Int) ∧ valOk v = true then { g with regs := g.regs.set r.toNat v } else g
def modI (n m : Int) : Int := if n.tmod m < 0 then n.tmod m + m else n.tmod m
def calcR (op x y : Int) : Int := if valOk x && valOk y then (if op = 3 then modI (x + y) 1000 else if op = 4 then modI (x - y) 1000 else if op = 5 then (if x < y then 1 else 0) else 0) else 0
def tell (g : Gor) (i : Item) : Gor := { g with trace := g.trace ++ [i] }
def over (g : Gor) (why : Int) : Gor := if why = 0 then { g with state := 3, trace := g.trace ++ [⟨9, 0, 0, false⟩] } else { g with state := 4, trace := g.trace ++ [⟨10, 0, why, false⟩] }
theorem cloneN_ok (l : List Int) (hl : l.length ≤ 2 ^ 30) : Fn Tryz.prog 130 [.fz (IntS l)] (.own 1 (IntS l)) := by
  refine Fn.intro Tryz.func130 (by decide) rfl (rs := [.tmp 2]) rfl Tryz.ntmps130 (by simp) ?_; refine SW.ra ?_; refine SW.seqK fun K1 hK1 => ?_; refine SW.regionNil fun K hK => ?_; simp [nilK, elemsN, -Bool.forall_bool]; intro b hbn
  refine hK _ ?_; clear hK K; refine SW.cond _ rfl (by simp) ?_ ?_
  case' refine_2 =>
   intro hb1; refine SW.skip ?_; refine hK1 _ ?_; refine SW.rg fun K hK => ?_; simp -implicitDefEqProofs; refine ⟨⟨fun e he => IntS_len he, fun x hx y hy => IntS_oc hx hy, by omega⟩, hK _ ?_⟩; clear hK K; refine SW.ret ?_
   simp [Ex.then, Ex.ib, -strN]
   all_goals first | done | rfl | exact ⟨IntS_strM _, rfl⟩ | exact IntS_strM _ | (intro x hx y hy; exact IntS_strM _ x hx y hy) | skip
  rotate_right
  case' _ =>
   intro hb1; have hb2 : b = true := by simpa using hb1
   have hl0 := IntS_sh (hbn hb2)
   subst hl0; refine SW.rg fun K hK => ?_; simp -implicitDefEqProofs; refine hK _ (SW.wk (Wk.soft (env' := [(2, .own 1 [])]) (by simp [softE, softV])) ?_); clear hK K; refine SW.ret ?_; simp [Ex.then, Ex.ib, -strN]
   all_goals first | done | rfl | exact ⟨IntS_strM _, rfl⟩ | exact IntS_strM _ | (intro x hx y hy; exact IntS_strM _ x hx y hy) | skip
theorem copy_s (g : Gor) (hl : g.regs.length ≤ 2 ^ 29) (ht : g.trace.length ≤ 2 ^ 29) : Fn Tryz.prog 113 [.agg g.fr] (.agg g.ow) := by
  refine Fn.intro Tryz.func113 (by decide) rfl (rs := [.cell 2 97]) rfl Tryz.ntmps113 (by simp) ?_; obtain ⟨proc, pc, regs, state, trace⟩ := g; simp only [] at hl ht; refine SW.ra ?_; refine SW.rg fun K hK => ?_; simp -implicitDefEqProofs
  refine ⟨⟨fun e he => IntS_len he, fun x hx y hy => IntS_oc hx hy, by omega⟩, hK _ ?_⟩; clear hK K; refine SW.rg fun K hK => ?_; simp -implicitDefEqProofs
  refine ⟨⟨fun e he => ItemS_len he, fun x hx y hy => ItemS_oc hx hy, by omega⟩, hK _ ?_⟩; clear hK K; refine SW.ra ?_; refine SW.ret ?_; simp [Ex.then, Ex.ib, -strN]
  all_goals first
    | done
    | (refine ⟨IntS_strM _, ItemS_strM _⟩)
    | exact ⟨⟨IntS_strM _, ItemS_strM _⟩, rfl⟩
    | (simp; done)
    | fail
theorem copy_i (g : Gor) (hl : g.regs.length ≤ 2 ^ 29) (ht : g.trace.length ≤ 2 ^ 29) : Fn Tryz.prog 128 [.agg g.fr] (.agg g.ow) := by
  refine Fn.intro Tryz.func128 (by decide) rfl (rs := [.cell 2 97]) rfl Tryz.ntmps128 (by simp) ?_; obtain ⟨proc, pc, regs, state, trace⟩ := g; simp only [] at hl ht; refine SW.ra ?_; refine SW.rg fun K hK => ?_; simp -implicitDefEqProofs
  iterate 2 (try refine ⟨by omega, ?_⟩)
  refine CallK.imE (cloneN_ok regs (by omega)) (by simp) (IntS_okI _) ?_; simp -implicitDefEqProofs; repeat refine ⟨by omega, ?_⟩
  refine hK _ ?_; clear hK K; refine SW.rg fun K hK => ?_; simp -implicitDefEqProofs; iterate 2 (try refine ⟨by omega, ?_⟩)
  refine CallK.imE (cloneI_ok trace (by omega)) (by simp) (ItemS_okI _) ?_; simp -implicitDefEqProofs; repeat refine ⟨by omega, ?_⟩
  refine hK _ ?_; clear hK K; refine SW.ra ?_; refine SW.ret ?_; simp [Ex.then, Ex.ib, -strN]
  all_goals first
    | done
    | (refine ⟨IntS_strM _, ItemS_strM _⟩)
    | exact ⟨⟨IntS_strM _, ItemS_strM _⟩, rfl⟩
    | (simp; done)
    | fail
end HT
namespace HT
open Go Go.Proofs HK
theorem reg_s2 (g : Gor) (r : Int) (hl : g.regs.length ≤ 2 ^ 29) : Fn Tryz.prog 157 [.agg g.fr, .int .i64 r] (.int .i64 (regD g r)) := by
  refine Fn.intro Tryz.func157 (by decide) rfl (rs := [.tmp 4]) rfl Tryz.ntmps157 (by simp) ?_; refine SW.rb ?_; refine SW.seqK fun K1 hK1 => ?_; refine SW.rb ?_; refine SW.cond _ rfl (by simp) ?_ ?_
  case' refine_1 =>
   intro hb1
   have hno : regD g r = 0 := by
     unfold regD; split
     · rw [List.getElem?_eq_none (by simp at hb1; omega)]; rfl
     · rfl
   refine SW.rb ?_; refine SW.ret ?_; simp [Ex.then, Ex.ib]
   first
     | (rw [hno]; done)
     | (simp [regD, hA, hxk]; done)
     | fail
  intro hb1; have hA : 0 ≤ r := by simp at hb1; omega
  have hB : r < g.regs.length := by simp at hb1; omega
  obtain ⟨x, hxk⟩ : ∃ q, g.regs[r.toNat]? = some q := ⟨_, List.getElem?_eq_getElem (by omega)⟩
  have hxE : ∀ h, g.regs[r.toNat]'h = x := fun h => (List.getElem?_eq_some_iff.1 hxk).2
  refine SW.skip ?_; refine hK1 _ ?_; refine SW.rg fun K hK => ?_; simp -implicitDefEqProofs [hA, hB, hxk, hxE]; repeat (refine And.intro (by clear hK; first | omega | (intros; simp_all; done) | (intros; grind)) ?_)
  refine hK _ ?_; clear hK K; refine SW.ret ?_; simp [Ex.then, Ex.ib]
  first
    | (rw [hno]; done)
    | (simp [regD, hA, hxk]; done)
    | fail
theorem setReg_s (g : Gor) (r v : Int) (hl : g.regs.length ≤ 2 ^ 29) (ht : g.trace.length ≤ 2 ^ 29) : Fn Tryz.prog 190 [.agg g.fr, .int .i64 r, .int .i64 v] (.agg (setR g r v).ow) := by
  refine Fn.intro Tryz.func190 (by decide) rfl (rs := [.cell 6 97]) rfl Tryz.ntmps190 (by simp) ?_; obtain ⟨proc, pc, regs, state, trace⟩ := g; simp only [] at hl ht; refine SW.rb ?_; refine SW.rg fun K hK => ?_; simp -implicitDefEqProofs
  repeat (refine And.intro (by clear hK; first | omega | (intros; simp_all; done) | (intros; grind)) ?_)
  refine CallK.imE (copy_s ⟨proc, pc, regs, state, trace⟩ (by simpa using hl) (by simpa using ht)) (by simp) (Gor_oI _) ?_; simp -implicitDefEqProofs
  repeat (refine And.intro (by clear hK; first | omega | (intros; simp_all; done) | (intros; grind)) ?_)
  refine hK _ ?_; clear hK K; refine SW.seqK fun K1 hK1 => ?_; refine SW.rg fun K hK => ?_; simp -implicitDefEqProofs; repeat (refine And.intro (by clear hK; first | omega | (intros; simp_all; done) | (intros; grind)) ?_)
  first
    | refine CallQG.fzE (by simp) (fun _ => val_s v) (by simp) ?_
    | refine CallG.fzE (by simp) (fun _ => val_s v) (by simp) ?_
    | refine CallQ.fzE (val_s v) (by simp) ?_
    | refine CallK.fzE (val_s v) (by simp) ?_
  simp -implicitDefEqProofs; repeat (refine And.intro (by clear hK; first | omega | (intros; simp_all; done) | (intros; grind)) ?_)
  refine hK _ ?_; clear hK K; refine SW.cond _ rfl (by simp) ?_ ?_
  case' refine_2 =>
   intro hb1
   have hs : setR ⟨proc, pc, regs, state, trace⟩ r v = ⟨proc, pc, regs, state, trace⟩ := by
     rw [setR, if_neg]
     rintro ⟨h1, h2, h3⟩
     simp [h1, h2, h3] at hb1; try omega
   refine SW.skip ?_
  rotate_right
  case' _ =>
   intro hb1; have hA : 0 ≤ r := by simp at hb1; omega
   have hB : r < regs.length := by simp at hb1; omega
   have hV : valOk v = true := by simp at hb1; simp [hb1]
   obtain ⟨x, hxk⟩ : ∃ q, regs[r.toNat]? = some q := ⟨_, List.getElem?_eq_getElem (by omega)⟩
   have hs : setR ⟨proc, pc, regs, state, trace⟩ r v = ⟨proc, pc, regs.set r.toNat v, state, trace⟩ := by rw [setR, if_pos ⟨hA, hB, hV⟩]
   have htk : List.take regs.length ((IntS regs).set r.toNat [.int .i64 v]) = IntS (regs.set r.toNat v) := by
     have hset := IntS_setL regs r.toNat v
     simp only [] at hset; rw [hset]; exact List.take_of_length_le (by simp)
   refine SW.regionE fun K hK => ?_; simp -implicitDefEqProofs [hA, hB, hxk, splice]; repeat (refine And.intro (by clear hK; first | omega | (intros; simp_all; done) | (intros; grind)) ?_)
   refine hK _ ?_; clear hK K
  all_goals (
   refine hK1 _ ?_; refine SW.rb ?_; refine SW.ret ?_; simp [Ex.then, Ex.ib, -strN]
   all_goals first
     | (simp [hs, htk, strS_int, strS_bool, -strN]; exact IntS_strM _)
     | (simp [hs, htk, strS_int, strS_bool, -strN]; done)
     | (simp [hs, strS_int, strS_bool, -strN]; exact ⟨IntS_strM _, ItemS_strM _⟩)
     | (simp [hs, strS_int, strS_bool, -strN]; done)
     | fail)
theorem setReg_i (g : Gor) (r v : Int) (hl : g.regs.length ≤ 2 ^ 29) (ht : g.trace.length ≤ 2 ^ 29) : Fn Tryz.prog 208 [.agg g.fr, .int .i64 r, .int .i64 v] (.agg (setR g r v).ow) := by
  refine Fn.intro Tryz.func208 (by decide) rfl (rs := [.cell 6 97]) rfl Tryz.ntmps208 (by simp) ?_; obtain ⟨proc, pc, regs, state, trace⟩ := g; simp only [] at hl ht; refine SW.rb ?_; refine SW.rg fun K hK => ?_; simp -implicitDefEqProofs
  repeat (refine And.intro (by clear hK; first | omega | (intros; simp_all; done) | (intros; grind)) ?_)
  refine CallK.imE (copy_i ⟨proc, pc, regs, state, trace⟩ (by simpa using hl) (by simpa using ht)) (by simp) (Gor_oI _) ?_; simp -implicitDefEqProofs
  repeat (refine And.intro (by clear hK; first | omega | (intros; simp_all; done) | (intros; grind)) ?_)
  refine hK _ ?_; clear hK K; refine SW.seqK fun K1 hK1 => ?_; refine SW.rg fun K hK => ?_; simp -implicitDefEqProofs; repeat (refine And.intro (by clear hK; first | omega | (intros; simp_all; done) | (intros; grind)) ?_)
  first
    | refine CallQ.fzE (within_ok r 0 regs.length) (by simp) ?_
    | refine CallK.fzE (within_ok r 0 regs.length) (by simp) ?_
  simp -implicitDefEqProofs; repeat (refine And.intro (by clear hK; first | omega | (intros; simp_all; done) | (intros; grind)) ?_)
  first
    | refine CallQG.fzE (by simp) (fun _ => val_i v) (by simp) ?_
    | refine CallG.fzE (by simp) (fun _ => val_i v) (by simp) ?_
    | refine CallQ.fzE (val_i v) (by simp) ?_
    | refine CallK.fzE (val_i v) (by simp) ?_
  simp -implicitDefEqProofs; repeat (refine And.intro (by clear hK; first | omega | (intros; simp_all; done) | (intros; grind)) ?_)
  refine hK _ ?_; clear hK K; refine SW.cond _ rfl (by simp) ?_ ?_
  case' refine_2 =>
   intro hb1
   have hs : setR ⟨proc, pc, regs, state, trace⟩ r v = ⟨proc, pc, regs, state, trace⟩ := by
     rw [setR, if_neg]
     rintro ⟨h1, h2, h3⟩
     simp [h1, h2, h3] at hb1; try omega
   refine SW.skip ?_
  rotate_right
  case' _ =>
   intro hb1; have hA : 0 ≤ r := by simp at hb1; omega
   have hB : r < regs.length := by simp at hb1; omega
   have hV : valOk v = true := by simp at hb1; simp [hb1]
   obtain ⟨x, hxk⟩ : ∃ q, regs[r.toNat]? = some q := ⟨_, List.getElem?_eq_getElem (by omega)⟩
   have hs : setR ⟨proc, pc, regs, state, trace⟩ r v = ⟨proc, pc, regs.set r.toNat v, state, trace⟩ := by rw [setR, if_pos ⟨hA, hB, hV⟩]
   have htk : List.take regs.length ((IntS regs).set r.toNat [.int .i64 v]) = IntS (regs.set r.toNat v) := by
     have hset := IntS_setL regs r.toNat v
     simp only [] at hset; rw [hset]; exact List.take_of_length_le (by simp)
   refine SW.regionE fun K hK => ?_; simp -implicitDefEqProofs [hA, hB, hxk, splice]; repeat (refine And.intro (by clear hK; first | omega | (intros; simp_all; done) | (intros; grind)) ?_)
   refine hK _ ?_; clear hK K
  all_goals (
   refine hK1 _ ?_; refine SW.rb ?_; refine SW.ret ?_; simp [Ex.then, Ex.ib, -strN]
   all_goals first
     | (simp [hs, htk, strS_int, strS_bool, -strN]; exact IntS_strM _)
     | (simp [hs, htk, strS_int, strS_bool, -strN]; done)
     | (simp [hs, strS_int, strS_bool, -strN]; exact ⟨IntS_strM _, ItemS_strM _⟩)
     | (simp [hs, strS_int, strS_bool, -strN]; done)
     | fail)
theorem tell_s (g : Gor) (i : Item) (hl : g.regs.length ≤ 2 ^ 29) (ht : g.trace.length ≤ 2 ^ 29) : Fn Tryz.prog 110 [.agg g.fr, .agg i.cl] (.agg (tell g i).ow) := by
  refine Fn.intro Tryz.func110 (by decide) rfl (rs := [.cell 4 97]) rfl Tryz.ntmps110 (by simp) ?_; obtain ⟨proc, pc, regs, state, trace⟩ := g; simp only [] at hl ht; obtain ⟨kind, obj, v, ok⟩ := i
  have htk : List.take (trace.length + 1) (ItemS trace ++ [[.int .i64 kind, .int .i64 obj, .int .i64 v, .bool ok]]) = ItemS (trace ++ [⟨kind, obj, v, ok⟩]) := by rw [ItemS_snoc]; exact List.take_of_length_le (by simp)
  refine SW.rb ?_; refine SW.rg fun K hK => ?_; simp -implicitDefEqProofs; repeat (refine And.intro (by clear hK; first | omega | (intros; simp_all; done) | (intros; grind)) ?_)
  refine CallK.imE (copy_s ⟨proc, pc, regs, state, trace⟩ (by simpa using hl) (by simpa using ht)) (by simp) (Gor_oI _) ?_; simp -implicitDefEqProofs
  repeat (refine And.intro (by clear hK; first | omega | (intros; simp_all; done) | (intros; grind)) ?_)
  refine hK _ ?_; clear hK K; refine SW.rb ?_; refine SW.rb ?_; refine SW.ret ?_; simp [Ex.then, Ex.ib, -strN]
  all_goals first
    | (simp [tell, htk, strS_int, strS_bool, -strN]; exact ItemS_strM _)
    | (simp [tell, htk, strS_int, strS_bool, -strN]; done)
    | fail
theorem tell_i (g : Gor) (i : Item) (hl : g.regs.length ≤ 2 ^ 29) (ht : g.trace.length ≤ 2 ^ 29) : Fn Tryz.prog 132 [.agg g.fr, .agg i.cl] (.agg (tell g i).ow) := by
  refine Fn.intro Tryz.func132 (by decide) rfl (rs := [.cell 4 97]) rfl Tryz.ntmps132 (by simp) ?_; obtain ⟨proc, pc, regs, state, trace⟩ := g; simp only [] at hl ht; obtain ⟨kind, obj, v, ok⟩ := i
  have htk : List.take (trace.length + 1) (ItemS trace ++ [[.int .i64 kind, .int .i64 obj, .int .i64 v, .bool ok]]) = ItemS (trace ++ [⟨kind, obj, v, ok⟩]) := by rw [ItemS_snoc]; exact List.take_of_length_le (by simp)
  refine SW.rb ?_; refine SW.rg fun K hK => ?_; simp -implicitDefEqProofs; repeat (refine And.intro (by clear hK; first | omega | (intros; simp_all; done) | (intros; grind)) ?_)
  refine CallK.imE (copy_i ⟨proc, pc, regs, state, trace⟩ (by simpa using hl) (by simpa using ht)) (by simp) (Gor_oI _) ?_; simp -implicitDefEqProofs
  repeat (refine And.intro (by clear hK; first | omega | (intros; simp_all; done) | (intros; grind)) ?_)
  refine hK _ ?_; clear hK K; refine SW.rb ?_; refine SW.rb ?_; refine SW.ret ?_; simp [Ex.then, Ex.ib, -strN]
  all_goals first
    | (simp [tell, htk, strS_int, strS_bool, -strN]; exact ItemS_strM _)
    | (simp [tell, htk, strS_int, strS_bool, -strN]; done)
    | fail
end HT
