import Derived.Test.YtokcpmbgipblpaaGreatBHXTB
import Derived.Test.YtokcpmbgipblpaaGreatBG4
/-
  My own texts (road H): HXTD.
-/
set_option linter.unusedSimpArgs false
set_option linter.unusedVariables false
namespace HT
open Go Go.Proofs HK
def canSend (c : Chan) : Bool := chanOk c && (c.closed || decide (0 < c.recvs.length) || decide ((c.buf.length : Int) < c.cap))
def canRecv (c : Chan) : Bool := chanOk c && (decide (0 < c.buf.length) || decide (0 < c.sends.length) || c.closed)
def caseR (e : Eng) (x : Case) : Bool := if 0 ≤ x.chan then match e.chans[x.chan.toNat]? with
    | some c => if x.send then canSend c else canRecv c
    | none => false
  else false
set_option maxHeartbeats 1000000 in
theorem canSend_s (c : Chan) (h : c.ok) : Fn Tryz.prog 115 [.agg c.fr] (.bool (canSend c)) := by
  refine Fn.intro Tryz.func115 (by decide) rfl (rs := [.tmp 2]) rfl Tryz.ntmps115 (by simp) ?_
  generalize hq : chanOk c = q
  have hfn : Fn Tryz.prog 83 [.agg c.fr] (.bool q) := by rw [← hq]; exact chanOk_s c h
  refine SW.rg fun K hK => ?_; simp -implicitDefEqProofs
  first | refine hK _ ?_ | (refine ⟨?_, hK _ ?_⟩; (first | omega | (clear hK; grind) | (intros; simp_all; done))) | (refine ⟨?_, ?_, hK _ ?_⟩; iterate 2 (first | omega | (clear hK; grind) | (intros; simp_all; done)))
  clear hK K; refine SW.rg fun K hK => ?_; simp -implicitDefEqProofs; iterate 2 (try refine ⟨by omega, ?_⟩)
  refine CallK.fzE hfn (by simp) ?_; simp -implicitDefEqProofs
  first | refine hK _ ?_ | (refine ⟨?_, hK _ ?_⟩; (first | omega | (clear hK; grind) | (intros; simp_all; done))) | (refine ⟨?_, ?_, hK _ ?_⟩; iterate 2 (first | omega | (clear hK; grind) | (intros; simp_all; done)))
  clear hK K; refine SW.ret ?_; simp [Ex.then, Ex.ib]; subst hq
  all_goals (cases h1 : chanOk c <;> cases h2 : c.closed <;> simp [h1, h2, canSend])
set_option maxHeartbeats 1000000 in
theorem canRecv_s (c : Chan) (h : c.ok) : Fn Tryz.prog 116 [.agg c.fr] (.bool (canRecv c)) := by
  refine Fn.intro Tryz.func116 (by decide) rfl (rs := [.tmp 2]) rfl Tryz.ntmps116 (by simp) ?_
  generalize hq : chanOk c = q
  have hfn : Fn Tryz.prog 83 [.agg c.fr] (.bool q) := by rw [← hq]; exact chanOk_s c h
  refine SW.rg fun K hK => ?_; simp -implicitDefEqProofs
  first | refine hK _ ?_ | (refine ⟨?_, hK _ ?_⟩; (first | omega | (clear hK; grind) | (intros; simp_all; done))) | (refine ⟨?_, ?_, hK _ ?_⟩; iterate 2 (first | omega | (clear hK; grind) | (intros; simp_all; done)))
  clear hK K; refine SW.rg fun K hK => ?_; simp -implicitDefEqProofs; iterate 2 (try refine ⟨by omega, ?_⟩)
  refine CallK.fzE hfn (by simp) ?_; simp -implicitDefEqProofs
  first | refine hK _ ?_ | (refine ⟨?_, hK _ ?_⟩; (first | omega | (clear hK; grind) | (intros; simp_all; done))) | (refine ⟨?_, ?_, hK _ ?_⟩; iterate 2 (first | omega | (clear hK; grind) | (intros; simp_all; done)))
  clear hK K; refine SW.ret ?_; simp [Ex.then, Ex.ib]; subst hq
  all_goals (cases h1 : chanOk c <;> cases h2 : c.closed <;> simp [h1, h2, canRecv])
set_option maxHeartbeats 1000000 in
theorem caseReady_s (e : Eng) (x : Case) (h : e.ok) : Fn Tryz.prog 66 [.agg e.fr, .agg x.cl] (.bool (caseR e x)) := by
  refine Fn.intro Tryz.func66 (by decide) rfl (rs := [.tmp 4]) rfl Tryz.ntmps66 (by simp) ?_; have hch := h.2.2.2.1
  refine SW.rg fun K hK => ?_; simp -implicitDefEqProofs
  first | refine hK _ ?_ | (refine ⟨?_, hK _ ?_⟩; (first | omega | (clear hK; grind) | (intros; simp_all; done))) | (refine ⟨?_, ?_, hK _ ?_⟩; iterate 2 (first | omega | (clear hK; grind) | (intros; simp_all; done)))
  clear hK K; refine SW.seqK fun K1 hK1 => ?_; refine SW.rg fun K hK => ?_; simp -implicitDefEqProofs
  first | refine hK _ ?_ | (refine ⟨?_, hK _ ?_⟩; (first | omega | (clear hK; grind) | (intros; simp_all; done))) | (refine ⟨?_, ?_, hK _ ?_⟩; iterate 2 (first | omega | (clear hK; grind) | (intros; simp_all; done)))
  clear hK K; refine SW.cond _ rfl (by simp) ?_ ?_
  case' refine_2 =>
   intro hb1; obtain ⟨N, hxc⟩ : ∃ N : Nat, x.chan = N := ⟨x.chan.toNat, by simp at hb1; omega⟩
   have hlt : N < e.chans.length := by simp [hxc] at hb1; omega
   obtain ⟨c, hg⟩ : ∃ c, e.chans[N]? = some c := ⟨_, List.getElem?_eq_getElem hlt⟩
   have hgE : ∀ h, e.chans[N]'h = c := fun h => (List.getElem?_eq_some_iff.1 hg).2
   have hco : c.ok := h.2.2.2.1 c (List.mem_of_getElem? hg)
   have hres0 : caseR e x = if x.send then canSend c else canRecv c := by unfold caseR; rw [if_pos (by omega), hxc]; simp [hg]
   first
   | (exfalso; simp at hb1; done)
   | (exfalso; simp at hb1; omega)
   | (
    refine SW.skip ?_; refine hK1 _ ?_; refine SW.seqK fun K2 hK2 => ?_; refine SW.rg fun K hK => ?_; simp -implicitDefEqProofs
    first | refine hK _ ?_ | (refine ⟨?_, hK _ ?_⟩; (first | omega | (clear hK; grind) | (intros; simp_all; done))) | (refine ⟨?_, ?_, hK _ ?_⟩; iterate 2 (first | omega | (clear hK; grind) | (intros; simp_all; done)))
    clear hK K; refine SW.cond _ rfl (by simp) ?_ ?_
    case' refine_2 =>
     intro hb2; have hres : caseR e x = canRecv c := by rw [hres0, if_neg (by simpa using hb2)]
     first
     | (exfalso; simp at hb2; done)
     | (exfalso; simp at hb2; omega)
     | (
      refine SW.skip ?_; refine hK2 _ ?_; refine SW.rg fun K hK => ?_; simp -implicitDefEqProofs [hxc, hg, hgE, hlt]; iterate 2 (try refine ⟨by omega, ?_⟩)
      refine CallK.fzE (canRecv_s c hco) (by simp) ?_; simp -implicitDefEqProofs [hxc, hg, hgE, hlt]
      first | refine hK _ ?_ | (refine ⟨?_, hK _ ?_⟩; (first | omega | (clear hK; grind) | (intros; simp_all; done))) | (refine ⟨?_, ?_, hK _ ?_⟩; iterate 2 (first | omega | (clear hK; grind) | (intros; simp_all; done)))
      clear hK K; refine SW.ret ?_; simp [Ex.then, Ex.ib]
      first | (rw [hres]; done) | (rw [hres]; rfl) | fail)
    rotate_right
    case' _ =>
     intro hb2; have hres : caseR e x = canSend c := by rw [hres0, if_pos (by simpa using hb2)]
     first
     | (exfalso; simp at hb2; done)
     | (exfalso; simp at hb2; omega)
     | (
      refine SW.rg fun K hK => ?_; simp -implicitDefEqProofs [hxc, hg, hgE, hlt]; iterate 2 (try refine ⟨by omega, ?_⟩)
      refine CallK.fzE (canSend_s c hco) (by simp) ?_; simp -implicitDefEqProofs [hxc, hg, hgE, hlt]
      first | refine hK _ ?_ | (refine ⟨?_, hK _ ?_⟩; (first | omega | (clear hK; grind) | (intros; simp_all; done))) | (refine ⟨?_, ?_, hK _ ?_⟩; iterate 2 (first | omega | (clear hK; grind) | (intros; simp_all; done)))
      clear hK K; refine SW.ret ?_; simp [Ex.then, Ex.ib]
      first | (rw [hres]; done) | (rw [hres]; rfl) | fail))
  rotate_right
  case' _ =>
   intro hb1
   have hres : caseR e x = false := by
     unfold caseR; by_cases h0 : 0 ≤ x.chan
     · have : e.chans.length ≤ x.chan.toNat := by simp at hb1; omega
       rw [if_pos h0, List.getElem?_eq_none this]
     · rw [if_neg h0]
   first
   | (exfalso; simp at hb1; done)
   | (exfalso; simp at hb1; omega)
   | (
    refine SW.rg fun K hK => ?_; simp -implicitDefEqProofs
    first | refine hK _ ?_ | (refine ⟨?_, hK _ ?_⟩; (first | omega | (clear hK; grind) | (intros; simp_all; done))) | (refine ⟨?_, ?_, hK _ ?_⟩; iterate 2 (first | omega | (clear hK; grind) | (intros; simp_all; done)))
    clear hK K; refine SW.ret ?_; simp [Ex.then, Ex.ib]
    first | (rw [hres]; done) | (rw [hres]; rfl) | fail)
set_option maxHeartbeats 1000000 in
theorem canSend_i (c : Chan) (h : c.ok) : Fn Tryz.prog 117 [.agg c.fr] (.bool (canSend c)) := by
  refine Fn.intro Tryz.func117 (by decide) rfl (rs := [.tmp 2]) rfl Tryz.ntmps117 (by simp) ?_
  generalize hq : chanOk c = q
  have hfn : Fn Tryz.prog 52 [.agg c.fr] (.bool q) := by rw [← hq]; exact chanOk_i c h
  refine SW.rg fun K hK => ?_; simp -implicitDefEqProofs
  first | refine hK _ ?_ | (refine ⟨?_, hK _ ?_⟩; (first | omega | (clear hK; grind) | (intros; simp_all; done))) | (refine ⟨?_, ?_, hK _ ?_⟩; iterate 2 (first | omega | (clear hK; grind) | (intros; simp_all; done)))
  clear hK K; refine SW.rg fun K hK => ?_; simp -implicitDefEqProofs; iterate 2 (try refine ⟨by omega, ?_⟩)
  refine CallK.fzE hfn (by simp) ?_; simp -implicitDefEqProofs
  first | refine hK _ ?_ | (refine ⟨?_, hK _ ?_⟩; (first | omega | (clear hK; grind) | (intros; simp_all; done))) | (refine ⟨?_, ?_, hK _ ?_⟩; iterate 2 (first | omega | (clear hK; grind) | (intros; simp_all; done)))
  clear hK K; refine SW.ret ?_; simp [Ex.then, Ex.ib]; subst hq
  all_goals (cases h1 : chanOk c <;> cases h2 : c.closed <;> simp [h1, h2, canSend])
set_option maxHeartbeats 1000000 in
theorem canRecv_i (c : Chan) (h : c.ok) : Fn Tryz.prog 118 [.agg c.fr] (.bool (canRecv c)) := by
  refine Fn.intro Tryz.func118 (by decide) rfl (rs := [.tmp 2]) rfl Tryz.ntmps118 (by simp) ?_
  generalize hq : chanOk c = q
  have hfn : Fn Tryz.prog 52 [.agg c.fr] (.bool q) := by rw [← hq]; exact chanOk_i c h
  refine SW.rg fun K hK => ?_; simp -implicitDefEqProofs
  first | refine hK _ ?_ | (refine ⟨?_, hK _ ?_⟩; (first | omega | (clear hK; grind) | (intros; simp_all; done))) | (refine ⟨?_, ?_, hK _ ?_⟩; iterate 2 (first | omega | (clear hK; grind) | (intros; simp_all; done)))
  clear hK K; refine SW.rg fun K hK => ?_; simp -implicitDefEqProofs; iterate 2 (try refine ⟨by omega, ?_⟩)
  refine CallK.fzE hfn (by simp) ?_; simp -implicitDefEqProofs
  first | refine hK _ ?_ | (refine ⟨?_, hK _ ?_⟩; (first | omega | (clear hK; grind) | (intros; simp_all; done))) | (refine ⟨?_, ?_, hK _ ?_⟩; iterate 2 (first | omega | (clear hK; grind) | (intros; simp_all; done)))
  clear hK K; refine SW.ret ?_; simp [Ex.then, Ex.ib]; subst hq
  all_goals (cases h1 : chanOk c <;> cases h2 : c.closed <;> simp [h1, h2, canRecv])
set_option maxHeartbeats 1000000 in
theorem caseReady_i (e : Eng) (x : Case) (h : e.ok) : Fn Tryz.prog 69 [.agg e.fr, .agg x.cl] (.bool (caseR e x)) := by
  refine Fn.intro Tryz.func69 (by decide) rfl (rs := [.tmp 4]) rfl Tryz.ntmps69 (by simp) ?_; have hch := h.2.2.2.1
  refine SW.rg fun K hK => ?_; simp -implicitDefEqProofs
  first | refine hK _ ?_ | (refine ⟨?_, hK _ ?_⟩; (first | omega | (clear hK; grind) | (intros; simp_all; done))) | (refine ⟨?_, ?_, hK _ ?_⟩; iterate 2 (first | omega | (clear hK; grind) | (intros; simp_all; done)))
  clear hK K; refine SW.seqK fun K1 hK1 => ?_; refine SW.rg fun K hK => ?_; simp -implicitDefEqProofs; iterate 2 (try refine ⟨by omega, ?_⟩)
  refine CallK.fz (within_ok _ _ _) ?_; simp -implicitDefEqProofs
  first | refine hK _ ?_ | (refine ⟨?_, hK _ ?_⟩; (first | omega | (clear hK; grind) | (intros; simp_all; done))) | (refine ⟨?_, ?_, hK _ ?_⟩; iterate 2 (first | omega | (clear hK; grind) | (intros; simp_all; done)))
  clear hK K; refine SW.cond _ rfl (by simp) ?_ ?_
  case' refine_2 =>
   intro hb1; obtain ⟨N, hxc⟩ : ∃ N : Nat, x.chan = N := ⟨x.chan.toNat, by simp at hb1; omega⟩
   have hlt : N < e.chans.length := by simp [hxc] at hb1; omega
   obtain ⟨c, hg⟩ : ∃ c, e.chans[N]? = some c := ⟨_, List.getElem?_eq_getElem hlt⟩
   have hgE : ∀ h, e.chans[N]'h = c := fun h => (List.getElem?_eq_some_iff.1 hg).2
   have hco : c.ok := h.2.2.2.1 c (List.mem_of_getElem? hg)
   have hres0 : caseR e x = if x.send then canSend c else canRecv c := by unfold caseR; rw [if_pos (by omega), hxc]; simp [hg]
   first
   | (exfalso; simp at hb1; done)
   | (exfalso; simp at hb1; omega)
   | (
    refine SW.skip ?_; refine hK1 _ ?_; refine SW.seqK fun K2 hK2 => ?_; refine SW.rg fun K hK => ?_; simp -implicitDefEqProofs
    first | refine hK _ ?_ | (refine ⟨?_, hK _ ?_⟩; (first | omega | (clear hK; grind) | (intros; simp_all; done))) | (refine ⟨?_, ?_, hK _ ?_⟩; iterate 2 (first | omega | (clear hK; grind) | (intros; simp_all; done)))
    clear hK K; refine SW.cond _ rfl (by simp) ?_ ?_
    case' refine_2 =>
     intro hb2; have hres : caseR e x = canRecv c := by rw [hres0, if_neg (by simpa using hb2)]
     first
     | (exfalso; simp at hb2; done)
     | (exfalso; simp at hb2; omega)
     | (
      refine SW.skip ?_; refine hK2 _ ?_; refine SW.rg fun K hK => ?_; simp -implicitDefEqProofs [hxc, hg, hgE, hlt]; iterate 2 (try refine ⟨by omega, ?_⟩)
      refine CallK.fzE (canRecv_i c hco) (by simp) ?_; simp -implicitDefEqProofs [hxc, hg, hgE, hlt]
      first | refine hK _ ?_ | (refine ⟨?_, hK _ ?_⟩; (first | omega | (clear hK; grind) | (intros; simp_all; done))) | (refine ⟨?_, ?_, hK _ ?_⟩; iterate 2 (first | omega | (clear hK; grind) | (intros; simp_all; done)))
      clear hK K; refine SW.ret ?_; simp [Ex.then, Ex.ib]
      first | (rw [hres]; done) | (rw [hres]; rfl) | fail)
    rotate_right
    case' _ =>
     intro hb2; have hres : caseR e x = canSend c := by rw [hres0, if_pos (by simpa using hb2)]
     first
     | (exfalso; simp at hb2; done)
     | (exfalso; simp at hb2; omega)
     | (
      refine SW.rg fun K hK => ?_; simp -implicitDefEqProofs [hxc, hg, hgE, hlt]; iterate 2 (try refine ⟨by omega, ?_⟩)
      refine CallK.fzE (canSend_i c hco) (by simp) ?_; simp -implicitDefEqProofs [hxc, hg, hgE, hlt]
      first | refine hK _ ?_ | (refine ⟨?_, hK _ ?_⟩; (first | omega | (clear hK; grind) | (intros; simp_all; done))) | (refine ⟨?_, ?_, hK _ ?_⟩; iterate 2 (first | omega | (clear hK; grind) | (intros; simp_all; done)))
      clear hK K; refine SW.ret ?_; simp [Ex.then, Ex.ib]
      first | (rw [hres]; done) | (rw [hres]; rfl) | fail))
  rotate_right
  case' _ =>
   intro hb1
   have hres : caseR e x = false := by
     unfold caseR; by_cases h0 : 0 ≤ x.chan
     · have : e.chans.length ≤ x.chan.toNat := by simp at hb1; omega
       rw [if_pos h0, List.getElem?_eq_none this]
     · rw [if_neg h0]
   first
   | (exfalso; simp at hb1; done)
   | (exfalso; simp at hb1; omega)
   | (
    refine SW.rg fun K hK => ?_; simp -implicitDefEqProofs
    first | refine hK _ ?_ | (refine ⟨?_, hK _ ?_⟩; (first | omega | (clear hK; grind) | (intros; simp_all; done))) | (refine ⟨?_, ?_, hK _ ?_⟩; iterate 2 (first | omega | (clear hK; grind) | (intros; simp_all; done)))
    clear hK K; refine SW.ret ?_; simp [Ex.then, Ex.ib]
    first | (rw [hres]; done) | (rw [hres]; rfl) | fail)
end HT
