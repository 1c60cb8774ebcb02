import Derived.Test.YtflanhfpjgcfbaaHTB
import Derived.Test.YtflanhfpjgcfbaaG4
/-
  My own texts (road H): HTD.
-/
set_option linter.unusedSimpArgs false
namespace HT
open Go Go.Proofs HK
def canSend (c : Chan) : Bool := chanOk c && (c.closed || decide (0 < c.recvs.length) || decide ((c.buf.length : Int) < c.cap))
def canRecv (c : Chan) : Bool := chanOk c && (decide (0 < c.buf.length) || decide (0 < c.sends.length) || c.closed)
def caseR (e : Eng) (x : Case) : Bool := if 0 ≤ x.chan then match e.chans[x.chan.toNat]? with
    | some c => if x.send then canSend c else canRecv c
    | none => false
  else false
set_option maxHeartbeats 1000000 in
theorem canSend_s (c : Chan) (h : c.ok) : Fn Try.prog 56 [.agg c.fr] (.bool (canSend c)) := by
  refine Fn.intro Try.func56 (by decide) rfl (rs := [.tmp 2]) rfl Try.ntmps56 (by simp) ?_
  generalize hq : chanOk c = q
  have hfn : Fn Try.prog 103 [.agg c.fr] (.bool q) := by rw [← hq]; exact chanOk_s c h
  refine SW.regionK fun K hK => ?_
  simp -implicitDefEqProofs
  first
    | refine hK _ ?_
    | refine ⟨by omega, hK _ ?_⟩
    | (refine ⟨?_, hK _ ?_⟩
       · first | (clear hK; grind) | (intros; simp_all; done))
    | (refine ⟨?_, ?_, hK _ ?_⟩
       · first | (clear hK; grind) | (intros; simp_all; done)
       · first | (clear hK; grind) | (intros; simp_all; done))
    | refine ⟨by omega, by omega, hK _ ?_⟩
  clear hK K
  refine SW.regionK fun K hK => ?_
  simp -implicitDefEqProofs
  first | refine ⟨by omega, by omega, ?_⟩ | refine ⟨by omega, ?_⟩ | skip
  refine CallK.fzE hfn (by simp) ?_
  simp -implicitDefEqProofs
  first
    | refine hK _ ?_
    | refine ⟨by omega, hK _ ?_⟩
    | (refine ⟨?_, hK _ ?_⟩
       · first | (clear hK; grind) | (intros; simp_all; done))
    | (refine ⟨?_, ?_, hK _ ?_⟩
       · first | (clear hK; grind) | (intros; simp_all; done)
       · first | (clear hK; grind) | (intros; simp_all; done))
    | refine ⟨by omega, by omega, hK _ ?_⟩
  clear hK K
  refine SW.ret ?_
  simp [Ex.then, Ex.inBlock]
  subst hq
  all_goals (cases h1 : chanOk c <;> cases h2 : c.closed <;> simp [h1, h2, canSend])
set_option maxHeartbeats 1000000 in
theorem canRecv_s (c : Chan) (h : c.ok) : Fn Try.prog 57 [.agg c.fr] (.bool (canRecv c)) := by
  refine Fn.intro Try.func57 (by decide) rfl (rs := [.tmp 2]) rfl Try.ntmps57 (by simp) ?_
  generalize hq : chanOk c = q
  have hfn : Fn Try.prog 103 [.agg c.fr] (.bool q) := by rw [← hq]; exact chanOk_s c h
  refine SW.regionK fun K hK => ?_
  simp -implicitDefEqProofs
  first
    | refine hK _ ?_
    | refine ⟨by omega, hK _ ?_⟩
    | (refine ⟨?_, hK _ ?_⟩
       · first | (clear hK; grind) | (intros; simp_all; done))
    | (refine ⟨?_, ?_, hK _ ?_⟩
       · first | (clear hK; grind) | (intros; simp_all; done)
       · first | (clear hK; grind) | (intros; simp_all; done))
    | refine ⟨by omega, by omega, hK _ ?_⟩
  clear hK K
  refine SW.regionK fun K hK => ?_
  simp -implicitDefEqProofs
  first | refine ⟨by omega, by omega, ?_⟩ | refine ⟨by omega, ?_⟩ | skip
  refine CallK.fzE hfn (by simp) ?_
  simp -implicitDefEqProofs
  first
    | refine hK _ ?_
    | refine ⟨by omega, hK _ ?_⟩
    | (refine ⟨?_, hK _ ?_⟩
       · first | (clear hK; grind) | (intros; simp_all; done))
    | (refine ⟨?_, ?_, hK _ ?_⟩
       · first | (clear hK; grind) | (intros; simp_all; done)
       · first | (clear hK; grind) | (intros; simp_all; done))
    | refine ⟨by omega, by omega, hK _ ?_⟩
  clear hK K
  refine SW.ret ?_
  simp [Ex.then, Ex.inBlock]
  subst hq
  all_goals (cases h1 : chanOk c <;> cases h2 : c.closed <;> simp [h1, h2, canRecv])
set_option maxHeartbeats 1000000 in
theorem caseReady_s (e : Eng) (x : Case) (h : e.ok) : Fn Try.prog 15 [.agg e.fr, .agg x.cl] (.bool (caseR e x)) := by
  refine Fn.intro Try.func15 (by decide) rfl (rs := [.tmp 4]) rfl Try.ntmps15 (by simp) ?_
  have hch := h.2.2.2.1
  refine SW.regionK fun K hK => ?_
  simp -implicitDefEqProofs
  first
    | refine hK _ ?_
    | refine ⟨by omega, hK _ ?_⟩
    | (refine ⟨?_, hK _ ?_⟩
       · first | (clear hK; grind) | (intros; simp_all; done))
    | (refine ⟨?_, ?_, hK _ ?_⟩
       · first | (clear hK; grind) | (intros; simp_all; done)
       · first | (clear hK; grind) | (intros; simp_all; done))
    | refine ⟨by omega, by omega, hK _ ?_⟩
  clear hK K
  refine SW.seqK fun K1 hK1 => ?_
  refine SW.regionK fun K hK => ?_
  simp -implicitDefEqProofs
  first
    | refine hK _ ?_
    | refine ⟨by omega, hK _ ?_⟩
    | (refine ⟨?_, hK _ ?_⟩
       · first | (clear hK; grind) | (intros; simp_all; done))
    | (refine ⟨?_, ?_, hK _ ?_⟩
       · first | (clear hK; grind) | (intros; simp_all; done)
       · first | (clear hK; grind) | (intros; simp_all; done))
    | refine ⟨by omega, by omega, hK _ ?_⟩
  clear hK K
  refine SW.cond _ rfl (by simp) ?_ ?_
  case' refine_2 =>
   intro hb1
   obtain ⟨N, hxc⟩ : ∃ N : Nat, x.chan = N := ⟨x.chan.toNat, by simp at hb1; omega⟩
   have hlt : N < e.chans.length := by simp [hxc] at hb1; omega
   obtain ⟨c, hg⟩ : ∃ c, e.chans[N]? = some c := ⟨_, List.getElem?_eq_getElem hlt⟩
   have hgE : ∀ h, e.chans[N]'h = c := fun h => (List.getElem?_eq_some_iff.1 hg).2
   have hco : c.ok := h.2.2.2.1 c (List.mem_of_getElem? hg)
   have hres0 : caseR e x = if x.send then canSend c else canRecv c := by unfold caseR; rw [if_pos (by omega), hxc]; simp [hg]
   first
   | (exfalso; simp at hb1; done)
   | (exfalso; simp at hb1; omega)
   | (
    refine SW.skip ?_
    refine hK1 _ ?_
    refine SW.seqK fun K2 hK2 => ?_
    refine SW.regionK fun K hK => ?_
    simp -implicitDefEqProofs
    first
      | refine hK _ ?_
      | refine ⟨by omega, hK _ ?_⟩
      | (refine ⟨?_, hK _ ?_⟩
         · first | (clear hK; grind) | (intros; simp_all; done))
      | (refine ⟨?_, ?_, hK _ ?_⟩
         · first | (clear hK; grind) | (intros; simp_all; done)
         · first | (clear hK; grind) | (intros; simp_all; done))
      | refine ⟨by omega, by omega, hK _ ?_⟩
    clear hK K
    refine SW.cond _ rfl (by simp) ?_ ?_
    case' refine_2 =>
     intro hb2
     have hres : caseR e x = canRecv c := by rw [hres0, if_neg (by simpa using hb2)]
     first
     | (exfalso; simp at hb2; done)
     | (exfalso; simp at hb2; omega)
     | (
      refine SW.skip ?_
      refine hK2 _ ?_
      refine SW.regionK fun K hK => ?_
      simp -implicitDefEqProofs [hxc, hg, hgE, hlt]
      first | refine ⟨by omega, by omega, ?_⟩ | refine ⟨by omega, ?_⟩ | skip
      refine CallK.fzE (canRecv_s c hco) (by simp) ?_
      simp -implicitDefEqProofs [hxc, hg, hgE, hlt]
      first
        | refine hK _ ?_
        | refine ⟨by omega, hK _ ?_⟩
        | (refine ⟨?_, hK _ ?_⟩
           · first | (clear hK; grind) | (intros; simp_all; done))
        | (refine ⟨?_, ?_, hK _ ?_⟩
           · first | (clear hK; grind) | (intros; simp_all; done)
           · first | (clear hK; grind) | (intros; simp_all; done))
        | refine ⟨by omega, by omega, hK _ ?_⟩
      clear hK K
      refine SW.ret ?_
      simp [Ex.then, Ex.inBlock]
      first | (rw [hres]; done) | (rw [hres]; rfl) | fail)
    rotate_right
    case' _ =>
     intro hb2
     have hres : caseR e x = canSend c := by rw [hres0, if_pos (by simpa using hb2)]
     first
     | (exfalso; simp at hb2; done)
     | (exfalso; simp at hb2; omega)
     | (
      refine SW.regionK fun K hK => ?_
      simp -implicitDefEqProofs [hxc, hg, hgE, hlt]
      first | refine ⟨by omega, by omega, ?_⟩ | refine ⟨by omega, ?_⟩ | skip
      refine CallK.fzE (canSend_s c hco) (by simp) ?_
      simp -implicitDefEqProofs [hxc, hg, hgE, hlt]
      first
        | refine hK _ ?_
        | refine ⟨by omega, hK _ ?_⟩
        | (refine ⟨?_, hK _ ?_⟩
           · first | (clear hK; grind) | (intros; simp_all; done))
        | (refine ⟨?_, ?_, hK _ ?_⟩
           · first | (clear hK; grind) | (intros; simp_all; done)
           · first | (clear hK; grind) | (intros; simp_all; done))
        | refine ⟨by omega, by omega, hK _ ?_⟩
      clear hK K
      refine SW.ret ?_
      simp [Ex.then, Ex.inBlock]
      first | (rw [hres]; done) | (rw [hres]; rfl) | fail))
  rotate_right
  case' _ =>
   intro hb1
   have hres : caseR e x = false := by
     unfold caseR
     by_cases h0 : 0 ≤ x.chan
     · have : e.chans.length ≤ x.chan.toNat := by simp at hb1; omega
       rw [if_pos h0, List.getElem?_eq_none this]
     · rw [if_neg h0]
   first
   | (exfalso; simp at hb1; done)
   | (exfalso; simp at hb1; omega)
   | (
    refine SW.regionK fun K hK => ?_
    simp -implicitDefEqProofs
    first
      | refine hK _ ?_
      | refine ⟨by omega, hK _ ?_⟩
      | (refine ⟨?_, hK _ ?_⟩
         · first | (clear hK; grind) | (intros; simp_all; done))
      | (refine ⟨?_, ?_, hK _ ?_⟩
         · first | (clear hK; grind) | (intros; simp_all; done)
         · first | (clear hK; grind) | (intros; simp_all; done))
      | refine ⟨by omega, by omega, hK _ ?_⟩
    clear hK K
    refine SW.ret ?_
    simp [Ex.then, Ex.inBlock]
    first | (rw [hres]; done) | (rw [hres]; rfl) | fail)
set_option maxHeartbeats 1000000 in
theorem canSend_i (c : Chan) (h : c.ok) : Fn Try.prog 59 [.agg c.fr] (.bool (canSend c)) := by
  refine Fn.intro Try.func59 (by decide) rfl (rs := [.tmp 2]) rfl Try.ntmps59 (by simp) ?_
  generalize hq : chanOk c = q
  have hfn : Fn Try.prog 104 [.agg c.fr] (.bool q) := by rw [← hq]; exact chanOk_i c h
  refine SW.regionK fun K hK => ?_
  simp -implicitDefEqProofs
  first
    | refine hK _ ?_
    | refine ⟨by omega, hK _ ?_⟩
    | (refine ⟨?_, hK _ ?_⟩
       · first | (clear hK; grind) | (intros; simp_all; done))
    | (refine ⟨?_, ?_, hK _ ?_⟩
       · first | (clear hK; grind) | (intros; simp_all; done)
       · first | (clear hK; grind) | (intros; simp_all; done))
    | refine ⟨by omega, by omega, hK _ ?_⟩
  clear hK K
  refine SW.regionK fun K hK => ?_
  simp -implicitDefEqProofs
  first | refine ⟨by omega, by omega, ?_⟩ | refine ⟨by omega, ?_⟩ | skip
  refine CallK.fzE hfn (by simp) ?_
  simp -implicitDefEqProofs
  first
    | refine hK _ ?_
    | refine ⟨by omega, hK _ ?_⟩
    | (refine ⟨?_, hK _ ?_⟩
       · first | (clear hK; grind) | (intros; simp_all; done))
    | (refine ⟨?_, ?_, hK _ ?_⟩
       · first | (clear hK; grind) | (intros; simp_all; done)
       · first | (clear hK; grind) | (intros; simp_all; done))
    | refine ⟨by omega, by omega, hK _ ?_⟩
  clear hK K
  refine SW.ret ?_
  simp [Ex.then, Ex.inBlock]
  subst hq
  all_goals (cases h1 : chanOk c <;> cases h2 : c.closed <;> simp [h1, h2, canSend])
set_option maxHeartbeats 1000000 in
theorem canRecv_i (c : Chan) (h : c.ok) : Fn Try.prog 60 [.agg c.fr] (.bool (canRecv c)) := by
  refine Fn.intro Try.func60 (by decide) rfl (rs := [.tmp 2]) rfl Try.ntmps60 (by simp) ?_
  generalize hq : chanOk c = q
  have hfn : Fn Try.prog 104 [.agg c.fr] (.bool q) := by rw [← hq]; exact chanOk_i c h
  refine SW.regionK fun K hK => ?_
  simp -implicitDefEqProofs
  first
    | refine hK _ ?_
    | refine ⟨by omega, hK _ ?_⟩
    | (refine ⟨?_, hK _ ?_⟩
       · first | (clear hK; grind) | (intros; simp_all; done))
    | (refine ⟨?_, ?_, hK _ ?_⟩
       · first | (clear hK; grind) | (intros; simp_all; done)
       · first | (clear hK; grind) | (intros; simp_all; done))
    | refine ⟨by omega, by omega, hK _ ?_⟩
  clear hK K
  refine SW.regionK fun K hK => ?_
  simp -implicitDefEqProofs
  first | refine ⟨by omega, by omega, ?_⟩ | refine ⟨by omega, ?_⟩ | skip
  refine CallK.fzE hfn (by simp) ?_
  simp -implicitDefEqProofs
  first
    | refine hK _ ?_
    | refine ⟨by omega, hK _ ?_⟩
    | (refine ⟨?_, hK _ ?_⟩
       · first | (clear hK; grind) | (intros; simp_all; done))
    | (refine ⟨?_, ?_, hK _ ?_⟩
       · first | (clear hK; grind) | (intros; simp_all; done)
       · first | (clear hK; grind) | (intros; simp_all; done))
    | refine ⟨by omega, by omega, hK _ ?_⟩
  clear hK K
  refine SW.ret ?_
  simp [Ex.then, Ex.inBlock]
  subst hq
  all_goals (cases h1 : chanOk c <;> cases h2 : c.closed <;> simp [h1, h2, canRecv])
set_option maxHeartbeats 1000000 in
theorem caseReady_i (e : Eng) (x : Case) (h : e.ok) : Fn Try.prog 17 [.agg e.fr, .agg x.cl] (.bool (caseR e x)) := by
  refine Fn.intro Try.func17 (by decide) rfl (rs := [.tmp 4]) rfl Try.ntmps17 (by simp) ?_
  have hch := h.2.2.2.1
  refine SW.regionK fun K hK => ?_
  simp -implicitDefEqProofs
  first
    | refine hK _ ?_
    | refine ⟨by omega, hK _ ?_⟩
    | (refine ⟨?_, hK _ ?_⟩
       · first | (clear hK; grind) | (intros; simp_all; done))
    | (refine ⟨?_, ?_, hK _ ?_⟩
       · first | (clear hK; grind) | (intros; simp_all; done)
       · first | (clear hK; grind) | (intros; simp_all; done))
    | refine ⟨by omega, by omega, hK _ ?_⟩
  clear hK K
  refine SW.seqK fun K1 hK1 => ?_
  refine SW.regionK fun K hK => ?_
  simp -implicitDefEqProofs
  first | refine ⟨by omega, by omega, ?_⟩ | refine ⟨by omega, ?_⟩ | skip
  refine CallK.fz (within_ok _ _ _) ?_
  simp -implicitDefEqProofs
  first
    | refine hK _ ?_
    | refine ⟨by omega, hK _ ?_⟩
    | (refine ⟨?_, hK _ ?_⟩
       · first | (clear hK; grind) | (intros; simp_all; done))
    | (refine ⟨?_, ?_, hK _ ?_⟩
       · first | (clear hK; grind) | (intros; simp_all; done)
       · first | (clear hK; grind) | (intros; simp_all; done))
    | refine ⟨by omega, by omega, hK _ ?_⟩
  clear hK K
  refine SW.cond _ rfl (by simp) ?_ ?_
  case' refine_2 =>
   intro hb1
   obtain ⟨N, hxc⟩ : ∃ N : Nat, x.chan = N := ⟨x.chan.toNat, by simp at hb1; omega⟩
   have hlt : N < e.chans.length := by simp [hxc] at hb1; omega
   obtain ⟨c, hg⟩ : ∃ c, e.chans[N]? = some c := ⟨_, List.getElem?_eq_getElem hlt⟩
   have hgE : ∀ h, e.chans[N]'h = c := fun h => (List.getElem?_eq_some_iff.1 hg).2
   have hco : c.ok := h.2.2.2.1 c (List.mem_of_getElem? hg)
   have hres0 : caseR e x = if x.send then canSend c else canRecv c := by unfold caseR; rw [if_pos (by omega), hxc]; simp [hg]
   first
   | (exfalso; simp at hb1; done)
   | (exfalso; simp at hb1; omega)
   | (
    refine SW.skip ?_
    refine hK1 _ ?_
    refine SW.seqK fun K2 hK2 => ?_
    refine SW.regionK fun K hK => ?_
    simp -implicitDefEqProofs
    first
      | refine hK _ ?_
      | refine ⟨by omega, hK _ ?_⟩
      | (refine ⟨?_, hK _ ?_⟩
         · first | (clear hK; grind) | (intros; simp_all; done))
      | (refine ⟨?_, ?_, hK _ ?_⟩
         · first | (clear hK; grind) | (intros; simp_all; done)
         · first | (clear hK; grind) | (intros; simp_all; done))
      | refine ⟨by omega, by omega, hK _ ?_⟩
    clear hK K
    refine SW.cond _ rfl (by simp) ?_ ?_
    case' refine_2 =>
     intro hb2
     have hres : caseR e x = canRecv c := by rw [hres0, if_neg (by simpa using hb2)]
     first
     | (exfalso; simp at hb2; done)
     | (exfalso; simp at hb2; omega)
     | (
      refine SW.skip ?_
      refine hK2 _ ?_
      refine SW.regionK fun K hK => ?_
      simp -implicitDefEqProofs [hxc, hg, hgE, hlt]
      first | refine ⟨by omega, by omega, ?_⟩ | refine ⟨by omega, ?_⟩ | skip
      refine CallK.fzE (canRecv_i c hco) (by simp) ?_
      simp -implicitDefEqProofs [hxc, hg, hgE, hlt]
      first
        | refine hK _ ?_
        | refine ⟨by omega, hK _ ?_⟩
        | (refine ⟨?_, hK _ ?_⟩
           · first | (clear hK; grind) | (intros; simp_all; done))
        | (refine ⟨?_, ?_, hK _ ?_⟩
           · first | (clear hK; grind) | (intros; simp_all; done)
           · first | (clear hK; grind) | (intros; simp_all; done))
        | refine ⟨by omega, by omega, hK _ ?_⟩
      clear hK K
      refine SW.ret ?_
      simp [Ex.then, Ex.inBlock]
      first | (rw [hres]; done) | (rw [hres]; rfl) | fail)
    rotate_right
    case' _ =>
     intro hb2
     have hres : caseR e x = canSend c := by rw [hres0, if_pos (by simpa using hb2)]
     first
     | (exfalso; simp at hb2; done)
     | (exfalso; simp at hb2; omega)
     | (
      refine SW.regionK fun K hK => ?_
      simp -implicitDefEqProofs [hxc, hg, hgE, hlt]
      first | refine ⟨by omega, by omega, ?_⟩ | refine ⟨by omega, ?_⟩ | skip
      refine CallK.fzE (canSend_i c hco) (by simp) ?_
      simp -implicitDefEqProofs [hxc, hg, hgE, hlt]
      first
        | refine hK _ ?_
        | refine ⟨by omega, hK _ ?_⟩
        | (refine ⟨?_, hK _ ?_⟩
           · first | (clear hK; grind) | (intros; simp_all; done))
        | (refine ⟨?_, ?_, hK _ ?_⟩
           · first | (clear hK; grind) | (intros; simp_all; done)
           · first | (clear hK; grind) | (intros; simp_all; done))
        | refine ⟨by omega, by omega, hK _ ?_⟩
      clear hK K
      refine SW.ret ?_
      simp [Ex.then, Ex.inBlock]
      first | (rw [hres]; done) | (rw [hres]; rfl) | fail))
  rotate_right
  case' _ =>
   intro hb1
   have hres : caseR e x = false := by
     unfold caseR
     by_cases h0 : 0 ≤ x.chan
     · have : e.chans.length ≤ x.chan.toNat := by simp at hb1; omega
       rw [if_pos h0, List.getElem?_eq_none this]
     · rw [if_neg h0]
   first
   | (exfalso; simp at hb1; done)
   | (exfalso; simp at hb1; omega)
   | (
    refine SW.regionK fun K hK => ?_
    simp -implicitDefEqProofs
    first
      | refine hK _ ?_
      | refine ⟨by omega, hK _ ?_⟩
      | (refine ⟨?_, hK _ ?_⟩
         · first | (clear hK; grind) | (intros; simp_all; done))
      | (refine ⟨?_, ?_, hK _ ?_⟩
         · first | (clear hK; grind) | (intros; simp_all; done)
         · first | (clear hK; grind) | (intros; simp_all; done))
      | refine ⟨by omega, by omega, hK _ ?_⟩
    clear hK K
    refine SW.ret ?_
    simp [Ex.then, Ex.inBlock]
    first | (rw [hres]; done) | (rw [hres]; rfl) | fail)
set_option maxHeartbeats 1000000 in
theorem law_caseReady (a : Eng) (x : Case) (fa : a.fit) : Fn Try.prog 4 [.agg a.fr, .agg x.cl] (.bool true) := by
  refine Fn.intro Try.func4 (by decide) rfl (rs := [.tmp 4]) rfl Try.ntmps4 (by simp) ?_
  have q1 := szR_cases a.sz 1048576
  refine SW.regionK fun K hK => ?_
  simp -implicitDefEqProofs
  first | refine hK _ ?_ | refine ⟨by omega, hK _ ?_⟩ | refine ⟨by omega, by omega, hK _ ?_⟩
  clear hK K
  refine SW.regionK fun K hK => ?_
  simp -implicitDefEqProofs
  first | refine hK _ ?_ | refine ⟨by omega, hK _ ?_⟩ | refine ⟨by omega, by omega, hK _ ?_⟩
  clear hK K
  refine SW.regionK fun K hK => ?_
  simp -implicitDefEqProofs
  first | refine ⟨by omega, by omega, ?_⟩ | refine ⟨by omega, ?_⟩ | skip
  refine CallK.fzE (szEng_ok a 1048576 fa (by omega) (by omega)) (by simp) ?_
  simp -implicitDefEqProofs
  first | refine hK _ ?_ | refine ⟨by omega, hK _ ?_⟩ | refine ⟨by omega, by omega, hK _ ?_⟩
  clear hK K
  refine SW.seqK fun K1 hK1 => ?_
  refine SW.regionK fun K hK => ?_
  simp -implicitDefEqProofs
  first | refine hK _ ?_ | refine ⟨by omega, hK _ ?_⟩ | refine ⟨by omega, by omega, hK _ ?_⟩
  clear hK K
  refine SW.cond _ rfl (by simp) ?_ ?_
  case' refine_2 =>
   intro hb1
   first
   | (exfalso; simp at hb1; done)
   | (exfalso; simp at hb1; omega)
   | (
    have n1 : 0 ≤ szR a.sz 1048576 := by simp at hb1; omega
    have ha : a.ok := Eng.sz_ok (by omega)
    refine SW.skip ?_
    refine hK1 _ ?_
    refine SW.drawK mixed [.q [(0, false), (1, false), (2, false), (3, false), (4, false), (5, false)]] (by kernel_rfl) rfl fun K hK => ?_
    simp -implicitDefEqProofs
    first | refine ⟨by omega, by omega, ?_⟩ | refine ⟨by omega, ?_⟩ | skip
    first
      | refine CallQ.fzE (toEng_ok a ha) (by simp) ?_
      | refine CallK.fzE (toEng_ok a ha) (by simp) ?_
    simp -implicitDefEqProofs
    first | refine ⟨by omega, by omega, ?_⟩ | refine ⟨by omega, ?_⟩ | skip
    first
      | refine CallQ.fzE (toCase_ok x) (by simp) ?_
      | refine CallK.fzE (toCase_ok x) (by simp) ?_
    simp -implicitDefEqProofs
    first | refine ⟨by omega, by omega, ?_⟩ | refine ⟨by omega, ?_⟩ | skip
    first
      | refine CallQ.fzE (caseReady_s a x ha) (by simp) ?_
      | refine CallK.fzE (caseReady_s a x ha) (by simp) ?_
    simp -implicitDefEqProofs
    first | refine hK _ ?_ | refine ⟨by omega, hK _ ?_⟩ | refine ⟨by omega, by omega, hK _ ?_⟩
    clear hK K
    refine SW.regionK fun K hK => ?_
    simp -implicitDefEqProofs
    first | refine ⟨by omega, by omega, ?_⟩ | refine ⟨by omega, ?_⟩ | skip
    refine CallK.imE (toEng_ok a ha) (by simp) (Eng_oI a) ?_
    simp -implicitDefEqProofs
    first | refine hK _ ?_ | refine ⟨by omega, hK _ ?_⟩ | refine ⟨by omega, by omega, hK _ ?_⟩
    clear hK K
    refine SW.drawK mixed [.q [(0, false), (1, false), (2, false), (3, false), (4, false)]] (by kernel_rfl) rfl fun K hK => ?_
    simp -implicitDefEqProofs
    first | refine ⟨by omega, by omega, ?_⟩ | refine ⟨by omega, ?_⟩ | skip
    first
      | refine CallQ.fzE (toCase_ok x) (by simp) ?_
      | refine CallK.fzE (toCase_ok x) (by simp) ?_
    simp -implicitDefEqProofs
    first | refine ⟨by omega, by omega, ?_⟩ | refine ⟨by omega, ?_⟩ | skip
    first
      | refine CallQ.fzE (caseReady_i a x ha) (by simp) ?_
      | refine CallK.fzE (caseReady_i a x ha) (by simp) ?_
    simp -implicitDefEqProofs
    first | refine hK _ ?_ | refine ⟨by omega, hK _ ?_⟩ | refine ⟨by omega, by omega, hK _ ?_⟩
    clear hK K
    refine SW.seqK fun K2 hK2 => ?_
    refine SW.regionK fun K hK => ?_
    simp -implicitDefEqProofs
    first | refine hK _ ?_ | refine ⟨by omega, hK _ ?_⟩ | refine ⟨by omega, by omega, hK _ ?_⟩
    clear hK K
    refine SW.cond _ rfl (by simp) ?_ ?_
    case' refine_2 =>
     intro hb2
     first
     | (exfalso; simp at hb2; done)
     | (exfalso; simp at hb2; omega)
     | (
      refine SW.skip ?_
      refine hK2 _ ?_
      refine SW.seqK fun K3 hK3 => ?_
      refine SW.drawK mixed [.q [(0, false), (1, false), (2, false), (3, false), (4, false)]] (by kernel_rfl) rfl fun K hK => ?_
      simp -implicitDefEqProofs
      first | refine ⟨by omega, by omega, ?_⟩ | refine ⟨by omega, ?_⟩ | skip
      first
        | refine CallQ.fzE (toEng_ok a ha) (by simp) ?_
        | refine CallK.fzE (toEng_ok a ha) (by simp) ?_
      simp -implicitDefEqProofs
      first | refine ⟨by omega, by omega, ?_⟩ | refine ⟨by omega, ?_⟩ | skip
      refine CallQ.fzE (eqEng_ok a ha) (by simp) ?_
      simp -implicitDefEqProofs
      first | refine hK _ ?_ | refine ⟨by omega, hK _ ?_⟩ | refine ⟨by omega, by omega, hK _ ?_⟩
      clear hK K
      refine SW.cond _ rfl (by simp) ?_ ?_
      case' refine_2 =>
       intro hb3
       first
       | (exfalso; simp at hb3; done)
       | (exfalso; simp at hb3; omega)
       | (
        refine SW.skip ?_
        refine hK3 _ ?_
        refine SW.regionK fun K hK => ?_
        simp -implicitDefEqProofs
        first | refine hK _ ?_ | refine ⟨by omega, hK _ ?_⟩ | refine ⟨by omega, by omega, hK _ ?_⟩
        clear hK K
        refine SW.ret ?_
        simp [Ex.then, Ex.inBlock])
      rotate_right
      case' _ =>
       intro hb3
       first
       | (exfalso; simp at hb3; done)
       | (exfalso; simp at hb3; omega)
       | (
        refine SW.regionK fun K hK => ?_
        simp -implicitDefEqProofs
        first | refine hK _ ?_ | refine ⟨by omega, hK _ ?_⟩ | refine ⟨by omega, by omega, hK _ ?_⟩
        clear hK K
        refine SW.ret ?_
        simp [Ex.then, Ex.inBlock]))
    rotate_right
    case' _ =>
     intro hb2
     first
     | (exfalso; simp at hb2; done)
     | (exfalso; simp at hb2; omega)
     | (
      refine SW.regionK fun K hK => ?_
      simp -implicitDefEqProofs
      first | refine hK _ ?_ | refine ⟨by omega, hK _ ?_⟩ | refine ⟨by omega, by omega, hK _ ?_⟩
      clear hK K
      refine SW.ret ?_
      simp [Ex.then, Ex.inBlock]))
  rotate_right
  case' _ =>
   intro hb1
   first
   | (exfalso; simp at hb1; done)
   | (exfalso; simp at hb1; omega)
   | (
    refine SW.regionK fun K hK => ?_
    simp -implicitDefEqProofs
    first | refine hK _ ?_ | refine ⟨by omega, hK _ ?_⟩ | refine ⟨by omega, by omega, hK _ ?_⟩
    clear hK K
    refine SW.ret ?_
    simp [Ex.then, Ex.inBlock])
end HT
