import Derived.Test.YtdhoappjadnhcaaGreatG6
/-
  My own texts (road H): HCTB.
-/
set_option maxHeartbeats 8000000
set_option linter.unusedSimpArgs false
set_option linter.unusedVariables false
namespace HT
open Go Go.Proofs HK
theorem chanOk_s (c : Chan) (h : c.ok) : Fn Tryz.prog 184 [.agg c.fr] (.bool (chanOk c)) := by
  refine Fn.intro Tryz.func184 (by decide) rfl (rs := [.tmp 2]) rfl Tryz.ntmps184 (by simp) ?_; have h0 := h
  unfold Chan.ok at h; obtain ⟨b1, b2, b3⟩ := h; refine SW.rc ?_; refine SW.seqK fun K1 hK1 => ?_; refine SW.rg fun K hK => ?_; simp -implicitDefEqProofs; iterate 2 (try refine ⟨by omega, ?_⟩)
  refine CallG.fz (by simp) (fun _ => waiters_s c.sends true (by omega)) ?_; simp -implicitDefEqProofs; iterate 2 (try refine ⟨by omega, ?_⟩)
  refine CallG.fz (by simp) (fun _ => waiters_s c.recvs false (by omega)) ?_; simp -implicitDefEqProofs
  first | refine hK _ ?_ | (refine ⟨?_, hK _ ?_⟩; (first | omega | (clear hK; grind) | (intros; simp_all; done))) | (refine ⟨?_, ?_, hK _ ?_⟩; iterate 2 (first | omega | (clear hK; grind) | (intros; simp_all; done)))
  clear hK K; refine SW.cond _ rfl (by simp) ?_ ?_
  case' refine_1 =>
   intro hb1
   have hpk : chanOk c = false := by
     cases h9 : chanOk c with
     | false => rfl
     | true =>
       exfalso; simp only [chanOk, Bool.and_eq_true] at h9; obtain ⟨⟨⟨⟨⟨a1, a2⟩, a3⟩, a4⟩, a5⟩, a6⟩ := h9; simp [chanHead] at a1; simp only [a2, a3, a4] at hb1; simp at hb1; omega
   refine SW.rc ?_; refine SW.ret ?_; simp [Ex.then, Ex.ib]
   first
     | (rw [hpk]; done)
     | (rw [ht, chanTail, Bool.eq_iff_iff]; simp; done)
     | (rw [ht, chanTail, Bool.eq_iff_iff]; simp; omega)
     | fail
  intro hb1
  have hs : c.sends.all (wOk true) = true := by
    cases h9 : c.sends.all (wOk true) with
    | true => rfl
    | false => exfalso; simp only [h9] at hb1; simp at hb1
  have hr : c.recvs.all (wOk false) = true := by
    cases h9 : c.recvs.all (wOk false) with
    | true => rfl
    | false => exfalso; simp only [h9] at hb1; simp at hb1
  have hh : chanHead c = true := by simp only [hs, hr] at hb1; simp [chanHead]; simp at hb1; omega
  refine SW.skip ?_; refine hK1 _ ?_; refine SW.seqK fun K2 hK2 => ?_; refine SW.rc ?_; refine SW.block ?_
  refine SW.loop (α := Nat) (fun k => ⟨[(36, .int .i64 k), (35, .int .i64 c.buf.length), (34, .fz (IntS c.buf)), (1, .ptr 0 0 0)], [some ⟨5, [c.fr]⟩]⟩) (fun k => k ≤ c.buf.length ∧ (c.buf.take k).all valOk = true) (fun k => c.buf.length - k) (0) ?_ ?_ (fun k hx => ?_)
  case' refine_1 =>
   simp
  case' refine_2 =>
   exact Wk.cut (by simp) (by simp [subE]) (by simp [cutH]) (by simp [lowE, lowN]) (by simp)
  case' refine_3 =>
   skip
   refine SW.rc ?_; refine SW.seqK fun K3 hK3 => ?_; refine SW.cond _ rfl (by simp) ?_ ?_
   case' refine_1 =>
    intro hb2; have hlt : k < c.buf.length := by simp at hb2; omega
    obtain ⟨x, hxk⟩ : ∃ x, c.buf[k]? = some x := ⟨_, List.getElem?_eq_getElem hlt⟩
    refine SW.skip ?_; refine hK3 _ ?_; refine SW.seqK fun K5 hK5 => ?_; refine SW.block ?_; refine SW.rg fun K hK => ?_; simp -implicitDefEqProofs [hxk]
    first | refine hK _ ?_ | (refine ⟨?_, hK _ ?_⟩; (first | omega | (clear hK; grind) | (intros; simp_all; done))) | (refine ⟨?_, ?_, hK _ ?_⟩; iterate 2 (first | omega | (clear hK; grind) | (intros; simp_all; done)))
    clear hK K; refine SW.rg fun K hK => ?_; simp -implicitDefEqProofs; iterate 2 (try refine ⟨by omega, ?_⟩)
    refine CallK.fz (val_s _) ?_; simp -implicitDefEqProofs
    first | refine hK _ ?_ | (refine ⟨?_, hK _ ?_⟩; (first | omega | (clear hK; grind) | (intros; simp_all; done))) | (refine ⟨?_, ?_, hK _ ?_⟩; iterate 2 (first | omega | (clear hK; grind) | (intros; simp_all; done)))
    clear hK K; refine SW.cond _ rfl (by simp) ?_ ?_
    case' refine_1 =>
     intro hb4; have hf := all_false (p := valOk) hxk (by simpa using hb4)
     have hpk : chanOk c = false := by rw [chanOk, hf]; simp
     refine SW.rc ?_; refine SW.ret ?_; simp [Ex.then, Ex.ib]
     first
       | (rw [hpk]; done)
       | (rw [ht, chanTail, Bool.eq_iff_iff]; simp; done)
       | (rw [ht, chanTail, Bool.eq_iff_iff]; simp; omega)
       | fail
    intro hb4; have hf : valOk x = true := by simpa using hb4
    refine SW.skip ?_; refine hK5 _ ?_; refine SW.ec ?_; refine ⟨k + 1, ⟨by omega, all_next hxk hx.2 hf⟩, by omega, ?_⟩; exact Wk.cut (by simp) (by simp [subE, wrap1 k (by omega)]) (by simp [cutH]) (by simp [lowE, lowN]) (by simp)
   intro hb2; have hk : k = c.buf.length := by simp at hb2; omega
   subst hk; have hbuf := all_take hx.2
   refine SW.exit ?_; simp only [Ex.then, Ex.ib]; try simp only [if_true, if_false, reduceIte]
   refine hK2 _ ?_; refine SW.seqK fun K4 hK4 => ?_; refine SW.rc ?_; refine SW.cond _ rfl (by simp) ?_ ?_
   case' refine_1 =>
    intro hb3; have hmid : chanMid c = true := by unfold chanMid; exact hb3
    have hpk : chanOk c = false := by simp [chanOk, hmid]
    refine SW.rc ?_; refine SW.ret ?_; simp [Ex.then, Ex.ib]
    first
      | (rw [hpk]; done)
      | (rw [ht, chanTail, Bool.eq_iff_iff]; simp; done)
      | (rw [ht, chanTail, Bool.eq_iff_iff]; simp; omega)
      | fail
   intro hb3; have hmid : chanMid c = false := by unfold chanMid; exact hb3
   have ht : chanOk c = chanTail c := by rw [chanOk, hh, hbuf, hs, hr, hmid]; rfl
   refine SW.skip ?_; refine hK4 _ ?_; refine SW.rc ?_; refine SW.ret ?_; simp [Ex.then, Ex.ib]
   first
     | (rw [hpk]; done)
     | (rw [ht, chanTail, Bool.eq_iff_iff]; simp; done)
     | (rw [ht, chanTail, Bool.eq_iff_iff]; simp; omega)
     | fail
theorem chanOk_i (c : Chan) (h : c.ok) : Fn Tryz.prog 124 [.agg c.fr] (.bool (chanOk c)) := by
  refine Fn.intro Tryz.func124 (by decide) rfl (rs := [.tmp 2]) rfl Tryz.ntmps124 (by simp) ?_; have h0 := h
  unfold Chan.ok at h; obtain ⟨b1, b2, b3⟩ := h; refine SW.rc ?_; refine SW.seqK fun K1 hK1 => ?_; refine SW.rg fun K hK => ?_; simp -implicitDefEqProofs; iterate 2 (try refine ⟨by omega, ?_⟩)
  refine CallG.fz (by simp) (fun _ => contV_ok c.buf (by omega)) ?_; simp -implicitDefEqProofs
  first | refine hK _ ?_ | (refine ⟨?_, hK _ ?_⟩; (first | omega | (clear hK; grind) | (intros; simp_all; done))) | (refine ⟨?_, ?_, hK _ ?_⟩; iterate 2 (first | omega | (clear hK; grind) | (intros; simp_all; done)))
  clear hK K; refine SW.cond _ rfl (by simp) ?_ ?_
  case' refine_1 =>
   intro hb1
   have hpk : chanOk c = false := by
     cases h9 : chanOk c with
     | false => rfl
     | true =>
       exfalso; simp only [chanOk, Bool.and_eq_true] at h9; obtain ⟨⟨⟨⟨⟨a1, a2⟩, a3⟩, a4⟩, a5⟩, a6⟩ := h9; simp [chanHead] at a1; simp only [a2, a3, a4] at hb1; simp at hb1; omega
   refine SW.rc ?_; refine SW.ret ?_; simp [Ex.then, Ex.ib]
   first
     | (rw [hpk]; done)
     | (rw [ht, chanTail, Bool.eq_iff_iff]; simp; done)
     | (rw [ht, chanTail, Bool.eq_iff_iff]; simp; omega)
     | fail
  intro hb1
  have hbuf : c.buf.all valOk = true := by
    cases h9 : c.buf.all valOk with
    | true => rfl
    | false => exfalso; simp only [h9] at hb1; simp at hb1
  have hh : chanHead c = true := by simp only [hbuf] at hb1; simp [chanHead]; simp at hb1; omega
  refine SW.skip ?_; refine hK1 _ ?_; refine SW.seqK fun K2 hK2 => ?_; refine SW.rc ?_; refine SW.block ?_
  refine SW.loop (α := Nat) (fun k => ⟨[(31, .int .i64 k), (30, .int .i64 c.sends.length), (29, .fz (WaiterS c.sends)), (1, .ptr 0 0 0)], [some ⟨5, [c.fr]⟩]⟩) (fun k => k ≤ c.sends.length ∧ (c.sends.take k).all (wOk true) = true) (fun k => c.sends.length - k) (0) ?_ ?_ (fun k hx => ?_)
  case' refine_1 =>
   simp
  case' refine_2 =>
   exact Wk.cut (by simp) (by simp [subE]) (by simp [cutH]) (by simp [lowE, lowN]) (by simp)
  case' refine_3 =>
   skip
   refine SW.rc ?_; refine SW.seqK fun K3 hK3 => ?_; refine SW.cond _ rfl (by simp) ?_ ?_
   case' refine_1 =>
    intro hb2; have hlt : k < c.sends.length := by simp at hb2; omega
    obtain ⟨x, hxk⟩ : ∃ x, c.sends[k]? = some x := ⟨_, List.getElem?_eq_getElem hlt⟩
    refine SW.skip ?_; refine hK3 _ ?_; refine SW.seqK fun K8 hK8 => ?_; refine SW.block ?_; refine SW.rg fun K hK => ?_; simp -implicitDefEqProofs [hxk]
    first | refine hK _ ?_ | (refine ⟨?_, hK _ ?_⟩; (first | omega | (clear hK; grind) | (intros; simp_all; done))) | (refine ⟨?_, ?_, hK _ ?_⟩; iterate 2 (first | omega | (clear hK; grind) | (intros; simp_all; done)))
    clear hK K; refine SW.rg fun K hK => ?_; simp -implicitDefEqProofs; iterate 2 (try refine ⟨by omega, ?_⟩)
    refine CallK.fz (waiter_i x) ?_; simp -implicitDefEqProofs
    first | refine hK _ ?_ | (refine ⟨?_, hK _ ?_⟩; (first | omega | (clear hK; grind) | (intros; simp_all; done))) | (refine ⟨?_, ?_, hK _ ?_⟩; iterate 2 (first | omega | (clear hK; grind) | (intros; simp_all; done)))
    clear hK K; refine SW.cond _ rfl (by simp) ?_ ?_
    case' refine_1 =>
     intro hb6; have hf := all_false (p := wOk true) hxk (by simpa using hb6)
     have hpk : chanOk c = false := by rw [chanOk, hf]; simp
     refine SW.rc ?_; refine SW.ret ?_; simp [Ex.then, Ex.ib]
     first
       | (rw [hpk]; done)
       | (rw [ht, chanTail, Bool.eq_iff_iff]; simp; done)
       | (rw [ht, chanTail, Bool.eq_iff_iff]; simp; omega)
       | fail
    intro hb6; have hf : wOk true x = true := by simpa using hb6
    refine SW.skip ?_; refine hK8 _ ?_; refine SW.ec ?_; refine ⟨k + 1, ⟨by omega, all_next hxk hx.2 hf⟩, by omega, ?_⟩; exact Wk.cut (by simp) (by simp [subE, wrap1 k (by omega)]) (by simp [cutH]) (by simp [lowE, lowN]) (by simp)
   intro hb2; have hk : k = c.sends.length := by simp at hb2; omega
   subst hk; have hs := all_take hx.2
   clear hx; refine SW.exit ?_; simp only [Ex.then, Ex.ib]; try simp only [if_true, if_false, reduceIte]
   refine hK2 _ ?_; refine SW.seqK fun K4 hK4 => ?_; refine SW.rc ?_; refine SW.block ?_
   refine SW.loop (α := Nat) (fun k => ⟨[(42, .int .i64 k), (41, .int .i64 c.recvs.length), (40, .fz (WaiterS c.recvs)), (1, .ptr 0 0 0)], [some ⟨5, [c.fr]⟩]⟩) (fun k => k ≤ c.recvs.length ∧ (c.recvs.take k).all (wOk false) = true) (fun k => c.recvs.length - k) (0) ?_ ?_ (fun k hx => ?_)
   case' refine_1 =>
    simp
   case' refine_2 =>
    exact Wk.cut (by simp) (by simp [subE]) (by simp [cutH]) (by simp [lowE, lowN]) (by simp)
   case' refine_3 =>
    skip
    refine SW.rc ?_; refine SW.seqK fun K5 hK5 => ?_; refine SW.cond _ rfl (by simp) ?_ ?_
    case' refine_1 =>
     intro hb3; have hlt : k < c.recvs.length := by simp at hb3; omega
     obtain ⟨x, hxk⟩ : ∃ x, c.recvs[k]? = some x := ⟨_, List.getElem?_eq_getElem hlt⟩
     refine SW.skip ?_; refine hK5 _ ?_; refine SW.seqK fun K7 hK7 => ?_; refine SW.block ?_; refine SW.rg fun K hK => ?_; simp -implicitDefEqProofs [hxk]
     first | refine hK _ ?_ | (refine ⟨?_, hK _ ?_⟩; (first | omega | (clear hK; grind) | (intros; simp_all; done))) | (refine ⟨?_, ?_, hK _ ?_⟩; iterate 2 (first | omega | (clear hK; grind) | (intros; simp_all; done)))
     clear hK K; refine SW.rg fun K hK => ?_; simp -implicitDefEqProofs; iterate 2 (try refine ⟨by omega, ?_⟩)
     refine CallK.fz (waiter_i x) ?_; simp -implicitDefEqProofs
     first | refine hK _ ?_ | (refine ⟨?_, hK _ ?_⟩; (first | omega | (clear hK; grind) | (intros; simp_all; done))) | (refine ⟨?_, ?_, hK _ ?_⟩; iterate 2 (first | omega | (clear hK; grind) | (intros; simp_all; done)))
     clear hK K; refine SW.cond _ rfl (by simp) ?_ ?_
     case' refine_1 =>
      intro hb5; have hf9 : wOk false x = false := by cases h9 : wOk false x <;> first | rfl | (exfalso; simp [wOk] at h9 hb5; grind)
      have hf := all_false (p := wOk false) hxk hf9
      have hpk : chanOk c = false := by rw [chanOk, hf]; simp
      refine SW.rc ?_; refine SW.ret ?_; simp [Ex.then, Ex.ib]
      first
        | (rw [hpk]; done)
        | (rw [ht, chanTail, Bool.eq_iff_iff]; simp; done)
        | (rw [ht, chanTail, Bool.eq_iff_iff]; simp; omega)
        | fail
     intro hb5; have hf : wOk false x = true := by simp [wOk] at hb5 ⊢; first | omega | grind
     refine SW.skip ?_; refine hK7 _ ?_; refine SW.ec ?_; refine ⟨k + 1, ⟨by omega, all_next hxk hx.2 hf⟩, by omega, ?_⟩; exact Wk.cut (by simp) (by simp [subE, wrap1 k (by omega)]) (by simp [cutH]) (by simp [lowE, lowN]) (by simp)
    intro hb3; have hk : k = c.recvs.length := by simp at hb3; omega
    subst hk; have hr := all_take hx.2
    refine SW.exit ?_; simp only [Ex.then, Ex.ib]; try simp only [if_true, if_false, reduceIte]
    refine hK4 _ ?_; refine SW.seqK fun K6 hK6 => ?_; refine SW.rc ?_; refine SW.cond _ rfl (by simp) ?_ ?_
    case' refine_1 =>
     intro hb4; have he : (((c.buf.length : Nat) : Int) != c.cap) = decide (((c.buf.length : Nat) : Int) < c.cap) := by have h8 := hh; simp [chanHead] at h8; rw [Bool.eq_iff_iff]; simp; omega
     rw [he] at hb4; have hmid : chanMid c = true := by unfold chanMid; exact hb4
     have hpk : chanOk c = false := by simp [chanOk, hmid]
     refine SW.rc ?_; refine SW.ret ?_; simp [Ex.then, Ex.ib]
     first
       | (rw [hpk]; done)
       | (rw [ht, chanTail, Bool.eq_iff_iff]; simp; done)
       | (rw [ht, chanTail, Bool.eq_iff_iff]; simp; omega)
       | fail
    intro hb4; have he : (((c.buf.length : Nat) : Int) != c.cap) = decide (((c.buf.length : Nat) : Int) < c.cap) := by have h8 := hh; simp [chanHead] at h8; rw [Bool.eq_iff_iff]; simp; omega
    rw [he] at hb4; have hmid : chanMid c = false := by unfold chanMid; exact hb4
    have ht : chanOk c = chanTail c := by rw [chanOk, hh, hbuf, hs, hr, hmid]; rfl
    refine SW.skip ?_; refine hK6 _ ?_; refine SW.rc ?_; refine SW.ret ?_; simp [Ex.then, Ex.ib]
    first
      | (rw [hpk]; done)
      | (rw [ht, chanTail, Bool.eq_iff_iff]; simp; done)
      | (rw [ht, chanTail, Bool.eq_iff_iff]; simp; omega)
      | fail
end HT
