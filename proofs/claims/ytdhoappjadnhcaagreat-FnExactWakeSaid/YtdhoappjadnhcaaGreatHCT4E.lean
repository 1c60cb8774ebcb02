import Derived.Test.YtdhoappjadnhcaaGreatG5
import Derived.Test.YtdhoappjadnhcaaGreatHCT2E
/-
  My own texts (road H): HCT4E.
-/
set_option maxHeartbeats 8000000
set_option linter.unusedSimpArgs false
set_option linter.unusedVariables false
namespace HT
open Go Go.Proofs HK
theorem szWaiterS_ok (l : List Waiter) (m : Int) (h : l.length ≤ maxLen) (h0 : 0 ≤ m) (h1 : m ≤ 1048576) : Fn Tryz.prog 181 [.fz (WaiterS l), .int .i64 m] (.int .i64 (szR l.length m)) := by
  refine Fn.intro Tryz.func181 (by decide) rfl (rs := [.tmp 4]) rfl Tryz.ntmps181 (by simp) ?_; have hm9 : l.length ≤ 2 ^ 63 - 1 := h
  have hw := wrapI (m - (l.length : Int)) (by omega) (by omega)
  have qq := szR_cases l.length m
  refine SW.ra ?_; refine SW.rg fun K hK => ?_; simp -implicitDefEqProofs [hw]; repeat refine ⟨by omega, ?_⟩
  refine hK _ ?_; clear hK K; refine SW.seqK fun K1 hK1 => ?_; refine SW.ra ?_; refine SW.cond _ rfl (by simp) ?_ ?_
  case' refine_1 =>
   intro hb1; refine SW.ra ?_; refine SW.ret ?_; simp [Ex.then, Ex.ib]
   all_goals (simp at *)
   all_goals omega
  intro hb1; refine SW.skip ?_; refine hK1 _ ?_; refine SW.ra ?_; refine SW.ret ?_; simp [Ex.then, Ex.ib]
  all_goals (simp at *)
  all_goals omega
theorem szChan_ok (d : Chan) (m : Int) (h : d.fit) (h0 : 0 ≤ m) (h1 : m ≤ 1048576) : Fn Tryz.prog 99 [.agg d.fr, .int .i64 m] (.int .i64 (szR d.sz m)) := by
  refine Fn.intro Tryz.func99 (by decide) rfl (rs := [.tmp 4]) rfl Tryz.ntmps99 (by simp) ?_; unfold Chan.fit at h; obtain ⟨b1, b2, b3⟩ := h; refine SW.ra ?_; refine SW.rg fun K hK => ?_; simp -implicitDefEqProofs
  iterate 2 (try refine ⟨by omega, ?_⟩)
  refine CallK.fzE (szIntS_ok d.buf (m) b1 (by omega) (by omega)) (by simp) ?_; simp -implicitDefEqProofs; repeat refine ⟨by omega, ?_⟩
  refine hK _ ?_; clear hK K; refine SW.seqK fun K1 hK1 => ?_; refine SW.ra ?_; refine SW.cond _ rfl (by simp) ?_ ?_
  case' refine_1 =>
   intro hb1; have q0 := szR_cases d.buf.length (m)
   refine SW.ra ?_; refine SW.ret ?_; simp [Ex.then, Ex.ib]
   all_goals (
     have qq := szR_cases d.sz m
     unfold Chan.sz at qq ⊢
     first | (simp at *; done) | (simp at *; omega))
  intro hb1; have q0 := szR_cases d.buf.length (m)
  have n0 : 0 ≤ szR d.buf.length (m) := by simp at hb1; omega
  refine SW.skip ?_; refine hK1 _ ?_; refine SW.rg fun K hK => ?_; simp -implicitDefEqProofs; iterate 2 (try refine ⟨by omega, ?_⟩)
  refine CallK.fzE (szWaiterS_ok d.sends (szR d.buf.length (m)) b2 (by omega) (by omega)) (by simp) ?_; simp -implicitDefEqProofs; repeat refine ⟨by omega, ?_⟩
  refine hK _ ?_; clear hK K; refine SW.seqK fun K2 hK2 => ?_; refine SW.ra ?_; refine SW.cond _ rfl (by simp) ?_ ?_
  case' refine_1 =>
   intro hb2; have q1 := szR_cases d.sends.length (szR d.buf.length (m))
   refine SW.ra ?_; refine SW.ret ?_; simp [Ex.then, Ex.ib]
   all_goals (
     have qq := szR_cases d.sz m
     unfold Chan.sz at qq ⊢
     first | (simp at *; done) | (simp at *; omega))
  intro hb2; have q1 := szR_cases d.sends.length (szR d.buf.length (m))
  have n1 : 0 ≤ szR d.sends.length (szR d.buf.length (m)) := by simp at hb2; omega
  refine SW.skip ?_; refine hK2 _ ?_; refine SW.rg fun K hK => ?_; simp -implicitDefEqProofs; iterate 2 (try refine ⟨by omega, ?_⟩)
  refine CallK.fzE (szWaiterS_ok d.recvs (szR d.sends.length (szR d.buf.length (m))) b3 (by omega) (by omega)) (by simp) ?_; simp -implicitDefEqProofs; repeat refine ⟨by omega, ?_⟩
  refine hK _ ?_; clear hK K; refine SW.seqK fun K3 hK3 => ?_; refine SW.ra ?_; refine SW.cond _ rfl (by simp) ?_ ?_
  case' refine_1 =>
   intro hb3; have q2 := szR_cases d.recvs.length (szR d.sends.length (szR d.buf.length (m)))
   refine SW.ra ?_; refine SW.ret ?_; simp [Ex.then, Ex.ib]
   all_goals (
     have qq := szR_cases d.sz m
     unfold Chan.sz at qq ⊢
     first | (simp at *; done) | (simp at *; omega))
  intro hb3; have q2 := szR_cases d.recvs.length (szR d.sends.length (szR d.buf.length (m)))
  have n2 : 0 ≤ szR d.recvs.length (szR d.sends.length (szR d.buf.length (m))) := by simp at hb3; omega
  refine SW.skip ?_; refine hK3 _ ?_; refine SW.ra ?_; refine SW.ret ?_; simp [Ex.then, Ex.ib]
  all_goals (
    have qq := szR_cases d.sz m
    unfold Chan.sz at qq ⊢
    first | (simp at *; done) | (simp at *; omega))
theorem szChanS_ok (l : List Chan) (m : Int) (hh : l.length ≤ maxLen ∧ ∀ x ∈ l, x.fit) (h0 : 0 ≤ m) (h1 : m ≤ 1048576) : Fn Tryz.prog 42 [.fz (ChanSf l), .int .i64 m] (.int .i64 (szR (szL Chan.sz l) m)) := by
  refine Fn.intro Tryz.func42 (by decide) rfl (rs := [.tmp 4]) rfl Tryz.ntmps42 (by simp) ?_; obtain ⟨h, hf⟩ := hh; have hm9 : l.length ≤ 2 ^ 63 - 1 := h
  have hw := wrapI (m - (l.length : Int)) (by omega) (by omega)
  have qq := szR_cases (szL Chan.sz l) m
  have hL : szL Chan.sz l = l.length + (l.map Chan.sz).sum := rfl
  refine SW.ra ?_; refine SW.rg fun K hK => ?_; simp -implicitDefEqProofs [hw]; repeat refine ⟨by omega, ?_⟩
  refine hK _ ?_; clear hK K; refine SW.seqK fun K1 hK1 => ?_; refine SW.ra ?_; refine SW.cond _ rfl (by simp) ?_ ?_
  case' refine_1 =>
   intro hb1; refine SW.ra ?_; refine SW.ret ?_; simp [Ex.then, Ex.ib]
   first
     | (simp at hb3; omega)
     | (simp at hb1; omega)
     | omega
  intro hb1; refine SW.skip ?_; refine hK1 _ ?_; refine SW.seqK fun K2 hK2 => ?_; refine SW.ra ?_; refine SW.block ?_
  refine SW.loop (α := Nat × Nat) (fun x => ⟨[(5, .int .i64 (x.1 : Nat)), (1, .int .i64 (m - (x.2 : Int))), (0, .fz (ChanSf l))], []⟩) (fun x => x.1 ≤ l.length ∧ x.2 = l.length + ((l.take x.1).map Chan.sz).sum ∧ (x.2 : Int) ≤ m) (fun x => l.length - x.1) ((0, l.length)) ?_ ?_ (fun x hx => ?_)
  case' refine_1 =>
   exact ⟨by simp, by simp, by simp at hb1; simp only []; omega⟩
  case' refine_2 =>
   exact Wk.cut (by simp) (by simp [subE]) (by simp [cutH]) (by simp [lowE, lowN]) (by simp)
  case' refine_3 =>
   obtain ⟨k, A⟩ := x; simp only [] at hx; obtain ⟨hk, hA, hm3⟩ := hx; simp only []; refine SW.seqK fun K3 hK3 => ?_; refine SW.ra ?_; refine SW.cond _ rfl (by simp) ?_ ?_
   case' refine_1 =>
    intro hb2; have hlt : k < l.length := by simp at hb2; omega
    obtain ⟨x, hxk⟩ : ∃ x, l[k]? = some x := ⟨_, List.getElem?_eq_getElem hlt⟩
    have hxm := List.mem_of_getElem? hxk
    have hst := szL_take (f := Chan.sz) hxk
    have htot := sum_take Chan.sz l (k + 1)
    have hq := szR_cases x.sz (m - (A : Int))
    refine SW.skip ?_; refine hK3 _ ?_; refine SW.seqK fun K4 hK4 => ?_; refine SW.block ?_; refine SW.rg fun K hK => ?_; simp -implicitDefEqProofs [hxk]; iterate 2 (try refine ⟨by omega, ?_⟩)
    refine CallK.fzE (szChan_ok x (m - (A : Int)) (hf x hxm) (by omega) (by omega)) (by simp) ?_; simp -implicitDefEqProofs [hxk]; repeat refine ⟨by omega, ?_⟩
    refine hK _ ?_; clear hK K; refine SW.ra ?_; refine SW.cond _ rfl (by simp) ?_ ?_
    case' refine_1 =>
     intro hb3; refine SW.ra ?_; refine SW.ret ?_; simp [Ex.then, Ex.ib]
     first
       | (simp at hb3; omega)
       | (simp at hb1; omega)
       | omega
    intro hb3; have hq2 : szR x.sz (m - (A : Int)) = m - (A : Int) - (x.sz : Int) := by simp at hb3; omega
    refine SW.skip ?_; refine hK4 _ ?_; refine SW.ea ?_; refine ⟨(k + 1, A + x.sz), ⟨by simp only []; omega, by simp only []; rw [hst]; omega, by simp only []; simp at hb3; omega⟩, by simp only []; omega, ?_⟩
    exact Wk.cut (by simp) (by simp [subE, wrap1 k (by omega), hq2]; omega) (by simp [cutH]) (by simp [lowE, lowN]) (by simp)
   intro hb2; have hk : k = l.length := by simp at hb2; omega
   subst hk; rw [List.take_length] at hA; refine SW.exit ?_; simp only [Ex.then, Ex.ib]; try simp only [if_true, if_false, reduceIte]
   refine hK2 _ ?_; refine SW.ra ?_; refine SW.ret ?_; simp [Ex.then, Ex.ib]
   first
     | (simp at hb3; omega)
     | (simp at hb1; omega)
     | omega
theorem szMutex_ok (d : Mutex) (m : Int) (h : d.fit) (h0 : 0 ≤ m) (h1 : m ≤ 1048576) : Fn Tryz.prog 100 [.agg d.fr, .int .i64 m] (.int .i64 (szR d.sz m)) := by
  refine Fn.intro Tryz.func100 (by decide) rfl (rs := [.tmp 4]) rfl Tryz.ntmps100 (by simp) ?_; unfold Mutex.fit at h; have b1 := h
  refine SW.ra ?_; refine SW.rg fun K hK => ?_; simp -implicitDefEqProofs; iterate 2 (try refine ⟨by omega, ?_⟩)
  refine CallK.fzE (szIntS_ok d.wait (m) b1 (by omega) (by omega)) (by simp) ?_; simp -implicitDefEqProofs; repeat refine ⟨by omega, ?_⟩
  refine hK _ ?_; clear hK K; refine SW.seqK fun K1 hK1 => ?_; refine SW.ra ?_; refine SW.cond _ rfl (by simp) ?_ ?_
  case' refine_1 =>
   intro hb1; have q0 := szR_cases d.wait.length (m)
   refine SW.ra ?_; refine SW.ret ?_; simp [Ex.then, Ex.ib]
   all_goals (
     have qq := szR_cases d.sz m
     unfold Mutex.sz at qq ⊢
     first | (simp at *; done) | (simp at *; omega))
  intro hb1; have q0 := szR_cases d.wait.length (m)
  have n0 : 0 ≤ szR d.wait.length (m) := by simp at hb1; omega
  refine SW.skip ?_; refine hK1 _ ?_; refine SW.ra ?_; refine SW.ret ?_; simp [Ex.then, Ex.ib]
  all_goals (
    have qq := szR_cases d.sz m
    unfold Mutex.sz at qq ⊢
    first | (simp at *; done) | (simp at *; omega))
theorem szMutexS_ok (l : List Mutex) (m : Int) (hh : l.length ≤ maxLen ∧ ∀ x ∈ l, x.fit) (h0 : 0 ≤ m) (h1 : m ≤ 1048576) : Fn Tryz.prog 43 [.fz (MutexSf l), .int .i64 m] (.int .i64 (szR (szL Mutex.sz l) m)) := by
  refine Fn.intro Tryz.func43 (by decide) rfl (rs := [.tmp 4]) rfl Tryz.ntmps43 (by simp) ?_; obtain ⟨h, hf⟩ := hh; have hm9 : l.length ≤ 2 ^ 63 - 1 := h
  have hw := wrapI (m - (l.length : Int)) (by omega) (by omega)
  have qq := szR_cases (szL Mutex.sz l) m
  have hL : szL Mutex.sz l = l.length + (l.map Mutex.sz).sum := rfl
  refine SW.ra ?_; refine SW.rg fun K hK => ?_; simp -implicitDefEqProofs [hw]; repeat refine ⟨by omega, ?_⟩
  refine hK _ ?_; clear hK K; refine SW.seqK fun K1 hK1 => ?_; refine SW.ra ?_; refine SW.cond _ rfl (by simp) ?_ ?_
  case' refine_1 =>
   intro hb1; refine SW.ra ?_; refine SW.ret ?_; simp [Ex.then, Ex.ib]
   first
     | (simp at hb3; omega)
     | (simp at hb1; omega)
     | omega
  intro hb1; refine SW.skip ?_; refine hK1 _ ?_; refine SW.seqK fun K2 hK2 => ?_; refine SW.ra ?_; refine SW.block ?_
  refine SW.loop (α := Nat × Nat) (fun x => ⟨[(5, .int .i64 (x.1 : Nat)), (1, .int .i64 (m - (x.2 : Int))), (0, .fz (MutexSf l))], []⟩) (fun x => x.1 ≤ l.length ∧ x.2 = l.length + ((l.take x.1).map Mutex.sz).sum ∧ (x.2 : Int) ≤ m) (fun x => l.length - x.1) ((0, l.length)) ?_ ?_ (fun x hx => ?_)
  case' refine_1 =>
   exact ⟨by simp, by simp, by simp at hb1; simp only []; omega⟩
  case' refine_2 =>
   exact Wk.cut (by simp) (by simp [subE]) (by simp [cutH]) (by simp [lowE, lowN]) (by simp)
  case' refine_3 =>
   obtain ⟨k, A⟩ := x; simp only [] at hx; obtain ⟨hk, hA, hm3⟩ := hx; simp only []; refine SW.seqK fun K3 hK3 => ?_; refine SW.ra ?_; refine SW.cond _ rfl (by simp) ?_ ?_
   case' refine_1 =>
    intro hb2; have hlt : k < l.length := by simp at hb2; omega
    obtain ⟨x, hxk⟩ : ∃ x, l[k]? = some x := ⟨_, List.getElem?_eq_getElem hlt⟩
    have hxm := List.mem_of_getElem? hxk
    have hst := szL_take (f := Mutex.sz) hxk
    have htot := sum_take Mutex.sz l (k + 1)
    have hq := szR_cases x.sz (m - (A : Int))
    refine SW.skip ?_; refine hK3 _ ?_; refine SW.seqK fun K4 hK4 => ?_; refine SW.block ?_; refine SW.rg fun K hK => ?_; simp -implicitDefEqProofs [hxk]; iterate 2 (try refine ⟨by omega, ?_⟩)
    refine CallK.fzE (szMutex_ok x (m - (A : Int)) (hf x hxm) (by omega) (by omega)) (by simp) ?_; simp -implicitDefEqProofs [hxk]; repeat refine ⟨by omega, ?_⟩
    refine hK _ ?_; clear hK K; refine SW.ra ?_; refine SW.cond _ rfl (by simp) ?_ ?_
    case' refine_1 =>
     intro hb3; refine SW.ra ?_; refine SW.ret ?_; simp [Ex.then, Ex.ib]
     first
       | (simp at hb3; omega)
       | (simp at hb1; omega)
       | omega
    intro hb3; have hq2 : szR x.sz (m - (A : Int)) = m - (A : Int) - (x.sz : Int) := by simp at hb3; omega
    refine SW.skip ?_; refine hK4 _ ?_; refine SW.ea ?_; refine ⟨(k + 1, A + x.sz), ⟨by simp only []; omega, by simp only []; rw [hst]; omega, by simp only []; simp at hb3; omega⟩, by simp only []; omega, ?_⟩
    exact Wk.cut (by simp) (by simp [subE, wrap1 k (by omega), hq2]; omega) (by simp [cutH]) (by simp [lowE, lowN]) (by simp)
   intro hb2; have hk : k = l.length := by simp at hb2; omega
   subst hk; rw [List.take_length] at hA; refine SW.exit ?_; simp only [Ex.then, Ex.ib]; try simp only [if_true, if_false, reduceIte]
   refine hK2 _ ?_; refine SW.ra ?_; refine SW.ret ?_; simp [Ex.then, Ex.ib]
   first
     | (simp at hb3; omega)
     | (simp at hb1; omega)
     | omega
theorem szEng_ok (d : Eng) (m : Int) (h : d.fit) (h0 : 0 ≤ m) (h1 : m ≤ 1048576) : Fn Tryz.prog 9 [.agg d.fr, .int .i64 m] (.int .i64 (szR d.sz m)) := by
  refine Fn.intro Tryz.func9 (by decide) rfl (rs := [.tmp 4]) rfl Tryz.ntmps9 (by simp) ?_; unfold Eng.fit at h; obtain ⟨b0, c0, b1, c1, b2, c2⟩ := h; refine SW.ra ?_; refine SW.rg fun K hK => ?_; simp -implicitDefEqProofs
  iterate 2 (try refine ⟨by omega, ?_⟩)
  refine CallK.fzE (szGorS_ok d.gs (m) ⟨b0, c0⟩ (by omega) (by omega)) (by simp) ?_; simp -implicitDefEqProofs; repeat refine ⟨by omega, ?_⟩
  refine hK _ ?_; clear hK K; refine SW.seqK fun K1 hK1 => ?_; refine SW.ra ?_; refine SW.cond _ rfl (by simp) ?_ ?_
  case' refine_1 =>
   intro hb1; have q0 := szR_cases (szL Gor.sz d.gs) (m)
   refine SW.ra ?_; refine SW.ret ?_; simp [Ex.then, Ex.ib]
   all_goals (
     have qq := szR_cases d.sz m
     unfold Eng.sz at qq ⊢
     first | (simp at *; done) | (simp at *; omega))
  intro hb1; have q0 := szR_cases (szL Gor.sz d.gs) (m)
  have n0 : 0 ≤ szR (szL Gor.sz d.gs) (m) := by simp at hb1; omega
  refine SW.skip ?_; refine hK1 _ ?_; refine SW.rg fun K hK => ?_; simp -implicitDefEqProofs; iterate 2 (try refine ⟨by omega, ?_⟩)
  refine CallK.fzE (szChanS_ok d.chans (szR (szL Gor.sz d.gs) (m)) ⟨b1, c1⟩ (by omega) (by omega)) (by simp) ?_; simp -implicitDefEqProofs; repeat refine ⟨by omega, ?_⟩
  refine hK _ ?_; clear hK K; refine SW.seqK fun K2 hK2 => ?_; refine SW.ra ?_; refine SW.cond _ rfl (by simp) ?_ ?_
  case' refine_1 =>
   intro hb2; have q1 := szR_cases (szL Chan.sz d.chans) (szR (szL Gor.sz d.gs) (m))
   refine SW.ra ?_; refine SW.ret ?_; simp [Ex.then, Ex.ib]
   all_goals (
     have qq := szR_cases d.sz m
     unfold Eng.sz at qq ⊢
     first | (simp at *; done) | (simp at *; omega))
  intro hb2; have q1 := szR_cases (szL Chan.sz d.chans) (szR (szL Gor.sz d.gs) (m))
  have n1 : 0 ≤ szR (szL Chan.sz d.chans) (szR (szL Gor.sz d.gs) (m)) := by simp at hb2; omega
  refine SW.skip ?_; refine hK2 _ ?_; refine SW.rg fun K hK => ?_; simp -implicitDefEqProofs; iterate 2 (try refine ⟨by omega, ?_⟩)
  refine CallK.fzE (szMutexS_ok d.mus (szR (szL Chan.sz d.chans) (szR (szL Gor.sz d.gs) (m))) ⟨b2, c2⟩ (by omega) (by omega)) (by simp) ?_; simp -implicitDefEqProofs; repeat refine ⟨by omega, ?_⟩
  refine hK _ ?_; clear hK K; refine SW.seqK fun K3 hK3 => ?_; refine SW.ra ?_; refine SW.cond _ rfl (by simp) ?_ ?_
  case' refine_1 =>
   intro hb3; have q2 := szR_cases (szL Mutex.sz d.mus) (szR (szL Chan.sz d.chans) (szR (szL Gor.sz d.gs) (m)))
   refine SW.ra ?_; refine SW.ret ?_; simp [Ex.then, Ex.ib]
   all_goals (
     have qq := szR_cases d.sz m
     unfold Eng.sz at qq ⊢
     first | (simp at *; done) | (simp at *; omega))
  intro hb3; have q2 := szR_cases (szL Mutex.sz d.mus) (szR (szL Chan.sz d.chans) (szR (szL Gor.sz d.gs) (m)))
  have n2 : 0 ≤ szR (szL Mutex.sz d.mus) (szR (szL Chan.sz d.chans) (szR (szL Gor.sz d.gs) (m))) := by simp at hb3; omega
  refine SW.skip ?_; refine hK3 _ ?_; refine SW.ra ?_; refine SW.ret ?_; simp [Ex.then, Ex.ib]
  all_goals (
    have qq := szR_cases d.sz m
    unfold Eng.sz at qq ⊢
    first | (simp at *; done) | (simp at *; omega))
end HT
