import Derived.Test.YtdhoappjadnhcaaGreatHCTX
import Derived.Test.YtdhoappjadnhcaaGreatHCTVE
import Derived.Test.YtdhoappjadnhcaaGreatHCA1
/-
  My own texts (road H): HCA0.
-/
set_option maxHeartbeats 8000000
set_option linter.unusedSimpArgs false
set_option linter.unusedVariables false
namespace HT
open Go Go.Proofs HK
theorem WaiterS_oc {l : List Waiter} {x : List AV} {y : AV} (hx : x ∈ WaiterS l) (hy : y ∈ x) : oc y = true ∧ plain y = true := by
  obtain ⟨d, _, rfl⟩ := List.mem_map.1 hx; simp at hy; rcases hy with rfl | rfl | rfl <;> exact ⟨rfl, rfl⟩
theorem WaiterS_strM (l : List Waiter) : ∀ x ∈ WaiterS l, ∀ y ∈ x, strN 4 y = true := fun x hx y hy => by
  obtain ⟨d, _, rfl⟩ := List.mem_map.1 hx; simp at hy; rcases hy with rfl | rfl | rfl <;> rfl
theorem WaiterS_sh {l : List Waiter} (h : WaiterS l = []) : l = [] := by simpa [WaiterS] using h
theorem MutexSf_sh {l : List Mutex} (h : MutexSf l = []) : l = [] := by simpa [MutexSf] using h
theorem MutexSf_oc {l : List Mutex} {x : List AV} {y : AV} (hx : x ∈ MutexSf l) (hy : y ∈ x) : oc y = true ∧ plain y = true := by
  obtain ⟨d, _, rfl⟩ := List.mem_map.1 hx; simp at hy; rcases hy with rfl | rfl <;> exact ⟨rfl, rfl⟩
theorem cloneW_ok (l : List Waiter) (hl : l.length ≤ 2 ^ 30) : Fn Tryz.prog 206 [.fz (WaiterS l)] (.own 3 (WaiterS l)) := by
  refine Fn.intro Tryz.func206 (by decide) rfl (rs := [.tmp 2]) rfl Tryz.ntmps206 (by simp) ?_; refine SW.ra ?_; refine SW.seqK fun K1 hK1 => ?_; refine SW.regionNil fun K hK => ?_; simp [nilK, elemsN, -Bool.forall_bool]; intro b hbn
  refine hK _ ?_; clear hK K; refine SW.cond _ rfl (by simp) ?_ ?_
  case' refine_2 =>
   intro hb1; refine SW.skip ?_; refine hK1 _ ?_; refine SW.rg fun K hK => ?_; simp -implicitDefEqProofs; refine ⟨⟨fun e he => WaiterS_len he, fun x hx y hy => WaiterS_oc hx hy, by omega⟩, hK _ ?_⟩; clear hK K; refine SW.ret ?_
   simp [Ex.then, Ex.ib, -strN]
   all_goals first | done | rfl | exact ⟨WaiterS_strM _, rfl⟩ | exact WaiterS_strM _ | (intro x hx y hy; exact WaiterS_strM _ x hx y hy) | skip
  rotate_right
  case' _ =>
   intro hb1; have hb2 : b = true := by simpa using hb1
   have hl0 := WaiterS_sh (hbn hb2)
   subst hl0; refine SW.rg fun K hK => ?_; simp -implicitDefEqProofs; refine hK _ (SW.wk (Wk.soft (env' := [(2, .own 3 [])]) (by simp [softE, softV])) ?_); clear hK K; refine SW.ret ?_; simp [Ex.then, Ex.ib, -strN]
   all_goals first | done | rfl | exact ⟨WaiterS_strM _, rfl⟩ | exact WaiterS_strM _ | (intro x hx y hy; exact WaiterS_strM _ x hx y hy) | skip
theorem copyC_s (c : Chan) (hb : c.buf.length ≤ 2 ^ 29) (hs : c.sends.length ≤ 2 ^ 29) (hr : c.recvs.length ≤ 2 ^ 29) : Fn Tryz.prog 114 [.agg c.fr] (.agg c.ow) := by
  refine Fn.intro Tryz.func114 (by decide) rfl (rs := [.cell 2 175]) rfl Tryz.ntmps114 (by simp) ?_; obtain ⟨cap, buf, sends, recvs, closed⟩ := c; simp only [] at hb hs hr; refine SW.ra ?_; refine SW.rg fun K hK => ?_
  simp -implicitDefEqProofs; refine ⟨⟨fun e he => IntS_len he, fun x hx y hy => IntS_oc hx hy, by omega⟩, hK _ ?_⟩; clear hK K; refine SW.rg fun K hK => ?_; simp -implicitDefEqProofs
  refine ⟨⟨fun e he => WaiterS_len he, fun x hx y hy => WaiterS_oc hx hy, by omega⟩, hK _ ?_⟩; clear hK K; refine SW.rg fun K hK => ?_; simp -implicitDefEqProofs
  refine ⟨⟨fun e he => WaiterS_len he, fun x hx y hy => WaiterS_oc hx hy, by omega⟩, hK _ ?_⟩; clear hK K; refine SW.ra ?_; refine SW.ret ?_; simp [Ex.then, Ex.ib, -strN]
  all_goals first
    | done
    | exact ⟨IntS_strM _, WaiterS_strM _, WaiterS_strM _⟩
    | exact ⟨⟨IntS_strM _, WaiterS_strM _, WaiterS_strM _⟩, rfl⟩
    | (simp; done)
    | fail
theorem copyC_i (c : Chan) (hb : c.buf.length ≤ 2 ^ 29) (hs : c.sends.length ≤ 2 ^ 29) (hr : c.recvs.length ≤ 2 ^ 29) : Fn Tryz.prog 129 [.agg c.fr] (.agg c.ow) := by
  refine Fn.intro Tryz.func129 (by decide) rfl (rs := [.cell 2 175]) rfl Tryz.ntmps129 (by simp) ?_; obtain ⟨cap, buf, sends, recvs, closed⟩ := c; simp only [] at hb hs hr; refine SW.ra ?_; refine SW.rg fun K hK => ?_
  simp -implicitDefEqProofs; iterate 2 (try refine ⟨by omega, ?_⟩)
  refine CallK.imE (cloneN_ok buf (by omega)) (by simp) (IntS_okI _) ?_; simp -implicitDefEqProofs; repeat refine ⟨by omega, ?_⟩
  refine hK _ ?_; clear hK K; refine SW.rg fun K hK => ?_; simp -implicitDefEqProofs; iterate 2 (try refine ⟨by omega, ?_⟩)
  refine CallK.imE (cloneW_ok sends (by omega)) (by simp) (WaiterS_okI _) ?_; simp -implicitDefEqProofs; repeat refine ⟨by omega, ?_⟩
  refine hK _ ?_; clear hK K; refine SW.rg fun K hK => ?_; simp -implicitDefEqProofs; iterate 2 (try refine ⟨by omega, ?_⟩)
  refine CallK.imE (cloneW_ok recvs (by omega)) (by simp) (WaiterS_okI _) ?_; simp -implicitDefEqProofs; repeat refine ⟨by omega, ?_⟩
  refine hK _ ?_; clear hK K; refine SW.ra ?_; refine SW.ret ?_; simp [Ex.then, Ex.ib, -strN]
  all_goals first
    | done
    | exact ⟨IntS_strM _, WaiterS_strM _, WaiterS_strM _⟩
    | exact ⟨⟨IntS_strM _, WaiterS_strM _, WaiterS_strM _⟩, rfl⟩
    | (simp; done)
    | fail
theorem copyM_s (m : Mutex) (hw : m.wait.length ≤ 2 ^ 29) : Fn Tryz.prog 115 [.agg m.fr] (.agg m.ow) := by
  refine Fn.intro Tryz.func115 (by decide) rfl (rs := [.cell 2 177]) rfl Tryz.ntmps115 (by simp) ?_; obtain ⟨owner, wait⟩ := m; simp only [] at hw; refine SW.ra ?_; refine SW.rg fun K hK => ?_; simp -implicitDefEqProofs
  refine ⟨⟨fun e he => IntS_len he, fun x hx y hy => IntS_oc hx hy, by omega⟩, hK _ ?_⟩; clear hK K; refine SW.ra ?_; refine SW.ret ?_; simp [Ex.then, Ex.ib, -strN]
  all_goals first
    | done
    | exact IntS_strM _
    | exact ⟨IntS_strM _, rfl⟩
    | (simp; done)
    | fail
theorem cloneM_ok (e : Eng) (hl : e.mus.length ≤ 2 ^ 30) : CallS Tryz.prog 127 [.fz (MutexSf e.mus)] ([some ⟨3, [e.fr]⟩, some ⟨3, [[.nil, .nil, .nil]]⟩]) (fun o h' => o = .sl 2 0 e.mus.length ∧ h' = [some ⟨3, [e.fr]⟩, some ⟨3, [[.nil, .nil, .nil]]⟩, some ⟨2, MutexSf e.mus⟩]) := by
  refine CallS.intro Tryz.func127 (by decide) rfl (rs := [.tmp 2]) rfl Tryz.ntmps127 (by simp) ?_; refine SW.ra ?_; refine SW.seqK fun K1 hK1 => ?_; refine SW.regionNil fun K hK => ?_; simp [nilK, elemsN, -Bool.forall_bool]; intro b hbn
  refine hK _ ?_; clear hK K; refine SW.cond _ rfl (by simp) ?_ ?_
  case' refine_1 =>
   intro hb1; have hb2 : b = true := by simpa using hb1
   have hl0 := MutexSf_sh (hbn hb2)
   refine SW.rg fun K hK => ?_; simp -implicitDefEqProofs; refine hK _ (SW.wk (Wk.nilEnv (env' := []) 2 2 rfl (by simp [subE])) ?_); clear hK K; refine SW.ret ?_; simp [Ex.then, Ex.ib, -strN]
   all_goals first
     | done
     | (simp; done)
     | (rw [hl0]; simp; done)
     | fail
  intro hb1; refine SW.skip ?_; refine hK1 _ ?_; refine SW.rg fun K hK => ?_; simp -implicitDefEqProofs; refine ⟨⟨fun e he => MutexSf_len he, fun x hx y hy => MutexSf_oc hx hy, by omega⟩, hK _ ?_⟩
  refine SW.wk (st' := ⟨[(2, .sl 2 0 e.mus.length)], [some ⟨3, [e.fr]⟩, some ⟨3, [[.nil, .nil, .nil]]⟩, some ⟨2, MutexSf e.mus⟩]⟩) (Wk.ren [0, 1, 3] (by simp) (by intro j hj; match j, hj with | 0, _ => rfl | 1, _ => rfl) (by simp) (by simp) (by simp [renE, renN]) (by simp [renH]) (by simp [lowE, lowN]) (by simp [lowN])) ?_
  clear hK K; refine SW.ret ?_; simp [Ex.then, Ex.ib, -strN]
  all_goals first
    | done
    | (simp; done)
    | (rw [hl0]; simp; done)
    | fail
end HT
