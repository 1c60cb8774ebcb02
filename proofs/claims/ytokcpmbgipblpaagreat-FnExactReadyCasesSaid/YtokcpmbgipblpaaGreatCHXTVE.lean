import Derived.Test.YtokcpmbgipblpaaGreatCG13
import Derived.Test.YtokcpmbgipblpaaGreatCHXTQE
/-
  My own texts (road H): HXTVE.
-/
set_option linter.unusedSimpArgs false
set_option linter.unusedVariables false
namespace HT
open Go Go.Proofs HK
def Eng.tw (d : Eng) : Nat := (d.gs.map Gor.wt).sum + (d.chans.map Chan.wt).sum + (d.mus.map Mutex.wt).sum
set_option maxHeartbeats 1000000 in
theorem mark_Eng0 (d : Eng) (s : Int) (hW : d.tw ≤ 2 ^ 30) (l0 : d.gs.length ≤ 2 ^ 30) (l1 : d.chans.length ≤ 2 ^ 30) (l2 : d.mus.length ≤ 2 ^ 30) (hs : 0 ≤ s) (hs2 : s ≤ 2 ^ 30) : CallS Tryz.prog 26 [.agg [.sl 0 0 d.gs.length, .sl 1 0 d.chans.length, .sl 2 0 d.mus.length], .int .i64 s] ([some ⟨5, GorSo d.gs⟩, some ⟨5, ChanSo d.chans⟩, some ⟨2, MutexSo d.mus⟩]) (fun o h' => o = .int .i64 (s + (d.tw : Int)) ∧ ∃ (m0 : List Gor) (m1 : List Chan) (m2 : List Mutex), h' = [some ⟨5, GorSo m0⟩, some ⟨5, ChanSo m1⟩, some ⟨2, MutexSo m2⟩]) := by
  refine CallS.intro Tryz.func26 (by decide) rfl (rs := [.tmp 4]) rfl Tryz.ntmps26 (by simp) ?_
  have hT : (d.tw : Int) = (((d.gs.map Gor.wt).sum : Nat) : Int) + (((d.chans.map Chan.wt).sum : Nat) : Int) + (((d.mus.map Mutex.wt).sum : Nat) : Int) := by unfold Eng.tw; omega
  unfold Eng.tw at hW; refine SW.rg fun K hK => ?_; simp -implicitDefEqProofs; repeat refine ⟨by omega, ?_⟩
  refine hK _ ?_; clear hK K; refine SW.rg fun K hK => ?_; simp -implicitDefEqProofs; iterate 2 (try refine ⟨by omega, ?_⟩)
  refine CallS.mono (mark_GorS d.gs (s) _ 0 _ rfl (by simp) (by omega) (by omega) (by omega) (by omega)) ?_
  rintro o h' ⟨rfl, m0, hm0, rfl⟩
  simp -implicitDefEqProofs; repeat refine ⟨by omega, ?_⟩
  refine hK _ ?_; clear hK K; refine SW.rg fun K hK => ?_; simp -implicitDefEqProofs; iterate 2 (try refine ⟨by omega, ?_⟩)
  refine CallS.mono (mark_ChanS d.chans (s + (((d.gs.map Gor.wt).sum : Nat) : Int)) _ 1 _ rfl (by simp) (by omega) (by omega) (by omega) (by omega)) ?_
  rintro o h' ⟨rfl, m1, hm1, rfl⟩
  simp -implicitDefEqProofs; repeat refine ⟨by omega, ?_⟩
  refine hK _ ?_; clear hK K; refine SW.rg fun K hK => ?_; simp -implicitDefEqProofs; iterate 2 (try refine ⟨by omega, ?_⟩)
  refine CallS.mono (mark_MutexS d.mus (s + (((d.gs.map Gor.wt).sum : Nat) : Int) + (((d.chans.map Chan.wt).sum : Nat) : Int)) _ 2 _ rfl (by simp) (by omega) (by omega) (by omega) (by omega)) ?_
  rintro o h' ⟨rfl, m2, hm2, rfl⟩
  simp -implicitDefEqProofs; repeat refine ⟨by omega, ?_⟩
  refine hK _ ?_; clear hK K; refine SW.rg fun K hK => ?_; simp -implicitDefEqProofs; repeat refine ⟨by omega, ?_⟩
  refine hK _ ?_; clear hK K
  refine SW.wk (Wk.cut (env' := [(4, .int .i64 (s + (((d.gs.map Gor.wt).sum : Nat) : Int) + (((d.chans.map Chan.wt).sum : Nat) : Int) + (((d.mus.map Mutex.wt).sum : Nat) : Int)))]) (h' := [some ⟨5, GorSo m0⟩, some ⟨5, ChanSo m1⟩, some ⟨2, MutexSo m2⟩]) (by simp) (by simp [subE]) (by simp [cutH]) (by simp [lowE, lowN]) (by simp)) ?_
  refine SW.ret ?_; simp [Ex.then, Ex.ib]; try simp
  exact ⟨by omega, ⟨_, rfl⟩, ⟨_, rfl⟩, ⟨_, rfl⟩⟩
theorem mark_Eng (d : Eng) (s : Int) (H : Heap) (i0 i1 i2 : Nat) (n0 : Nat) (e0 : d.gs.length = n0) (h0 : H[i0]? = some (some ⟨5, GorSo d.gs⟩)) (n1 : Nat) (e1 : d.chans.length = n1) (h1 : H[i1]? = some (some ⟨5, ChanSo d.chans⟩)) (n2 : Nat) (e2 : d.mus.length = n2) (h2 : H[i2]? = some (some ⟨2, MutexSo d.mus⟩)) (hnd : [i0, i1, i2].Nodup) (hW : d.tw ≤ 2 ^ 30) (l0 : d.gs.length ≤ 2 ^ 30) (l1 : d.chans.length ≤ 2 ^ 30) (l2 : d.mus.length ≤ 2 ^ 30) (hs : 0 ≤ s) (hs2 : s ≤ 2 ^ 30) :
    CallS Tryz.prog 26 [.agg [.sl i0 0 n0, .sl i1 0 n1, .sl i2 0 n2], .int .i64 s] H (fun o h' => o = .int .i64 (s + (d.tw : Int)) ∧ ∃ (m0 : List Gor) (m1 : List Chan) (m2 : List Mutex), h' = (((H.set i0 (some ⟨5, GorSo m0⟩)).set i1 (some ⟨5, ChanSo m1⟩)).set i2 (some ⟨2, MutexSo m2⟩))) := by
  subst e0; subst e1; subst e2
  refine CallS.mono (CallS.frame [i0, i1, i2] (mark_Eng0 d s hW l0 l1 l2 hs hs2) (by simp) (by simp [lowN]) hnd (by simp; exact ⟨(List.getElem?_eq_some_iff.1 h0).1, (List.getElem?_eq_some_iff.1 h1).1, (List.getElem?_eq_some_iff.1 h2).1⟩) (by simp [renH, h0, h1, h2]) (by simp) (by simp) ?_) ?_
  · rintro o h' ⟨rfl, m0, m1, m2, rfl⟩
    refine ⟨by simp, ?_, by simp, rfl⟩; intro x hx; simp only [List.mem_cons, List.not_mem_nil, or_false] at hx; rcases hx with rfl | rfl | rfl
    all_goals first | exact IntS_nfz _ _ | exact ItemS_nfz _ _ | exact SelectSo_nfz _ _ | exact ProcSo_nfz _ _ | exact GorSo_nfz _ _ | exact ChanSo_nfz _ _ | exact MutexSo_nfz _ _
  · rintro o h' ⟨o0, h0, ⟨rfl, m0, m1, m2, rfl⟩, rfl, rfl⟩
    exact ⟨by simp, m0, m1, m2, by simp [frameH, merge]⟩
theorem Eng.tw_le (d : Eng) : d.tw ≤ 8 * d.sz := by
  have h1 := wt_le (f := Gor.wt) (g := Gor.sz) (fun x => by simp only [Gor.wt, Gor.sz]; omega) d.gs
  have h2 := wt_le (f := Chan.wt) (g := Chan.sz) (fun x => by simp only [Chan.wt, Chan.sz]; omega) d.chans
  have h3 := wt_le (f := Mutex.wt) (g := Mutex.sz) (fun x => by simp only [Mutex.wt, Mutex.sz]; omega) d.mus
  simp only [Eng.tw, Eng.sz]; omega
end HT
