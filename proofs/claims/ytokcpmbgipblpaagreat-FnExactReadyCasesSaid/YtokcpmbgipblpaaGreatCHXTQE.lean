import Derived.Test.YtokcpmbgipblpaaGreatCG13
/-
  My own texts (road H): HXTQE.
-/
set_option linter.unusedSimpArgs false
set_option linter.unusedVariables false
namespace HT
open Go Go.Proofs HK
def mkWaiter1 (s : Int) : Waiter := ⟨s, s + 1, s + 1 + 1⟩
abbrev mkWaiter (s : Int) (k : Nat) : List Waiter := mkL mkWaiter1 3 s k
theorem WaiterS_setL (l : List Waiter) (k : Nat) (x : Waiter) : (WaiterS l).set k (Waiter.cl x) = WaiterS (l.set k x) := by
  simp [WaiterS, List.map_set]
theorem WaiterS_nfz (n : Nat) (l : List Waiter) : nfzB n (some ⟨3, WaiterS l⟩) = true := by
  simp [nfzB, WaiterS, nfz_int, nfz_bool]
@[simp] theorem WaiterS_renB (ids : List Nat) (l : List Waiter) : renB ids (some ⟨3, WaiterS l⟩) = some ⟨3, WaiterS l⟩ := by
  simp [renB]
@[simp] theorem mkWaiter_take (s : Int) (k : Nat) : List.take k (WaiterS (mkWaiter s k)) = WaiterS (mkWaiter s k) := List.take_of_length_le (by simp)
set_option maxHeartbeats 1000000 in
theorem mark_WaiterS0 (l : List Waiter) (s : Int) (hl : l.length ≤ 2 ^ 40) (hs : 0 ≤ s) (hs2 : s ≤ 2 ^ 50) : CallS Tryz.prog 122 [.sl 0 0 l.length, .int .i64 s] ([some ⟨3, WaiterS l⟩]) (fun o h' => o = .int .i64 (s + 3 * (l.length : Int)) ∧ h' = [some ⟨3, WaiterS (mkWaiter s l.length)⟩]) := by
  refine CallS.intro Tryz.func122 (by decide) rfl (rs := [.tmp 4]) rfl Tryz.ntmps122 (by simp) ?_; refine SW.rg fun K hK => ?_; simp -implicitDefEqProofs; repeat refine ⟨by omega, ?_⟩
  refine hK _ ?_; clear hK K; refine SW.seqK fun K1 hK1 => ?_; refine SW.rg fun K hK => ?_; simp -implicitDefEqProofs; repeat refine ⟨by omega, ?_⟩
  refine hK _ ?_; clear hK K; refine SW.block ?_
  refine SW.loop (α := Nat) (fun k => ⟨[(5, .int .i64 k), (1, .int .i64 (s + 3 * (k : Int))), (0, .sl 0 0 l.length)], [some ⟨3, (WaiterS (mkWaiter s k ++ l.drop k))⟩]⟩) (fun k => k ≤ l.length) (fun k => l.length - k) (0) ?_ ?_ (fun k hx => ?_)
  case' refine_1 =>
   simp
  case' refine_2 =>
   refine Wk.softH (by simp [softE, softV]) (by simp)
  case' refine_3 =>
   skip
   refine SW.seqK fun K2 hK2 => ?_; refine SW.rg fun K hK => ?_; simp -implicitDefEqProofs; repeat refine ⟨by omega, ?_⟩
   refine hK _ ?_; clear hK K; refine SW.cond _ rfl (by simp) ?_ ?_
   case' refine_2 =>
    intro hb1; have hk : k = l.length := by simp at hb1; omega
    refine SW.exit ?_; simp only [Ex.then, Ex.ib]; try simp only [if_true, if_false, reduceIte]
    refine hK1 _ ?_; refine SW.rg fun K hK => ?_; simp -implicitDefEqProofs; repeat refine ⟨by omega, ?_⟩
    refine hK _ ?_; clear hK K; refine SW.ret ?_; simp [Ex.then, Ex.ib]; subst hk; simp
   rotate_right
   case' _ =>
    intro hb1; have hlt : k < l.length := by simp at hb1; omega
    obtain ⟨x, hxk⟩ : ∃ x, l[k]? = some x := ⟨_, List.getElem?_eq_getElem hlt⟩
    have hxm := List.mem_of_getElem? hxk
    have hmid : (WaiterS (mkWaiter s k ++ l.drop k))[k]? = some [.int .i64 x.g, .int .i64 x.cas, .int .i64 x.v] := by rw [WaiterS_get, mkL_mid hxk]; rfl
    have hset : (WaiterS (mkWaiter s k ++ l.drop k)).set k [.int .i64 (s + 3 * (k : Int)), .int .i64 (s + 3 * (k : Int) + 1), .int .i64 (s + 3 * (k : Int) + 1 + 1)] = WaiterS (mkWaiter s (k + 1) ++ l.drop (k + 1)) := by rw [← mkL_set hlt, ← WaiterS_setL]; first | rfl | simp [mkInt1]
    have hss : ∀ v, ((WaiterS (mkWaiter s k ++ l.drop k)).set k v)[k]? = some v := fun v => by rw [List.getElem?_set_self (by simp; omega)]
    have hw1 := wrapI (s + 3 * (k : Int) + 1) (by omega) (by omega)
    have hw2 := wrapI (s + 3 * (k : Int) + 1 + 1) (by omega) (by omega)
    have hw3 := wrapI (s + 3 * (k : Int) + 1 + 1 + 1) (by omega) (by omega)
    refine SW.skip ?_; refine hK2 _ ?_; refine SW.seqK fun K3 hK3 => ?_; refine SW.block ?_; refine SW.rg fun K hK => ?_; simp -implicitDefEqProofs [hmid, hlt, hss, splice]; repeat refine ⟨by omega, ?_⟩
    refine hK _ ?_; clear hK K; refine SW.rg fun K hK => ?_; simp -implicitDefEqProofs [hw1]; repeat refine ⟨by omega, ?_⟩
    refine hK _ ?_; clear hK K; refine SW.rg fun K hK => ?_; simp -implicitDefEqProofs [hmid, hlt, hss, splice]; repeat refine ⟨by omega, ?_⟩
    refine hK _ ?_; clear hK K; refine SW.rg fun K hK => ?_; simp -implicitDefEqProofs [hw2]; repeat refine ⟨by omega, ?_⟩
    refine hK _ ?_; clear hK K; refine SW.rg fun K hK => ?_; simp -implicitDefEqProofs [hmid, hlt, hss, splice]; repeat refine ⟨by omega, ?_⟩
    refine hK _ ?_; clear hK K; refine SW.regionE fun K hK => ?_; simp -implicitDefEqProofs [hw3]; repeat refine ⟨by omega, ?_⟩
    refine hK _ ?_; clear hK K; refine hK3 _ ?_; refine SW.regionE fun K hK => ?_; simp -implicitDefEqProofs; repeat refine ⟨by omega, ?_⟩
    refine hK _ ?_; clear hK K; refine ⟨k + 1, by omega, by omega, ?_⟩; refine Wk.softH (by simp [softE, softV, wrap1 k (by omega)]; try omega) (by simp [hset])
theorem mark_WaiterS (l : List Waiter) (s : Int) (H : Heap) (id n : Nat) (hn : l.length = n) (hh : H[id]? = some (some ⟨3, WaiterS l⟩)) (hl : n ≤ 2 ^ 40) (hs : 0 ≤ s) (hs2 : s ≤ 2 ^ 50) :
    CallS Tryz.prog 122 [.sl id 0 n, .int .i64 s] H (fun o h' => o = .int .i64 (s + 3 * (n : Int)) ∧ h' = H.set id (some ⟨3, WaiterS (mkWaiter s n)⟩)) := by
  subst hn; have hi : id < H.length := (List.getElem?_eq_some_iff.1 hh).1
  refine CallS.mono (CallS.frame [id] (mark_WaiterS0 l s hl hs hs2) (by simp) (by simp) (by simp) (by simpa using hi) (by simp [renH, hh]) (by simp) (by simp) ?_) ?_
  · rintro o h' ⟨rfl, rfl⟩
    refine ⟨by simp, ?_, by simp, rfl⟩; intro x hx; simp only [List.mem_singleton] at hx; subst hx; exact WaiterS_nfz _ _
  · rintro o h' ⟨o0, h0, ⟨rfl, rfl⟩, rfl, rfl⟩
    exact ⟨by simp, by rw [frame1, WaiterS_renB]⟩
def Mutex.wt (d : Mutex) : Nat := 1 + d.wait.length
def Mutex.ln (d : Mutex) : List Nat := [d.wait.length]
theorem MutexSo_nfz (n : Nat) (l : List Mutex) : nfzB n (some ⟨2, MutexSo l⟩) = true := by
  simp [nfzB, MutexSo, nfz_int, nfz_bool, nfz_own, -strN]
@[simp] theorem MutexSo_renB (ids : List Nat) (l : List Mutex) : renB ids (some ⟨2, MutexSo l⟩) = some ⟨2, MutexSo l⟩ := by
  simp [renB]
set_option maxHeartbeats 1000000 in
theorem mark_MutexS0 (l : List Mutex) (s : Int) (hl : l.length ≤ 2 ^ 30) (hW : (l.map Mutex.wt).sum ≤ 2 ^ 30) (hs : 0 ≤ s) (hs2 : s ≤ 2 ^ 40) : CallS Tryz.prog 75 [.sl 0 0 l.length, .int .i64 s] ([some ⟨2, MutexSo l⟩]) (fun o h' => o = .int .i64 (s + (((l.map Mutex.wt).sum : Nat) : Int)) ∧ ∃ l', l'.map Mutex.ln = l.map Mutex.ln ∧ h' = [some ⟨2, MutexSo l'⟩]) := by
  refine CallS.intro Tryz.func75 (by decide) rfl (rs := [.tmp 4]) rfl Tryz.ntmps75 (by simp) ?_; refine SW.rg fun K hK => ?_; simp -implicitDefEqProofs; repeat refine ⟨by omega, ?_⟩
  refine hK _ ?_; clear hK K; refine SW.seqK fun K1 hK1 => ?_; refine SW.rg fun K hK => ?_; simp -implicitDefEqProofs; repeat refine ⟨by omega, ?_⟩
  refine hK _ ?_; clear hK K; refine SW.block ?_
  refine SW.loop (α := Nat × List Mutex) (fun x => ⟨[(5, .int .i64 (x.1 : Nat)), (1, .int .i64 (s + ((((l.take x.1).map Mutex.wt).sum : Nat) : Int))), (0, .sl 0 0 l.length)], [some ⟨2, MutexSo x.2⟩]⟩) (fun x => x.1 ≤ l.length ∧ x.2.map Mutex.ln = l.map Mutex.ln) (fun x => l.length - x.1) ((0, l)) ?_ ?_ (fun x hx => ?_)
  case' refine_1 =>
   simp
  case' refine_2 =>
   refine Wk.softH (by simp [softE, softV]) (by simp)
  case' refine_3 =>
   obtain ⟨k, l'⟩ := x; simp only [] at hx; obtain ⟨hk, hln⟩ := hx; simp only []; have hll : l'.length = l.length := by have h9 := congrArg List.length hln; simpa using h9
   have hst := sum_take Mutex.wt l k
   obtain ⟨KK, hKK⟩ : ∃ KK : Int, KK = s + ((((l.take k).map Mutex.wt).sum : Nat) : Int) := ⟨_, rfl⟩
   rw [← hKK]; refine SW.seqK fun K2 hK2 => ?_; refine SW.rg fun K hK => ?_; simp -implicitDefEqProofs; repeat refine ⟨by omega, ?_⟩
   refine hK _ ?_; clear hK K; refine SW.cond _ rfl (by simp) ?_ ?_
   case' refine_2 =>
    intro hb1; have hk1 : k = l.length := by simp at hb1; omega
    refine SW.exit ?_; simp only [Ex.then, Ex.ib]; try simp only [if_true, if_false, reduceIte]
    refine hK1 _ ?_; refine SW.rg fun K hK => ?_; simp -implicitDefEqProofs; repeat refine ⟨by omega, ?_⟩
    refine hK _ ?_; clear hK K; refine SW.ret ?_; simp [Ex.then, Ex.ib]; subst hk1; rw [List.take_length] at hKK; simp [hKK]; exact ⟨l', hln, rfl⟩
   rotate_right
   case' _ =>
    intro hb1; have hlt : k < l.length := by simp at hb1; omega
    obtain ⟨x, hxk⟩ : ∃ x, l'[k]? = some x := ⟨_, List.getElem?_eq_getElem (by omega)⟩
    obtain ⟨x0, hx0⟩ : ∃ x, l[k]? = some x := ⟨_, List.getElem?_eq_getElem hlt⟩
    have hlx : x.ln = x0.ln := by have h9 := congrArg (·[k]?) hln; simpa [hxk, hx0] using h9
    have hxl := hlx
    simp only [Mutex.ln, List.cons.injEq, and_true] at hlx; have hst1 := szL_take (f := Mutex.wt) hx0
    have htot := sum_take Mutex.wt l (k + 1)
    simp only [Mutex.wt] at hst1; have hss : ∀ v, ((MutexSo l').set k v)[k]? = some v := fun v => by rw [List.getElem?_set_self (by simp; omega)]
    have hw1 := wrapI (KK + 1) (by omega) (by omega)
    have hnx : s + ((((l.take (k + 1)).map Mutex.wt).sum : Nat) : Int) = KK + 1 + (x.wait.length : Int) := by omega
    rw [List.map_take] at hnx
    refine SW.wk (Wk.unfoldE (env' := [(5, .int .i64 (k : Nat)), (1, .int .i64 KK), (0, .sl 0 0 l.length)]) (h' := [some ⟨2, (MutexSo l').set k [.int .i64 x.owner, .sl 1 0 x.wait.length]⟩, some ⟨1, IntS x.wait⟩]) (p := 0) (i := k) (c := 1) (szB := 2) (sz := 1) (es := (MutexSo l')) (esj := IntS x.wait) [.int .i64 x.owner, .own 1 (IntS x.wait)] (by simp) (by simp [hxk, hss]) (by simp) (by simp [subE]) (by simp [List.set_set])) ?_
    refine SW.skip ?_; refine hK2 _ ?_; refine SW.seqK fun K3 hK3 => ?_; refine SW.block ?_; refine SW.rg fun K hK => ?_; simp -implicitDefEqProofs [hss, hlt, hll, splice]; repeat refine ⟨by omega, ?_⟩
    refine hK _ ?_; clear hK K; refine SW.rg fun K hK => ?_; simp -implicitDefEqProofs [hw1]; repeat refine ⟨by omega, ?_⟩
    refine hK _ ?_; clear hK K; refine SW.regionE fun K hK => ?_; simp -implicitDefEqProofs [hss, hlt, hll]; iterate 2 (try refine ⟨by omega, ?_⟩)
    refine CallS.mono (mark_IntS x.wait (KK + 1) _ 1 _ rfl (by simp) (by omega) (by omega) (by omega)) ?_
    rintro o h' ⟨rfl, rfl⟩
    simp -implicitDefEqProofs [hss, hlt, hll]; repeat refine ⟨by omega, ?_⟩
    refine hK _ ?_; clear hK K; refine hK3 _ ?_; refine SW.regionE fun K hK => ?_; simp -implicitDefEqProofs; repeat refine ⟨by omega, ?_⟩
    refine hK _ ?_; clear hK K
    refine ⟨(k + 1, l'.set k (⟨(KK), (mkInt (KK + 1) x.wait.length)⟩ : Mutex)), ⟨by simp only []; omega, by simp only []; rw [map_set_same (f := Mutex.ln) hxk (by simp [Mutex.ln])]; exact hln⟩, by simp only []; omega, ?_⟩
    have hset : (MutexSo l').set k (Mutex.ow (⟨(KK), (mkInt (KK + 1) x.wait.length)⟩ : Mutex)) = MutexSo (l'.set k (⟨(KK), (mkInt (KK + 1) x.wait.length)⟩ : Mutex)) := by simp [MutexSo, List.map_set]
    simp only [Mutex.ow] at hset
    exact Wk.foldE (env' := [(5, .int .i64 (k + 1 : Nat)), (1, .int .i64 (s + ((((l.take (k + 1)).map Mutex.wt).sum : Nat) : Int))), (0, .sl 0 0 l.length)]) (h := [some ⟨2, (MutexSo l').set k [.int .i64 (KK), .sl 1 0 x.wait.length]⟩]) (p := 0) (i := k) (c := 1) (szB := 2) (sz := 1) (es := (MutexSo l').set k [.int .i64 (KK), .sl 1 0 x.wait.length]) (esj := IntS (mkInt (KK + 1) x.wait.length)) [.int .i64 (KK), .sl 1 0 x.wait.length] (by simp) (by simp) (by rw [List.getElem?_set_self (by simp; omega)]) (by simp) (by simp) (by simp) (by simp [subE, wrap1 k (by omega), hnx]) (by simp [lowE, lowN]) (by simp [List.set_set, ← hset]) (by simp [lowEs_set, lowEs_rep])
theorem mark_MutexS (l : List Mutex) (s : Int) (H : Heap) (id n : Nat) (hn : l.length = n) (hh : H[id]? = some (some ⟨2, MutexSo l⟩)) (hl : n ≤ 2 ^ 30) (hW : (l.map Mutex.wt).sum ≤ 2 ^ 30) (hs : 0 ≤ s) (hs2 : s ≤ 2 ^ 40) :
    CallS Tryz.prog 75 [.sl id 0 n, .int .i64 s] H (fun o h' => o = .int .i64 (s + (((l.map Mutex.wt).sum : Nat) : Int)) ∧ ∃ l', l'.map Mutex.ln = l.map Mutex.ln ∧ h' = H.set id (some ⟨2, MutexSo l'⟩)) := by
  subst hn; have hi : id < H.length := (List.getElem?_eq_some_iff.1 hh).1
  refine CallS.mono (CallS.frame [id] (mark_MutexS0 l s hl hW hs hs2) (by simp) (by simp) (by simp) (by simpa using hi) (by simp [renH, hh]) (by simp) (by simp) ?_) ?_
  · rintro o h' ⟨rfl, l', _, rfl⟩
    refine ⟨by simp, ?_, by simp, rfl⟩; intro x hx; simp only [List.mem_singleton] at hx; subst hx; exact MutexSo_nfz _ _
  · rintro o h' ⟨o0, h0, ⟨rfl, l', hln, rfl⟩, rfl, rfl⟩
    exact ⟨by simp, l', hln, by rw [frame1, MutexSo_renB]⟩
def Gor.wt (d : Gor) : Nat := 1 + 1 + d.regs.length + 1 + 4 * d.trace.length
def Gor.ln (d : Gor) : List Nat := [d.regs.length, d.trace.length]
theorem GorSo_nfz (n : Nat) (l : List Gor) : nfzB n (some ⟨5, GorSo l⟩) = true := by
  simp [nfzB, GorSo, nfz_int, nfz_bool, nfz_own, -strN]
@[simp] theorem GorSo_renB (ids : List Nat) (l : List Gor) : renB ids (some ⟨5, GorSo l⟩) = some ⟨5, GorSo l⟩ := by
  simp [renB]
set_option maxHeartbeats 1000000 in
theorem mark_GorS0 (l : List Gor) (s : Int) (hl : l.length ≤ 2 ^ 30) (hW : (l.map Gor.wt).sum ≤ 2 ^ 30) (hs : 0 ≤ s) (hs2 : s ≤ 2 ^ 40) : CallS Tryz.prog 73 [.sl 0 0 l.length, .int .i64 s] ([some ⟨5, GorSo l⟩]) (fun o h' => o = .int .i64 (s + (((l.map Gor.wt).sum : Nat) : Int)) ∧ ∃ l', l'.map Gor.ln = l.map Gor.ln ∧ h' = [some ⟨5, GorSo l'⟩]) := by
  refine CallS.intro Tryz.func73 (by decide) rfl (rs := [.tmp 4]) rfl Tryz.ntmps73 (by simp) ?_; refine SW.rg fun K hK => ?_; simp -implicitDefEqProofs; repeat refine ⟨by omega, ?_⟩
  refine hK _ ?_; clear hK K; refine SW.seqK fun K1 hK1 => ?_; refine SW.rg fun K hK => ?_; simp -implicitDefEqProofs; repeat refine ⟨by omega, ?_⟩
  refine hK _ ?_; clear hK K; refine SW.block ?_
  refine SW.loop (α := Nat × List Gor) (fun x => ⟨[(5, .int .i64 (x.1 : Nat)), (1, .int .i64 (s + ((((l.take x.1).map Gor.wt).sum : Nat) : Int))), (0, .sl 0 0 l.length)], [some ⟨5, GorSo x.2⟩]⟩) (fun x => x.1 ≤ l.length ∧ x.2.map Gor.ln = l.map Gor.ln) (fun x => l.length - x.1) ((0, l)) ?_ ?_ (fun x hx => ?_)
  case' refine_1 =>
   simp
  case' refine_2 =>
   refine Wk.softH (by simp [softE, softV]) (by simp)
  case' refine_3 =>
   obtain ⟨k, l'⟩ := x; simp only [] at hx; obtain ⟨hk, hln⟩ := hx; simp only []; have hll : l'.length = l.length := by have h9 := congrArg List.length hln; simpa using h9
   have hst := sum_take Gor.wt l k
   obtain ⟨KK, hKK⟩ : ∃ KK : Int, KK = s + ((((l.take k).map Gor.wt).sum : Nat) : Int) := ⟨_, rfl⟩
   rw [← hKK]; refine SW.seqK fun K2 hK2 => ?_; refine SW.rg fun K hK => ?_; simp -implicitDefEqProofs; repeat refine ⟨by omega, ?_⟩
   refine hK _ ?_; clear hK K; refine SW.cond _ rfl (by simp) ?_ ?_
   case' refine_2 =>
    intro hb1; have hk1 : k = l.length := by simp at hb1; omega
    refine SW.exit ?_; simp only [Ex.then, Ex.ib]; try simp only [if_true, if_false, reduceIte]
    refine hK1 _ ?_; refine SW.rg fun K hK => ?_; simp -implicitDefEqProofs; repeat refine ⟨by omega, ?_⟩
    refine hK _ ?_; clear hK K; refine SW.ret ?_; simp [Ex.then, Ex.ib]; subst hk1; rw [List.take_length] at hKK; simp [hKK]; exact ⟨l', hln, rfl⟩
   rotate_right
   case' _ =>
    intro hb1; have hlt : k < l.length := by simp at hb1; omega
    obtain ⟨x, hxk⟩ : ∃ x, l'[k]? = some x := ⟨_, List.getElem?_eq_getElem (by omega)⟩
    obtain ⟨x0, hx0⟩ : ∃ x, l[k]? = some x := ⟨_, List.getElem?_eq_getElem hlt⟩
    have hlx : x.ln = x0.ln := by have h9 := congrArg (·[k]?) hln; simpa [hxk, hx0] using h9
    have hxl := hlx
    simp only [Gor.ln, List.cons.injEq, and_true] at hlx; have hst1 := szL_take (f := Gor.wt) hx0
    have htot := sum_take Gor.wt l (k + 1)
    simp only [Gor.wt] at hst1; have hss : ∀ v, ((GorSo l').set k v)[k]? = some v := fun v => by rw [List.getElem?_set_self (by simp; omega)]
    have hw1 := wrapI (KK + 1) (by omega) (by omega)
    have hw2 := wrapI (KK + 1 + 1) (by omega) (by omega)
    have hw3 := wrapI (KK + 1 + 1 + (x.regs.length : Int) + 1) (by omega) (by omega)
    have hnx : s + ((((l.take (k + 1)).map Gor.wt).sum : Nat) : Int) = KK + 1 + 1 + (x.regs.length : Int) + 1 + 4 * (x.trace.length : Int) := by omega
    rw [List.map_take] at hnx
    refine SW.wk (Wk.unfoldE (env' := [(5, .int .i64 (k : Nat)), (1, .int .i64 KK), (0, .sl 0 0 l.length)]) (h' := [some ⟨5, (GorSo l').set k [.int .i64 x.proc, .int .i64 x.pc, .sl 1 0 x.regs.length, .int .i64 x.state, .own 4 (ItemS x.trace)]⟩, some ⟨1, IntS x.regs⟩]) (p := 0) (i := k) (c := 2) (szB := 5) (sz := 1) (es := (GorSo l')) (esj := IntS x.regs) [.int .i64 x.proc, .int .i64 x.pc, .own 1 (IntS x.regs), .int .i64 x.state, .own 4 (ItemS x.trace)] (by simp) (by simp [hxk, hss]) (by simp) (by simp [subE]) (by simp [List.set_set])) ?_
    refine SW.wk (Wk.unfoldE (env' := [(5, .int .i64 (k : Nat)), (1, .int .i64 KK), (0, .sl 0 0 l.length)]) (h' := [some ⟨5, (GorSo l').set k [.int .i64 x.proc, .int .i64 x.pc, .sl 1 0 x.regs.length, .int .i64 x.state, .sl 2 0 x.trace.length]⟩, some ⟨1, IntS x.regs⟩, some ⟨4, ItemS x.trace⟩]) (p := 0) (i := k) (c := 4) (szB := 5) (sz := 4) (es := (GorSo l').set k [.int .i64 x.proc, .int .i64 x.pc, .sl 1 0 x.regs.length, .int .i64 x.state, .own 4 (ItemS x.trace)]) (esj := ItemS x.trace) [.int .i64 x.proc, .int .i64 x.pc, .sl 1 0 x.regs.length, .int .i64 x.state, .own 4 (ItemS x.trace)] (by simp) (by simp [hxk, hss]) (by simp) (by simp [subE]) (by simp [List.set_set])) ?_
    refine SW.skip ?_; refine hK2 _ ?_; refine SW.seqK fun K3 hK3 => ?_; refine SW.block ?_; refine SW.rg fun K hK => ?_; simp -implicitDefEqProofs [hss, hlt, hll, splice]; repeat refine ⟨by omega, ?_⟩
    refine hK _ ?_; clear hK K; refine SW.rg fun K hK => ?_; simp -implicitDefEqProofs [hw1]; repeat refine ⟨by omega, ?_⟩
    refine hK _ ?_; clear hK K; refine SW.rg fun K hK => ?_; simp -implicitDefEqProofs [hss, hlt, hll, splice]; repeat refine ⟨by omega, ?_⟩
    refine hK _ ?_; clear hK K; refine SW.rg fun K hK => ?_; simp -implicitDefEqProofs [hw2]; repeat refine ⟨by omega, ?_⟩
    refine hK _ ?_; clear hK K; refine SW.rg fun K hK => ?_; simp -implicitDefEqProofs [hss, hlt, hll]; iterate 2 (try refine ⟨by omega, ?_⟩)
    refine CallS.mono (mark_IntS x.regs (KK + 1 + 1) _ 1 _ rfl (by simp) (by omega) (by omega) (by omega)) ?_
    rintro o h' ⟨rfl, rfl⟩
    simp -implicitDefEqProofs [hss, hlt, hll]; repeat refine ⟨by omega, ?_⟩
    refine hK _ ?_; clear hK K; refine SW.rg fun K hK => ?_; simp -implicitDefEqProofs [hss, hlt, hll, splice]; repeat refine ⟨by omega, ?_⟩
    refine hK _ ?_; clear hK K; refine SW.rg fun K hK => ?_; simp -implicitDefEqProofs [hw3]; repeat refine ⟨by omega, ?_⟩
    refine hK _ ?_; clear hK K; refine SW.regionE fun K hK => ?_; simp -implicitDefEqProofs [hss, hlt, hll]; iterate 2 (try refine ⟨by omega, ?_⟩)
    refine CallS.mono (mark_ItemS x.trace (KK + 1 + 1 + (x.regs.length : Int) + 1) _ 2 _ rfl (by simp) (by omega) (by omega) (by omega)) ?_
    rintro o h' ⟨rfl, rfl⟩
    simp -implicitDefEqProofs [hss, hlt, hll]; repeat refine ⟨by omega, ?_⟩
    refine hK _ ?_; clear hK K; refine hK3 _ ?_; refine SW.regionE fun K hK => ?_; simp -implicitDefEqProofs; repeat refine ⟨by omega, ?_⟩
    refine hK _ ?_; clear hK K
    refine ⟨(k + 1, l'.set k (⟨(KK), (KK + 1), (mkInt (KK + 1 + 1) x.regs.length), (KK + 1 + 1 + (x.regs.length : Int)), (mkItem (KK + 1 + 1 + (x.regs.length : Int) + 1) x.trace.length)⟩ : Gor)), ⟨by simp only []; omega, by simp only []; rw [map_set_same (f := Gor.ln) hxk (by simp [Gor.ln])]; exact hln⟩, by simp only []; omega, ?_⟩
    have hset : (GorSo l').set k (Gor.ow (⟨(KK), (KK + 1), (mkInt (KK + 1 + 1) x.regs.length), (KK + 1 + 1 + (x.regs.length : Int)), (mkItem (KK + 1 + 1 + (x.regs.length : Int) + 1) x.trace.length)⟩ : Gor)) = GorSo (l'.set k (⟨(KK), (KK + 1), (mkInt (KK + 1 + 1) x.regs.length), (KK + 1 + 1 + (x.regs.length : Int)), (mkItem (KK + 1 + 1 + (x.regs.length : Int) + 1) x.trace.length)⟩ : Gor)) := by simp [GorSo, List.map_set]
    simp only [Gor.ow] at hset
    refine Wk.trans (Wk.foldE (env' := [(5, .int .i64 (k + 1 : Nat)), (1, .int .i64 (s + ((((l.take (k + 1)).map Gor.wt).sum : Nat) : Int))), (0, .sl 0 0 l.length)]) (h := [some ⟨5, (GorSo l').set k [.int .i64 (KK), .int .i64 (KK + 1), .sl 1 0 x.regs.length, .int .i64 (KK + 1 + 1 + (x.regs.length : Int)), .sl 2 0 x.trace.length]⟩, some ⟨1, IntS (mkInt (KK + 1 + 1) x.regs.length)⟩]) (h' := [some ⟨5, (GorSo l').set k [.int .i64 (KK), .int .i64 (KK + 1), .sl 1 0 x.regs.length, .int .i64 (KK + 1 + 1 + (x.regs.length : Int)), .own 4 (ItemS (mkItem (KK + 1 + 1 + (x.regs.length : Int) + 1) x.trace.length))]⟩, some ⟨1, IntS (mkInt (KK + 1 + 1) x.regs.length)⟩]) (p := 0) (i := k) (c := 4) (szB := 5) (sz := 4) (es := (GorSo l').set k [.int .i64 (KK), .int .i64 (KK + 1), .sl 1 0 x.regs.length, .int .i64 (KK + 1 + 1 + (x.regs.length : Int)), .sl 2 0 x.trace.length]) (esj := ItemS (mkItem (KK + 1 + 1 + (x.regs.length : Int) + 1) x.trace.length)) [.int .i64 (KK), .int .i64 (KK + 1), .sl 1 0 x.regs.length, .int .i64 (KK + 1 + 1 + (x.regs.length : Int)), .sl 2 0 x.trace.length] (by simp) (by simp) (by rw [List.getElem?_set_self (by simp; omega)]) (by simp) (by simp) (by simp) (by simp [subE, wrap1 k (by omega), hnx]) (by simp [lowE, lowN]) (by simp [List.set_set]) (by simp [lowEs_set, lowEs_rep])) ?_
    exact Wk.foldE (env' := [(5, .int .i64 (k + 1 : Nat)), (1, .int .i64 (s + ((((l.take (k + 1)).map Gor.wt).sum : Nat) : Int))), (0, .sl 0 0 l.length)]) (h := [some ⟨5, (GorSo l').set k [.int .i64 (KK), .int .i64 (KK + 1), .sl 1 0 x.regs.length, .int .i64 (KK + 1 + 1 + (x.regs.length : Int)), .own 4 (ItemS (mkItem (KK + 1 + 1 + (x.regs.length : Int) + 1) x.trace.length))]⟩]) (p := 0) (i := k) (c := 2) (szB := 5) (sz := 1) (es := (GorSo l').set k [.int .i64 (KK), .int .i64 (KK + 1), .sl 1 0 x.regs.length, .int .i64 (KK + 1 + 1 + (x.regs.length : Int)), .own 4 (ItemS (mkItem (KK + 1 + 1 + (x.regs.length : Int) + 1) x.trace.length))]) (esj := IntS (mkInt (KK + 1 + 1) x.regs.length)) [.int .i64 (KK), .int .i64 (KK + 1), .sl 1 0 x.regs.length, .int .i64 (KK + 1 + 1 + (x.regs.length : Int)), .own 4 (ItemS (mkItem (KK + 1 + 1 + (x.regs.length : Int) + 1) x.trace.length))] (by simp) (by simp) (by rw [List.getElem?_set_self (by simp; omega)]) (by simp) (by simp) (by simp) (by simp [subE]) (by simp [lowE, lowN]) (by simp [List.set_set, ← hset]) (by simp [lowEs_set, lowEs_rep])
theorem mark_GorS (l : List Gor) (s : Int) (H : Heap) (id n : Nat) (hn : l.length = n) (hh : H[id]? = some (some ⟨5, GorSo l⟩)) (hl : n ≤ 2 ^ 30) (hW : (l.map Gor.wt).sum ≤ 2 ^ 30) (hs : 0 ≤ s) (hs2 : s ≤ 2 ^ 40) :
    CallS Tryz.prog 73 [.sl id 0 n, .int .i64 s] H (fun o h' => o = .int .i64 (s + (((l.map Gor.wt).sum : Nat) : Int)) ∧ ∃ l', l'.map Gor.ln = l.map Gor.ln ∧ h' = H.set id (some ⟨5, GorSo l'⟩)) := by
  subst hn; have hi : id < H.length := (List.getElem?_eq_some_iff.1 hh).1
  refine CallS.mono (CallS.frame [id] (mark_GorS0 l s hl hW hs hs2) (by simp) (by simp) (by simp) (by simpa using hi) (by simp [renH, hh]) (by simp) (by simp) ?_) ?_
  · rintro o h' ⟨rfl, l', _, rfl⟩
    refine ⟨by simp, ?_, by simp, rfl⟩; intro x hx; simp only [List.mem_singleton] at hx; subst hx; exact GorSo_nfz _ _
  · rintro o h' ⟨o0, h0, ⟨rfl, l', hln, rfl⟩, rfl, rfl⟩
    exact ⟨by simp, l', hln, by rw [frame1, GorSo_renB]⟩
def Chan.wt (d : Chan) : Nat := 1 + d.buf.length + 3 * d.sends.length + 3 * d.recvs.length + 1
def Chan.ln (d : Chan) : List Nat := [d.buf.length, d.sends.length, d.recvs.length]
theorem ChanSo_nfz (n : Nat) (l : List Chan) : nfzB n (some ⟨5, ChanSo l⟩) = true := by
  simp [nfzB, ChanSo, nfz_int, nfz_bool, nfz_own, -strN]
@[simp] theorem ChanSo_renB (ids : List Nat) (l : List Chan) : renB ids (some ⟨5, ChanSo l⟩) = some ⟨5, ChanSo l⟩ := by
  simp [renB]
set_option maxHeartbeats 1000000 in
theorem mark_ChanS0 (l : List Chan) (s : Int) (hl : l.length ≤ 2 ^ 30) (hW : (l.map Chan.wt).sum ≤ 2 ^ 30) (hs : 0 ≤ s) (hs2 : s ≤ 2 ^ 40) : CallS Tryz.prog 74 [.sl 0 0 l.length, .int .i64 s] ([some ⟨5, ChanSo l⟩]) (fun o h' => o = .int .i64 (s + (((l.map Chan.wt).sum : Nat) : Int)) ∧ ∃ l', l'.map Chan.ln = l.map Chan.ln ∧ h' = [some ⟨5, ChanSo l'⟩]) := by
  refine CallS.intro Tryz.func74 (by decide) rfl (rs := [.tmp 4]) rfl Tryz.ntmps74 (by simp) ?_; refine SW.rg fun K hK => ?_; simp -implicitDefEqProofs; repeat refine ⟨by omega, ?_⟩
  refine hK _ ?_; clear hK K; refine SW.seqK fun K1 hK1 => ?_; refine SW.rg fun K hK => ?_; simp -implicitDefEqProofs; repeat refine ⟨by omega, ?_⟩
  refine hK _ ?_; clear hK K; refine SW.block ?_
  refine SW.loop (α := Nat × List Chan) (fun x => ⟨[(5, .int .i64 (x.1 : Nat)), (1, .int .i64 (s + ((((l.take x.1).map Chan.wt).sum : Nat) : Int))), (0, .sl 0 0 l.length)], [some ⟨5, ChanSo x.2⟩]⟩) (fun x => x.1 ≤ l.length ∧ x.2.map Chan.ln = l.map Chan.ln) (fun x => l.length - x.1) ((0, l)) ?_ ?_ (fun x hx => ?_)
  case' refine_1 =>
   simp
  case' refine_2 =>
   refine Wk.softH (by simp [softE, softV]) (by simp)
  case' refine_3 =>
   obtain ⟨k, l'⟩ := x; simp only [] at hx; obtain ⟨hk, hln⟩ := hx; simp only []; have hll : l'.length = l.length := by have h9 := congrArg List.length hln; simpa using h9
   have hst := sum_take Chan.wt l k
   obtain ⟨KK, hKK⟩ : ∃ KK : Int, KK = s + ((((l.take k).map Chan.wt).sum : Nat) : Int) := ⟨_, rfl⟩
   rw [← hKK]; refine SW.seqK fun K2 hK2 => ?_; refine SW.rg fun K hK => ?_; simp -implicitDefEqProofs; repeat refine ⟨by omega, ?_⟩
   refine hK _ ?_; clear hK K; refine SW.cond _ rfl (by simp) ?_ ?_
   case' refine_2 =>
    intro hb1; have hk1 : k = l.length := by simp at hb1; omega
    refine SW.exit ?_; simp only [Ex.then, Ex.ib]; try simp only [if_true, if_false, reduceIte]
    refine hK1 _ ?_; refine SW.rg fun K hK => ?_; simp -implicitDefEqProofs; repeat refine ⟨by omega, ?_⟩
    refine hK _ ?_; clear hK K; refine SW.ret ?_; simp [Ex.then, Ex.ib]; subst hk1; rw [List.take_length] at hKK; simp [hKK]; exact ⟨l', hln, rfl⟩
   rotate_right
   case' _ =>
    intro hb1; have hlt : k < l.length := by simp at hb1; omega
    obtain ⟨x, hxk⟩ : ∃ x, l'[k]? = some x := ⟨_, List.getElem?_eq_getElem (by omega)⟩
    obtain ⟨x0, hx0⟩ : ∃ x, l[k]? = some x := ⟨_, List.getElem?_eq_getElem hlt⟩
    have hlx : x.ln = x0.ln := by have h9 := congrArg (·[k]?) hln; simpa [hxk, hx0] using h9
    have hxl := hlx
    simp only [Chan.ln, List.cons.injEq, and_true] at hlx; have hst1 := szL_take (f := Chan.wt) hx0
    have htot := sum_take Chan.wt l (k + 1)
    simp only [Chan.wt] at hst1; have hss : ∀ v, ((ChanSo l').set k v)[k]? = some v := fun v => by rw [List.getElem?_set_self (by simp; omega)]
    have hw1 := wrapI (KK + 1) (by omega) (by omega)
    have hw2 := wrapI (KK + 1 + (x.buf.length : Int) + 3 * (x.sends.length : Int) + 3 * (x.recvs.length : Int) + 1) (by omega) (by omega)
    have hnx : s + ((((l.take (k + 1)).map Chan.wt).sum : Nat) : Int) = KK + 1 + (x.buf.length : Int) + 3 * (x.sends.length : Int) + 3 * (x.recvs.length : Int) + 1 := by omega
    rw [List.map_take] at hnx
    refine SW.wk (Wk.unfoldE (env' := [(5, .int .i64 (k : Nat)), (1, .int .i64 KK), (0, .sl 0 0 l.length)]) (h' := [some ⟨5, (ChanSo l').set k [.int .i64 x.cap, .sl 1 0 x.buf.length, .own 3 (WaiterS x.sends), .own 3 (WaiterS x.recvs), .bool x.closed]⟩, some ⟨1, IntS x.buf⟩]) (p := 0) (i := k) (c := 1) (szB := 5) (sz := 1) (es := (ChanSo l')) (esj := IntS x.buf) [.int .i64 x.cap, .own 1 (IntS x.buf), .own 3 (WaiterS x.sends), .own 3 (WaiterS x.recvs), .bool x.closed] (by simp) (by simp [hxk, hss]) (by simp) (by simp [subE]) (by simp [List.set_set])) ?_
    refine SW.wk (Wk.unfoldE (env' := [(5, .int .i64 (k : Nat)), (1, .int .i64 KK), (0, .sl 0 0 l.length)]) (h' := [some ⟨5, (ChanSo l').set k [.int .i64 x.cap, .sl 1 0 x.buf.length, .sl 2 0 x.sends.length, .own 3 (WaiterS x.recvs), .bool x.closed]⟩, some ⟨1, IntS x.buf⟩, some ⟨3, WaiterS x.sends⟩]) (p := 0) (i := k) (c := 2) (szB := 5) (sz := 3) (es := (ChanSo l').set k [.int .i64 x.cap, .sl 1 0 x.buf.length, .own 3 (WaiterS x.sends), .own 3 (WaiterS x.recvs), .bool x.closed]) (esj := WaiterS x.sends) [.int .i64 x.cap, .sl 1 0 x.buf.length, .own 3 (WaiterS x.sends), .own 3 (WaiterS x.recvs), .bool x.closed] (by simp) (by simp [hxk, hss]) (by simp) (by simp [subE]) (by simp [List.set_set])) ?_
    refine SW.wk (Wk.unfoldE (env' := [(5, .int .i64 (k : Nat)), (1, .int .i64 KK), (0, .sl 0 0 l.length)]) (h' := [some ⟨5, (ChanSo l').set k [.int .i64 x.cap, .sl 1 0 x.buf.length, .sl 2 0 x.sends.length, .sl 3 0 x.recvs.length, .bool x.closed]⟩, some ⟨1, IntS x.buf⟩, some ⟨3, WaiterS x.sends⟩, some ⟨3, WaiterS x.recvs⟩]) (p := 0) (i := k) (c := 3) (szB := 5) (sz := 3) (es := (ChanSo l').set k [.int .i64 x.cap, .sl 1 0 x.buf.length, .sl 2 0 x.sends.length, .own 3 (WaiterS x.recvs), .bool x.closed]) (esj := WaiterS x.recvs) [.int .i64 x.cap, .sl 1 0 x.buf.length, .sl 2 0 x.sends.length, .own 3 (WaiterS x.recvs), .bool x.closed] (by simp) (by simp [hxk, hss]) (by simp) (by simp [subE]) (by simp [List.set_set])) ?_
    refine SW.skip ?_; refine hK2 _ ?_; refine SW.seqK fun K3 hK3 => ?_; refine SW.block ?_; refine SW.rg fun K hK => ?_; simp -implicitDefEqProofs [hss, hlt, hll, splice]; repeat refine ⟨by omega, ?_⟩
    refine hK _ ?_; clear hK K; refine SW.rg fun K hK => ?_; simp -implicitDefEqProofs [hw1]; repeat refine ⟨by omega, ?_⟩
    refine hK _ ?_; clear hK K; refine SW.rg fun K hK => ?_; simp -implicitDefEqProofs [hss, hlt, hll]; iterate 2 (try refine ⟨by omega, ?_⟩)
    refine CallS.mono (mark_IntS x.buf (KK + 1) _ 1 _ rfl (by simp) (by omega) (by omega) (by omega)) ?_
    rintro o h' ⟨rfl, rfl⟩
    simp -implicitDefEqProofs [hss, hlt, hll]; repeat refine ⟨by omega, ?_⟩
    refine hK _ ?_; clear hK K; refine SW.rg fun K hK => ?_; simp -implicitDefEqProofs [hss, hlt, hll]; iterate 2 (try refine ⟨by omega, ?_⟩)
    refine CallS.mono (mark_WaiterS x.sends (KK + 1 + (x.buf.length : Int)) _ 2 _ rfl (by simp) (by omega) (by omega) (by omega)) ?_
    rintro o h' ⟨rfl, rfl⟩
    simp -implicitDefEqProofs [hss, hlt, hll]; repeat refine ⟨by omega, ?_⟩
    refine hK _ ?_; clear hK K; refine SW.rg fun K hK => ?_; simp -implicitDefEqProofs [hss, hlt, hll]; iterate 2 (try refine ⟨by omega, ?_⟩)
    refine CallS.mono (mark_WaiterS x.recvs (KK + 1 + (x.buf.length : Int) + 3 * (x.sends.length : Int)) _ 3 _ rfl (by simp) (by omega) (by omega) (by omega)) ?_
    rintro o h' ⟨rfl, rfl⟩
    simp -implicitDefEqProofs [hss, hlt, hll]; repeat refine ⟨by omega, ?_⟩
    refine hK _ ?_; clear hK K; refine SW.rg fun K hK => ?_; simp -implicitDefEqProofs [hss, hlt, hll, splice]; repeat refine ⟨by omega, ?_⟩
    refine hK _ ?_; clear hK K; refine SW.regionE fun K hK => ?_; simp -implicitDefEqProofs [hw2]; repeat refine ⟨by omega, ?_⟩
    refine hK _ ?_; clear hK K; refine hK3 _ ?_; refine SW.regionE fun K hK => ?_; simp -implicitDefEqProofs; repeat refine ⟨by omega, ?_⟩
    refine hK _ ?_; clear hK K
    refine ⟨(k + 1, l'.set k (⟨(KK), (mkInt (KK + 1) x.buf.length), (mkWaiter (KK + 1 + (x.buf.length : Int)) x.sends.length), (mkWaiter (KK + 1 + (x.buf.length : Int) + 3 * (x.sends.length : Int)) x.recvs.length), ((KK + 1 + (x.buf.length : Int) + 3 * (x.sends.length : Int) + 3 * (x.recvs.length : Int)).tmod 3 == 0)⟩ : Chan)), ⟨by simp only []; omega, by simp only []; rw [map_set_same (f := Chan.ln) hxk (by simp [Chan.ln])]; exact hln⟩, by simp only []; omega, ?_⟩
    have hset : (ChanSo l').set k (Chan.ow (⟨(KK), (mkInt (KK + 1) x.buf.length), (mkWaiter (KK + 1 + (x.buf.length : Int)) x.sends.length), (mkWaiter (KK + 1 + (x.buf.length : Int) + 3 * (x.sends.length : Int)) x.recvs.length), ((KK + 1 + (x.buf.length : Int) + 3 * (x.sends.length : Int) + 3 * (x.recvs.length : Int)).tmod 3 == 0)⟩ : Chan)) = ChanSo (l'.set k (⟨(KK), (mkInt (KK + 1) x.buf.length), (mkWaiter (KK + 1 + (x.buf.length : Int)) x.sends.length), (mkWaiter (KK + 1 + (x.buf.length : Int) + 3 * (x.sends.length : Int)) x.recvs.length), ((KK + 1 + (x.buf.length : Int) + 3 * (x.sends.length : Int) + 3 * (x.recvs.length : Int)).tmod 3 == 0)⟩ : Chan)) := by simp [ChanSo, List.map_set]
    simp only [Chan.ow] at hset
    refine Wk.trans (Wk.foldE (env' := [(5, .int .i64 (k + 1 : Nat)), (1, .int .i64 (s + ((((l.take (k + 1)).map Chan.wt).sum : Nat) : Int))), (0, .sl 0 0 l.length)]) (h := [some ⟨5, (ChanSo l').set k [.int .i64 (KK), .sl 1 0 x.buf.length, .sl 2 0 x.sends.length, .sl 3 0 x.recvs.length, .bool ((KK + 1 + (x.buf.length : Int) + 3 * (x.sends.length : Int) + 3 * (x.recvs.length : Int)).tmod 3 == 0)]⟩, some ⟨1, IntS (mkInt (KK + 1) x.buf.length)⟩, some ⟨3, WaiterS (mkWaiter (KK + 1 + (x.buf.length : Int)) x.sends.length)⟩]) (h' := [some ⟨5, (ChanSo l').set k [.int .i64 (KK), .sl 1 0 x.buf.length, .sl 2 0 x.sends.length, .own 3 (WaiterS (mkWaiter (KK + 1 + (x.buf.length : Int) + 3 * (x.sends.length : Int)) x.recvs.length)), .bool ((KK + 1 + (x.buf.length : Int) + 3 * (x.sends.length : Int) + 3 * (x.recvs.length : Int)).tmod 3 == 0)]⟩, some ⟨1, IntS (mkInt (KK + 1) x.buf.length)⟩, some ⟨3, WaiterS (mkWaiter (KK + 1 + (x.buf.length : Int)) x.sends.length)⟩]) (p := 0) (i := k) (c := 3) (szB := 5) (sz := 3) (es := (ChanSo l').set k [.int .i64 (KK), .sl 1 0 x.buf.length, .sl 2 0 x.sends.length, .sl 3 0 x.recvs.length, .bool ((KK + 1 + (x.buf.length : Int) + 3 * (x.sends.length : Int) + 3 * (x.recvs.length : Int)).tmod 3 == 0)]) (esj := WaiterS (mkWaiter (KK + 1 + (x.buf.length : Int) + 3 * (x.sends.length : Int)) x.recvs.length)) [.int .i64 (KK), .sl 1 0 x.buf.length, .sl 2 0 x.sends.length, .sl 3 0 x.recvs.length, .bool ((KK + 1 + (x.buf.length : Int) + 3 * (x.sends.length : Int) + 3 * (x.recvs.length : Int)).tmod 3 == 0)] (by simp) (by simp) (by rw [List.getElem?_set_self (by simp; omega)]) (by simp) (by simp) (by simp) (by simp [subE, wrap1 k (by omega), hnx]) (by simp [lowE, lowN]) (by simp [List.set_set]) (by simp [lowEs_set, lowEs_rep])) ?_
    refine Wk.trans (Wk.foldE (env' := [(5, .int .i64 (k + 1 : Nat)), (1, .int .i64 (s + ((((l.take (k + 1)).map Chan.wt).sum : Nat) : Int))), (0, .sl 0 0 l.length)]) (h := [some ⟨5, (ChanSo l').set k [.int .i64 (KK), .sl 1 0 x.buf.length, .sl 2 0 x.sends.length, .own 3 (WaiterS (mkWaiter (KK + 1 + (x.buf.length : Int) + 3 * (x.sends.length : Int)) x.recvs.length)), .bool ((KK + 1 + (x.buf.length : Int) + 3 * (x.sends.length : Int) + 3 * (x.recvs.length : Int)).tmod 3 == 0)]⟩, some ⟨1, IntS (mkInt (KK + 1) x.buf.length)⟩]) (h' := [some ⟨5, (ChanSo l').set k [.int .i64 (KK), .sl 1 0 x.buf.length, .own 3 (WaiterS (mkWaiter (KK + 1 + (x.buf.length : Int)) x.sends.length)), .own 3 (WaiterS (mkWaiter (KK + 1 + (x.buf.length : Int) + 3 * (x.sends.length : Int)) x.recvs.length)), .bool ((KK + 1 + (x.buf.length : Int) + 3 * (x.sends.length : Int) + 3 * (x.recvs.length : Int)).tmod 3 == 0)]⟩, some ⟨1, IntS (mkInt (KK + 1) x.buf.length)⟩]) (p := 0) (i := k) (c := 2) (szB := 5) (sz := 3) (es := (ChanSo l').set k [.int .i64 (KK), .sl 1 0 x.buf.length, .sl 2 0 x.sends.length, .own 3 (WaiterS (mkWaiter (KK + 1 + (x.buf.length : Int) + 3 * (x.sends.length : Int)) x.recvs.length)), .bool ((KK + 1 + (x.buf.length : Int) + 3 * (x.sends.length : Int) + 3 * (x.recvs.length : Int)).tmod 3 == 0)]) (esj := WaiterS (mkWaiter (KK + 1 + (x.buf.length : Int)) x.sends.length)) [.int .i64 (KK), .sl 1 0 x.buf.length, .sl 2 0 x.sends.length, .own 3 (WaiterS (mkWaiter (KK + 1 + (x.buf.length : Int) + 3 * (x.sends.length : Int)) x.recvs.length)), .bool ((KK + 1 + (x.buf.length : Int) + 3 * (x.sends.length : Int) + 3 * (x.recvs.length : Int)).tmod 3 == 0)] (by simp) (by simp) (by rw [List.getElem?_set_self (by simp; omega)]) (by simp) (by simp) (by simp) (by simp [subE]) (by simp [lowE, lowN]) (by simp [List.set_set]) (by simp [lowEs_set, lowEs_rep])) ?_
    exact Wk.foldE (env' := [(5, .int .i64 (k + 1 : Nat)), (1, .int .i64 (s + ((((l.take (k + 1)).map Chan.wt).sum : Nat) : Int))), (0, .sl 0 0 l.length)]) (h := [some ⟨5, (ChanSo l').set k [.int .i64 (KK), .sl 1 0 x.buf.length, .own 3 (WaiterS (mkWaiter (KK + 1 + (x.buf.length : Int)) x.sends.length)), .own 3 (WaiterS (mkWaiter (KK + 1 + (x.buf.length : Int) + 3 * (x.sends.length : Int)) x.recvs.length)), .bool ((KK + 1 + (x.buf.length : Int) + 3 * (x.sends.length : Int) + 3 * (x.recvs.length : Int)).tmod 3 == 0)]⟩]) (p := 0) (i := k) (c := 1) (szB := 5) (sz := 1) (es := (ChanSo l').set k [.int .i64 (KK), .sl 1 0 x.buf.length, .own 3 (WaiterS (mkWaiter (KK + 1 + (x.buf.length : Int)) x.sends.length)), .own 3 (WaiterS (mkWaiter (KK + 1 + (x.buf.length : Int) + 3 * (x.sends.length : Int)) x.recvs.length)), .bool ((KK + 1 + (x.buf.length : Int) + 3 * (x.sends.length : Int) + 3 * (x.recvs.length : Int)).tmod 3 == 0)]) (esj := IntS (mkInt (KK + 1) x.buf.length)) [.int .i64 (KK), .sl 1 0 x.buf.length, .own 3 (WaiterS (mkWaiter (KK + 1 + (x.buf.length : Int)) x.sends.length)), .own 3 (WaiterS (mkWaiter (KK + 1 + (x.buf.length : Int) + 3 * (x.sends.length : Int)) x.recvs.length)), .bool ((KK + 1 + (x.buf.length : Int) + 3 * (x.sends.length : Int) + 3 * (x.recvs.length : Int)).tmod 3 == 0)] (by simp) (by simp) (by rw [List.getElem?_set_self (by simp; omega)]) (by simp) (by simp) (by simp) (by simp [subE]) (by simp [lowE, lowN]) (by simp [List.set_set, ← hset]) (by simp [lowEs_set, lowEs_rep])
theorem mark_ChanS (l : List Chan) (s : Int) (H : Heap) (id n : Nat) (hn : l.length = n) (hh : H[id]? = some (some ⟨5, ChanSo l⟩)) (hl : n ≤ 2 ^ 30) (hW : (l.map Chan.wt).sum ≤ 2 ^ 30) (hs : 0 ≤ s) (hs2 : s ≤ 2 ^ 40) :
    CallS Tryz.prog 74 [.sl id 0 n, .int .i64 s] H (fun o h' => o = .int .i64 (s + (((l.map Chan.wt).sum : Nat) : Int)) ∧ ∃ l', l'.map Chan.ln = l.map Chan.ln ∧ h' = H.set id (some ⟨5, ChanSo l'⟩)) := by
  subst hn; have hi : id < H.length := (List.getElem?_eq_some_iff.1 hh).1
  refine CallS.mono (CallS.frame [id] (mark_ChanS0 l s hl hW hs hs2) (by simp) (by simp) (by simp) (by simpa using hi) (by simp [renH, hh]) (by simp) (by simp) ?_) ?_
  · rintro o h' ⟨rfl, l', _, rfl⟩
    refine ⟨by simp, ?_, by simp, rfl⟩; intro x hx; simp only [List.mem_singleton] at hx; subst hx; exact ChanSo_nfz _ _
  · rintro o h' ⟨o0, h0, ⟨rfl, l', hln, rfl⟩, rfl, rfl⟩
    exact ⟨by simp, l', hln, by rw [frame1, ChanSo_renB]⟩
end HT
