import Derived.Test.YtdhoappjadnhcaaGreatG13
/-
  My own texts (road H): HCTQE.
-/
set_option maxHeartbeats 8000000
set_option linter.unusedSimpArgs false
set_option linter.unusedVariables false
namespace HT
open Go Go.Proofs HK
def mkWaiter1 (s : Int) : Waiter := ⟨s, s + 1, s + 1 + 1⟩
abbrev mkWaiter (s : Int) (k : Nat) : List Waiter := mkL mkWaiter1 3 s k
theorem WaiterS_setL (l : List Waiter) (k : Nat) (x : Waiter) : (WaiterS l).set k (Waiter.cl x) = WaiterS (l.set k x) := by
  simp [WaiterS, List.map_set]
theorem WaiterS_nfz (n : Nat) (l : List Waiter) : nfzB n (some ⟨3, WaiterS l⟩) = true := by
  simp [nfzB, WaiterS, nfz_int, nfz_bool]
@[simp] theorem WaiterS_renB (ids : List Nat) (l : List Waiter) : renB ids (some ⟨3, WaiterS l⟩) = some ⟨3, WaiterS l⟩ := by
  simp [renB]
@[simp] theorem mkWaiter_take (s : Int) (k : Nat) : List.take k (WaiterS (mkWaiter s k)) = WaiterS (mkWaiter s k) := List.take_of_length_le (by simp)
theorem mark_WaiterS0 (l : List Waiter) (s : Int) (hl : l.length ≤ 2 ^ 40) (hs : 0 ≤ s) (hs2 : s ≤ 2 ^ 50) : CallS Tryz.prog 144 [.sl 0 0 l.length, .int .i64 s] ([some ⟨3, WaiterS l⟩]) (fun o h' => o = .int .i64 (s + 3 * (l.length : Int)) ∧ h' = [some ⟨3, WaiterS (mkWaiter s l.length)⟩]) := by
  refine CallS.intro Tryz.func144 (by decide) rfl (rs := [.tmp 4]) rfl Tryz.ntmps144 (by simp) ?_; refine SW.ra ?_; refine SW.seqK fun K1 hK1 => ?_; refine SW.ra ?_; refine SW.block ?_
  refine SW.loop (α := Nat) (fun k => ⟨[(5, .int .i64 k), (1, .int .i64 (s + 3 * (k : Int))), (0, .sl 0 0 l.length)], [some ⟨3, (WaiterS (mkWaiter s k ++ l.drop k))⟩]⟩) (fun k => k ≤ l.length) (fun k => l.length - k) (0) ?_ ?_ (fun k hx => ?_)
  case' refine_1 =>
   simp
  case' refine_2 =>
   refine Wk.softH (by simp [softE, softV]) (by simp)
  case' refine_3 =>
   skip
   refine SW.seqK fun K2 hK2 => ?_; refine SW.ra ?_; refine SW.cond _ rfl (by simp) ?_ ?_
   case' refine_2 =>
    intro hb1; have hk : k = l.length := by simp at hb1; omega
    refine SW.exit ?_; simp only [Ex.then, Ex.ib]; try simp only [if_true, if_false, reduceIte]
    refine hK1 _ ?_; refine SW.ra ?_; refine SW.ret ?_; simp [Ex.then, Ex.ib]; subst hk; simp
   rotate_right
   case' _ =>
    intro hb1; have hlt : k < l.length := by simp at hb1; omega
    obtain ⟨x, hxk⟩ : ∃ x, l[k]? = some x := ⟨_, List.getElem?_eq_getElem hlt⟩
    have hxm := List.mem_of_getElem? hxk
    have hmid : (WaiterS (mkWaiter s k ++ l.drop k))[k]? = some [.int .i64 x.g, .int .i64 x.cas, .int .i64 x.v] := by rw [WaiterS_get, mkL_mid hxk]; rfl
    have hset : (WaiterS (mkWaiter s k ++ l.drop k)).set k [.int .i64 (s + 3 * (k : Int)), .int .i64 (s + 3 * (k : Int) + 1), .int .i64 (s + 3 * (k : Int) + 1 + 1)] = WaiterS (mkWaiter s (k + 1) ++ l.drop (k + 1)) := by rw [← mkL_set hlt, ← WaiterS_setL]; first | rfl | simp [mkInt1]
    have hss : ∀ v, ((WaiterS (mkWaiter s k ++ l.drop k)).set k v)[k]? = some v := fun v => by rw [List.getElem?_set_self (by simp; omega)]
    have hw1 := wrapI (s + 3 * (k : Int) + 1) (by omega) (by omega)
    have hw2 := wrapI (s + 3 * (k : Int) + 1 + 1) (by omega) (by omega)
    have hw3 := wrapI (s + 3 * (k : Int) + 1 + 1 + 1) (by omega) (by omega)
    refine SW.skip ?_; refine hK2 _ ?_; refine SW.seqK fun K3 hK3 => ?_; refine SW.block ?_; refine SW.rg fun K hK => ?_; simp -implicitDefEqProofs [hmid, hlt, hss, splice]; repeat refine ⟨by omega, ?_⟩
    refine hK _ ?_; clear hK K; refine SW.rg fun K hK => ?_; simp -implicitDefEqProofs [hw1]; repeat refine ⟨by omega, ?_⟩
    refine hK _ ?_; clear hK K; refine SW.rg fun K hK => ?_; simp -implicitDefEqProofs [hmid, hlt, hss, splice]; repeat refine ⟨by omega, ?_⟩
    refine hK _ ?_; clear hK K; refine SW.rg fun K hK => ?_; simp -implicitDefEqProofs [hw2]; repeat refine ⟨by omega, ?_⟩
    refine hK _ ?_; clear hK K; refine SW.rg fun K hK => ?_; simp -implicitDefEqProofs [hmid, hlt, hss, splice]; repeat refine ⟨by omega, ?_⟩
    refine hK _ ?_; clear hK K; refine SW.regionE fun K hK => ?_; simp -implicitDefEqProofs [hw3]; repeat refine ⟨by omega, ?_⟩
    refine hK _ ?_; clear hK K; refine hK3 _ ?_; refine SW.ea ?_; refine ⟨k + 1, by omega, by omega, ?_⟩; refine Wk.softH (by simp [softE, softV, wrap1 k (by omega)]; try omega) (by simp [hset])
theorem mark_WaiterS (l : List Waiter) (s : Int) (H : Heap) (id n : Nat) (hn : l.length = n) (hh : H[id]? = some (some ⟨3, WaiterS l⟩)) (hl : n ≤ 2 ^ 40) (hs : 0 ≤ s) (hs2 : s ≤ 2 ^ 50) :
    CallS Tryz.prog 144 [.sl id 0 n, .int .i64 s] H (fun o h' => o = .int .i64 (s + 3 * (n : Int)) ∧ h' = H.set id (some ⟨3, WaiterS (mkWaiter s n)⟩)) := by
  subst hn; have hi : id < H.length := (List.getElem?_eq_some_iff.1 hh).1
  refine CallS.mono (CallS.frame [id] (mark_WaiterS0 l s hl hs hs2) (by simp) (by simp) (by simp) (by simpa using hi) (by simp [renH, hh]) (by simp) (by simp) ?_) ?_
  · rintro o h' ⟨rfl, rfl⟩
    refine ⟨by simp, ?_, by simp, rfl⟩; intro x hx; simp only [List.mem_singleton] at hx; subst hx; exact WaiterS_nfz _ _
  · rintro o h' ⟨o0, h0, ⟨rfl, rfl⟩, rfl, rfl⟩
    exact ⟨by simp, by rw [frame1, WaiterS_renB]⟩
def Mutex.wt (d : Mutex) : Nat := 1 + d.wait.length
def Mutex.ln (d : Mutex) : List Nat := [d.wait.length]
theorem MutexSo_nfz (n : Nat) (l : List Mutex) : nfzB n (some ⟨2, MutexSo l⟩) = true := by
  simp [nfzB, MutexSo, nfz_int, nfz_bool, nfz_own, -strN]
@[simp] theorem MutexSo_renB (ids : List Nat) (l : List Mutex) : renB ids (some ⟨2, MutexSo l⟩) = some ⟨2, MutexSo l⟩ := by
  simp [renB]
def Gor.wt (d : Gor) : Nat := 1 + 1 + d.regs.length + 1 + 4 * d.trace.length
def Gor.ln (d : Gor) : List Nat := [d.regs.length, d.trace.length]
theorem GorSo_nfz (n : Nat) (l : List Gor) : nfzB n (some ⟨5, GorSo l⟩) = true := by
  simp [nfzB, GorSo, nfz_int, nfz_bool, nfz_own, -strN]
@[simp] theorem GorSo_renB (ids : List Nat) (l : List Gor) : renB ids (some ⟨5, GorSo l⟩) = some ⟨5, GorSo l⟩ := by
  simp [renB]
def Chan.wt (d : Chan) : Nat := 1 + d.buf.length + 3 * d.sends.length + 3 * d.recvs.length + 1
def Chan.ln (d : Chan) : List Nat := [d.buf.length, d.sends.length, d.recvs.length]
theorem ChanSo_nfz (n : Nat) (l : List Chan) : nfzB n (some ⟨5, ChanSo l⟩) = true := by
  simp [nfzB, ChanSo, nfz_int, nfz_bool, nfz_own, -strN]
@[simp] theorem ChanSo_renB (ids : List Nat) (l : List Chan) : renB ids (some ⟨5, ChanSo l⟩) = some ⟨5, ChanSo l⟩ := by
  simp [renB]
end HT
