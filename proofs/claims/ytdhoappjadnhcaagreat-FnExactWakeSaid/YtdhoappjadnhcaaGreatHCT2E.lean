import Derived.Test.YtdhoappjadnhcaaGreatG4
/-
  My own texts (road H): HCT2E.
-/
set_option maxHeartbeats 8000000
set_option linter.unusedSimpArgs false
set_option linter.unusedVariables false
namespace HT
open Go Go.Proofs HK
theorem toChan_ok (d : Chan) (h : d.ok) : Fn Tryz.prog 119 [.agg d.fr] (.agg d.ow) := by
  refine Fn.intro Tryz.func119 (by decide) rfl (rs := [.cell 2 175]) rfl Tryz.ntmps119 (by simp) ?_; unfold Chan.ok at h; obtain ⟨b1, b2, b3⟩ := h; refine SW.ra ?_; refine SW.ra ?_; refine SW.ra ?_; refine SW.rg fun K hK => ?_
  simp -implicitDefEqProofs; iterate 2 (try refine ⟨by omega, ?_⟩)
  refine CallK.imE (toIntS_ok d.buf b1) (by simp) (IntS_okI _) ?_; simp -implicitDefEqProofs; repeat refine ⟨by omega, ?_⟩
  refine hK _ ?_; clear hK K; refine SW.rg fun K hK => ?_; simp -implicitDefEqProofs; iterate 2 (try refine ⟨by omega, ?_⟩)
  refine CallK.imE (toWaiterS_ok d.sends b2) (by simp) (WaiterS_okI _) ?_; simp -implicitDefEqProofs; repeat refine ⟨by omega, ?_⟩
  refine hK _ ?_; clear hK K; refine SW.rg fun K hK => ?_; simp -implicitDefEqProofs; iterate 2 (try refine ⟨by omega, ?_⟩)
  refine CallK.imE (toWaiterS_ok d.recvs b3) (by simp) (WaiterS_okI _) ?_; simp -implicitDefEqProofs; repeat refine ⟨by omega, ?_⟩
  refine hK _ ?_; clear hK K; refine SW.ra ?_; refine SW.ra ?_; refine SW.ret ?_; simp [Ex.then, Ex.ib, -strN]
  all_goals (try simp)
theorem eqChan_ok (d : Chan) (h : d.ok) : Fn Tryz.prog 137 [.agg d.fr, .agg d.fr] (.bool true) := by
  refine Fn.intro Tryz.func137 (by decide) rfl (rs := [.tmp 4]) rfl Tryz.ntmps137 (by simp) ?_; unfold Chan.ok at h; obtain ⟨b1, b2, b3⟩ := h; refine SW.ra ?_; refine SW.seqK fun K1 hK1 => ?_; refine SW.ra ?_
  refine SW.cond _ rfl (by simp) ?_ ?_
  case' refine_1 =>
   intro hb1; exfalso; simp at hb1
  intro hb1; refine SW.skip ?_; refine hK1 _ ?_; refine SW.seqK fun K2 hK2 => ?_; refine SW.rg fun K hK => ?_; simp -implicitDefEqProofs; iterate 2 (try refine ⟨by omega, ?_⟩)
  refine CallK.fz (eqIntS_ok d.buf b1) ?_; simp -implicitDefEqProofs; repeat refine ⟨by omega, ?_⟩
  refine hK _ ?_; clear hK K; refine SW.cond _ rfl (by simp) ?_ ?_
  case' refine_1 =>
   intro hb2; exfalso; simp at hb2
  intro hb2; refine SW.skip ?_; refine hK2 _ ?_; refine SW.seqK fun K3 hK3 => ?_; refine SW.rg fun K hK => ?_; simp -implicitDefEqProofs; iterate 2 (try refine ⟨by omega, ?_⟩)
  refine CallK.fz (eqWaiterS_ok d.sends b2) ?_; simp -implicitDefEqProofs; repeat refine ⟨by omega, ?_⟩
  refine hK _ ?_; clear hK K; refine SW.cond _ rfl (by simp) ?_ ?_
  case' refine_1 =>
   intro hb3; exfalso; simp at hb3
  intro hb3; refine SW.skip ?_; refine hK3 _ ?_; refine SW.seqK fun K4 hK4 => ?_; refine SW.rg fun K hK => ?_; simp -implicitDefEqProofs; iterate 2 (try refine ⟨by omega, ?_⟩)
  refine CallK.fz (eqWaiterS_ok d.recvs b3) ?_; simp -implicitDefEqProofs; repeat refine ⟨by omega, ?_⟩
  refine hK _ ?_; clear hK K; refine SW.cond _ rfl (by simp) ?_ ?_
  case' refine_1 =>
   intro hb4; exfalso; simp at hb4
  intro hb4; refine SW.skip ?_; refine hK4 _ ?_; refine SW.seqK fun K5 hK5 => ?_; refine SW.ra ?_; refine SW.cond _ rfl (by simp) ?_ ?_
  case' refine_1 =>
   intro hb5; exfalso; simp at hb5
  intro hb5; refine SW.skip ?_; refine hK5 _ ?_; refine SW.ra ?_; refine SW.ret ?_; simp [Ex.then, Ex.ib]
theorem toChanS_ok (l : List Chan) (hl0 : l.length ≤ 1048576 ∧ ∀ x ∈ l, x.ok) : Fn Tryz.prog 54 [.fz (ChanSf l)] (.own 5 (ChanSo l)) := by
  refine Fn.intro Tryz.func54 (by decide) rfl (rs := [.tmp 2]) rfl Tryz.ntmps54 (by simp) ?_; obtain ⟨hl, hok⟩ := hl0; refine SW.ra ?_; refine SW.ra ?_; refine SW.seqK fun K1 hK1 => ?_; refine SW.ra ?_; refine SW.block ?_
  refine SW.loop (α := Nat) (fun k => ⟨[(4, .int .i64 k), (3, .sl 0 0 l.length), (0, .fz (ChanSf l))], [some ⟨5, (ChanSo l).take k ++ List.replicate (l.length - k) ([.int .i64 0, .nil, .nil, .nil, .bool false] : List AV)⟩]⟩) (fun k => k ≤ l.length) (fun k => l.length - k) (0) ?_ ?_ (fun k hx => ?_)
  case' refine_1 =>
   simp
  case' refine_2 =>
   exact Wk.cut (by simp) (by simp [subE]) (by simp [cutH]) (by simp [lowE, lowN]) (by simp [lowEs_rep])
  case' refine_3 =>
   skip
   refine SW.seqK fun K2 hK2 => ?_; refine SW.ra ?_; refine SW.cond _ rfl (by simp) ?_ ?_
   case' refine_1 =>
    intro hb1; have hlt : k < l.length := by simp at hb1; omega
    obtain ⟨x, hxk⟩ : ∃ x, l[k]? = some x := ⟨_, List.getElem?_eq_getElem hlt⟩
    have hxm := List.mem_of_getElem? hxk
    have hz := getS ([.int .i64 0, .nil, .nil, .nil, .bool false] : List AV) (ChanSo l) k (by simpa using hlt)
    have hset := fillS ([.int .i64 0, .nil, .nil, .nil, .bool false] : List AV) (ChanSo l) k x.ow (by simp [hxk])
    simp only [ChanSo_length, Chan.ow] at hz hset; refine SW.skip ?_; refine hK2 _ ?_; refine SW.seqK fun K3 hK3 => ?_; refine SW.block ?_; refine SW.regionE fun K hK => ?_; simp -implicitDefEqProofs [hxk, hz]
    iterate 2 (try refine ⟨by omega, ?_⟩)
    refine CallK.imE (toChan_ok x (hok x hxm)) (by simp) (Chan_oI x) ?_; simp -implicitDefEqProofs [hxk, hz]; repeat refine ⟨by omega, ?_⟩
    refine hK _ ?_; clear hK K; refine hK3 _ ?_; refine SW.ea ?_; refine ⟨k + 1, by omega, by omega, ?_⟩
    refine Wk.trans (Wk.foldE (env' := [(4, .int .i64 (k + 1 : Nat)), (3, .sl 0 0 l.length), (0, .fz (ChanSf l))]) (h := [some ⟨5, ((ChanSo l).take k ++ List.replicate (l.length - k) ([.int .i64 0, .nil, .nil, .nil, .bool false] : List AV)).set k [.int .i64 x.cap, .sl 1 0 x.buf.length, .sl 2 0 x.sends.length, .sl 3 0 x.recvs.length, .bool x.closed]⟩, some ⟨1, IntS x.buf⟩, some ⟨3, WaiterS x.sends⟩]) (h' := [some ⟨5, ((ChanSo l).take k ++ List.replicate (l.length - k) ([.int .i64 0, .nil, .nil, .nil, .bool false] : List AV)).set k [.int .i64 x.cap, .sl 1 0 x.buf.length, .sl 2 0 x.sends.length, .own 3 (WaiterS x.recvs), .bool x.closed]⟩, some ⟨1, IntS x.buf⟩, some ⟨3, WaiterS x.sends⟩]) (p := 0) (i := k) (c := 3) (szB := 5) (sz := 3) (es := ((ChanSo l).take k ++ List.replicate (l.length - k) ([.int .i64 0, .nil, .nil, .nil, .bool false] : List AV)).set k [.int .i64 x.cap, .sl 1 0 x.buf.length, .sl 2 0 x.sends.length, .sl 3 0 x.recvs.length, .bool x.closed]) (esj := WaiterS x.recvs) [.int .i64 x.cap, .sl 1 0 x.buf.length, .sl 2 0 x.sends.length, .sl 3 0 x.recvs.length, .bool x.closed] (by simp) (by simp) (by rw [List.getElem?_set_self (by simp; omega)]) (by simp) (by simp) (by simp) (by simp [subE, wrap1 k (by omega)]) (by simp [lowE, lowN]) (by simp [List.set_set]) (by simp [lowEs_set, lowEs_rep])) ?_
    refine Wk.trans (Wk.foldE (env' := [(4, .int .i64 (k + 1 : Nat)), (3, .sl 0 0 l.length), (0, .fz (ChanSf l))]) (h := [some ⟨5, ((ChanSo l).take k ++ List.replicate (l.length - k) ([.int .i64 0, .nil, .nil, .nil, .bool false] : List AV)).set k [.int .i64 x.cap, .sl 1 0 x.buf.length, .sl 2 0 x.sends.length, .own 3 (WaiterS x.recvs), .bool x.closed]⟩, some ⟨1, IntS x.buf⟩]) (h' := [some ⟨5, ((ChanSo l).take k ++ List.replicate (l.length - k) ([.int .i64 0, .nil, .nil, .nil, .bool false] : List AV)).set k [.int .i64 x.cap, .sl 1 0 x.buf.length, .own 3 (WaiterS x.sends), .own 3 (WaiterS x.recvs), .bool x.closed]⟩, some ⟨1, IntS x.buf⟩]) (p := 0) (i := k) (c := 2) (szB := 5) (sz := 3) (es := ((ChanSo l).take k ++ List.replicate (l.length - k) ([.int .i64 0, .nil, .nil, .nil, .bool false] : List AV)).set k [.int .i64 x.cap, .sl 1 0 x.buf.length, .sl 2 0 x.sends.length, .own 3 (WaiterS x.recvs), .bool x.closed]) (esj := WaiterS x.sends) [.int .i64 x.cap, .sl 1 0 x.buf.length, .sl 2 0 x.sends.length, .own 3 (WaiterS x.recvs), .bool x.closed] (by simp) (by simp) (by rw [List.getElem?_set_self (by simp; omega)]) (by simp) (by simp) (by simp) (by simp [subE]) (by simp [lowE, lowN]) (by simp [List.set_set]) (by simp [lowEs_set, lowEs_rep])) ?_
    exact Wk.foldE (env' := [(4, .int .i64 (k + 1 : Nat)), (3, .sl 0 0 l.length), (0, .fz (ChanSf l))]) (h := [some ⟨5, ((ChanSo l).take k ++ List.replicate (l.length - k) ([.int .i64 0, .nil, .nil, .nil, .bool false] : List AV)).set k [.int .i64 x.cap, .sl 1 0 x.buf.length, .own 3 (WaiterS x.sends), .own 3 (WaiterS x.recvs), .bool x.closed]⟩]) (p := 0) (i := k) (c := 1) (szB := 5) (sz := 1) (es := ((ChanSo l).take k ++ List.replicate (l.length - k) ([.int .i64 0, .nil, .nil, .nil, .bool false] : List AV)).set k [.int .i64 x.cap, .sl 1 0 x.buf.length, .own 3 (WaiterS x.sends), .own 3 (WaiterS x.recvs), .bool x.closed]) (esj := IntS x.buf) [.int .i64 x.cap, .sl 1 0 x.buf.length, .own 3 (WaiterS x.sends), .own 3 (WaiterS x.recvs), .bool x.closed] (by simp) (by simp) (by rw [List.getElem?_set_self (by simp; omega)]) (by simp) (by simp) (by simp) (by simp [subE]) (by simp [lowE, lowN]) (by simp [List.set_set, ← hset]) (by simp [lowEs_set, lowEs_rep])
   intro hb1; have hk : k = l.length := by simp at hb1; omega
   subst hk; refine SW.exit ?_; simp only [Ex.then, Ex.ib]; try simp only [if_true, if_false, reduceIte]
   refine hK1 _ ?_; refine SW.ra ?_; refine SW.ret ?_; simp [Ex.then, Ex.ib, -strN]
   all_goals (try simp)
theorem eqChanS_ok (l : List Chan) (hl0 : l.length ≤ 1048576 ∧ ∀ x ∈ l, x.ok) : Fn Tryz.prog 63 [.fz (ChanSf l), .fz (ChanSf l)] (.bool true) := by
  refine Fn.intro Tryz.func63 (by decide) rfl (rs := [.tmp 4]) rfl Tryz.ntmps63 (by simp) ?_; obtain ⟨hl, hok⟩ := hl0; refine SW.ra ?_; refine SW.seqK fun K1 hK1 => ?_; refine SW.ra ?_; refine SW.cond _ rfl (by simp) ?_ ?_
  case' refine_1 =>
   intro hb1; exfalso; simp at hb1
  intro hb1; refine SW.skip ?_; refine hK1 _ ?_; refine SW.seqK fun K2 hK2 => ?_; refine SW.ra ?_; refine SW.block ?_
  refine SW.loop (α := Nat) (fun k => ⟨[(5, .int .i64 k), (0, .fz (ChanSf l)), (1, .fz (ChanSf l))], []⟩) (fun k => k ≤ l.length) (fun k => l.length - k) (0) ?_ ?_ (fun k hx => ?_)
  case' refine_1 =>
   simp
  case' refine_2 =>
   exact Wk.cut (by simp) (by simp [subE]) (by simp [cutH]) (by simp [lowE, lowN]) (by simp)
  case' refine_3 =>
   skip
   refine SW.seqK fun K3 hK3 => ?_; refine SW.ra ?_; refine SW.cond _ rfl (by simp) ?_ ?_
   case' refine_1 =>
    intro hb2; have hlt : k < l.length := by simp at hb2; omega
    obtain ⟨x, hxk⟩ : ∃ x, l[k]? = some x := ⟨_, List.getElem?_eq_getElem hlt⟩
    have hxm := List.mem_of_getElem? hxk
    refine SW.skip ?_; refine hK3 _ ?_; refine SW.seqK fun K4 hK4 => ?_; refine SW.block ?_
    refine SW.drawK mixed [.q [(0, false), (1, false), (2, false), (3, false), (4, false), (5, false), (6, false), (7, false), (8, false), (9, false)]] (by kernel_rfl) rfl fun K hK => ?_; simp -implicitDefEqProofs [hxk]
    iterate 2 (try refine ⟨by omega, ?_⟩)
    refine CallQ.fz (eqChan_ok x (hok x hxm)) ?_; simp -implicitDefEqProofs [hxk]; repeat refine ⟨by omega, ?_⟩
    refine hK _ ?_; clear hK K; refine SW.cond _ rfl (by simp) ?_ ?_
    case' refine_1 =>
     intro hb3; exfalso; simp at hb3
    intro hb3; refine SW.skip ?_; refine hK4 _ ?_; refine SW.ea ?_; refine ⟨k + 1, by omega, by omega, ?_⟩; exact Wk.cut (by simp) (by simp [subE, wrap1 k (by omega)]) (by simp [cutH]) (by simp [lowE, lowN]) (by simp)
   intro hb2; refine SW.exit ?_; simp only [Ex.then, Ex.ib]; try simp only [if_true, if_false, reduceIte]
   refine hK2 _ ?_; refine SW.ra ?_; refine SW.ret ?_; simp [Ex.then, Ex.ib]
theorem toMutex_ok (d : Mutex) (h : d.ok) : Fn Tryz.prog 120 [.agg d.fr] (.agg d.ow) := by
  refine Fn.intro Tryz.func120 (by decide) rfl (rs := [.cell 2 177]) rfl Tryz.ntmps120 (by simp) ?_; unfold Mutex.ok at h; have b1 := h
  refine SW.ra ?_; refine SW.ra ?_; refine SW.ra ?_; refine SW.rg fun K hK => ?_; simp -implicitDefEqProofs; iterate 2 (try refine ⟨by omega, ?_⟩)
  refine CallK.imE (toIntS_ok d.wait b1) (by simp) (IntS_okI _) ?_; simp -implicitDefEqProofs; repeat refine ⟨by omega, ?_⟩
  refine hK _ ?_; clear hK K; refine SW.ra ?_; refine SW.ret ?_; simp [Ex.then, Ex.ib, -strN]
  all_goals (try simp)
theorem eqMutex_ok (d : Mutex) (h : d.ok) : Fn Tryz.prog 138 [.agg d.fr, .agg d.fr] (.bool true) := by
  refine Fn.intro Tryz.func138 (by decide) rfl (rs := [.tmp 4]) rfl Tryz.ntmps138 (by simp) ?_; unfold Mutex.ok at h; have b1 := h
  refine SW.ra ?_; refine SW.seqK fun K1 hK1 => ?_; refine SW.ra ?_; refine SW.cond _ rfl (by simp) ?_ ?_
  case' refine_1 =>
   intro hb1; exfalso; simp at hb1
  intro hb1; refine SW.skip ?_; refine hK1 _ ?_; refine SW.seqK fun K2 hK2 => ?_; refine SW.rg fun K hK => ?_; simp -implicitDefEqProofs; iterate 2 (try refine ⟨by omega, ?_⟩)
  refine CallK.fz (eqIntS_ok d.wait b1) ?_; simp -implicitDefEqProofs; repeat refine ⟨by omega, ?_⟩
  refine hK _ ?_; clear hK K; refine SW.cond _ rfl (by simp) ?_ ?_
  case' refine_1 =>
   intro hb2; exfalso; simp at hb2
  intro hb2; refine SW.skip ?_; refine hK2 _ ?_; refine SW.ra ?_; refine SW.ret ?_; simp [Ex.then, Ex.ib]
theorem toMutexS_ok (l : List Mutex) (hl0 : l.length ≤ 1048576 ∧ ∀ x ∈ l, x.ok) : Fn Tryz.prog 55 [.fz (MutexSf l)] (.own 2 (MutexSo l)) := by
  refine Fn.intro Tryz.func55 (by decide) rfl (rs := [.tmp 2]) rfl Tryz.ntmps55 (by simp) ?_; obtain ⟨hl, hok⟩ := hl0; refine SW.ra ?_; refine SW.ra ?_; refine SW.seqK fun K1 hK1 => ?_; refine SW.ra ?_; refine SW.block ?_
  refine SW.loop (α := Nat) (fun k => ⟨[(4, .int .i64 k), (3, .sl 0 0 l.length), (0, .fz (MutexSf l))], [some ⟨2, (MutexSo l).take k ++ List.replicate (l.length - k) ([.int .i64 0, .nil] : List AV)⟩]⟩) (fun k => k ≤ l.length) (fun k => l.length - k) (0) ?_ ?_ (fun k hx => ?_)
  case' refine_1 =>
   simp
  case' refine_2 =>
   exact Wk.cut (by simp) (by simp [subE]) (by simp [cutH]) (by simp [lowE, lowN]) (by simp [lowEs_rep])
  case' refine_3 =>
   skip
   refine SW.seqK fun K2 hK2 => ?_; refine SW.ra ?_; refine SW.cond _ rfl (by simp) ?_ ?_
   case' refine_1 =>
    intro hb1; have hlt : k < l.length := by simp at hb1; omega
    obtain ⟨x, hxk⟩ : ∃ x, l[k]? = some x := ⟨_, List.getElem?_eq_getElem hlt⟩
    have hxm := List.mem_of_getElem? hxk
    have hz := getS ([.int .i64 0, .nil] : List AV) (MutexSo l) k (by simpa using hlt)
    have hset := fillS ([.int .i64 0, .nil] : List AV) (MutexSo l) k x.ow (by simp [hxk])
    simp only [MutexSo_length, Mutex.ow] at hz hset; refine SW.skip ?_; refine hK2 _ ?_; refine SW.seqK fun K3 hK3 => ?_; refine SW.block ?_; refine SW.regionE fun K hK => ?_; simp -implicitDefEqProofs [hxk, hz]
    iterate 2 (try refine ⟨by omega, ?_⟩)
    refine CallK.imE (toMutex_ok x (hok x hxm)) (by simp) (Mutex_oI x) ?_; simp -implicitDefEqProofs [hxk, hz]; repeat refine ⟨by omega, ?_⟩
    refine hK _ ?_; clear hK K; refine hK3 _ ?_; refine SW.ea ?_; refine ⟨k + 1, by omega, by omega, ?_⟩
    exact Wk.foldE (env' := [(4, .int .i64 (k + 1 : Nat)), (3, .sl 0 0 l.length), (0, .fz (MutexSf l))]) (h := [some ⟨2, ((MutexSo l).take k ++ List.replicate (l.length - k) ([.int .i64 0, .nil] : List AV)).set k [.int .i64 x.owner, .sl 1 0 x.wait.length]⟩]) (p := 0) (i := k) (c := 1) (szB := 2) (sz := 1) (es := ((MutexSo l).take k ++ List.replicate (l.length - k) ([.int .i64 0, .nil] : List AV)).set k [.int .i64 x.owner, .sl 1 0 x.wait.length]) (esj := IntS x.wait) [.int .i64 x.owner, .sl 1 0 x.wait.length] (by simp) (by simp) (by rw [List.getElem?_set_self (by simp; omega)]) (by simp) (by simp) (by simp) (by simp [subE, wrap1 k (by omega)]) (by simp [lowE, lowN]) (by simp [List.set_set, ← hset]) (by simp [lowEs_set, lowEs_rep])
   intro hb1; have hk : k = l.length := by simp at hb1; omega
   subst hk; refine SW.exit ?_; simp only [Ex.then, Ex.ib]; try simp only [if_true, if_false, reduceIte]
   refine hK1 _ ?_; refine SW.ra ?_; refine SW.ret ?_; simp [Ex.then, Ex.ib, -strN]
   all_goals (try simp)
theorem eqMutexS_ok (l : List Mutex) (hl0 : l.length ≤ 1048576 ∧ ∀ x ∈ l, x.ok) : Fn Tryz.prog 64 [.fz (MutexSf l), .fz (MutexSf l)] (.bool true) := by
  refine Fn.intro Tryz.func64 (by decide) rfl (rs := [.tmp 4]) rfl Tryz.ntmps64 (by simp) ?_; obtain ⟨hl, hok⟩ := hl0; refine SW.ra ?_; refine SW.seqK fun K1 hK1 => ?_; refine SW.ra ?_; refine SW.cond _ rfl (by simp) ?_ ?_
  case' refine_1 =>
   intro hb1; exfalso; simp at hb1
  intro hb1; refine SW.skip ?_; refine hK1 _ ?_; refine SW.seqK fun K2 hK2 => ?_; refine SW.ra ?_; refine SW.block ?_
  refine SW.loop (α := Nat) (fun k => ⟨[(5, .int .i64 k), (0, .fz (MutexSf l)), (1, .fz (MutexSf l))], []⟩) (fun k => k ≤ l.length) (fun k => l.length - k) (0) ?_ ?_ (fun k hx => ?_)
  case' refine_1 =>
   simp
  case' refine_2 =>
   exact Wk.cut (by simp) (by simp [subE]) (by simp [cutH]) (by simp [lowE, lowN]) (by simp)
  case' refine_3 =>
   skip
   refine SW.seqK fun K3 hK3 => ?_; refine SW.ra ?_; refine SW.cond _ rfl (by simp) ?_ ?_
   case' refine_1 =>
    intro hb2; have hlt : k < l.length := by simp at hb2; omega
    obtain ⟨x, hxk⟩ : ∃ x, l[k]? = some x := ⟨_, List.getElem?_eq_getElem hlt⟩
    have hxm := List.mem_of_getElem? hxk
    refine SW.skip ?_; refine hK3 _ ?_; refine SW.seqK fun K4 hK4 => ?_; refine SW.block ?_
    refine SW.drawK mixed [.q [(0, false), (1, false), (2, false), (3, false), (4, false), (5, false), (6, false), (7, false), (8, false), (9, false)]] (by kernel_rfl) rfl fun K hK => ?_; simp -implicitDefEqProofs [hxk]
    iterate 2 (try refine ⟨by omega, ?_⟩)
    refine CallQ.fz (eqMutex_ok x (hok x hxm)) ?_; simp -implicitDefEqProofs [hxk]; repeat refine ⟨by omega, ?_⟩
    refine hK _ ?_; clear hK K; refine SW.cond _ rfl (by simp) ?_ ?_
    case' refine_1 =>
     intro hb3; exfalso; simp at hb3
    intro hb3; refine SW.skip ?_; refine hK4 _ ?_; refine SW.ea ?_; refine ⟨k + 1, by omega, by omega, ?_⟩; exact Wk.cut (by simp) (by simp [subE, wrap1 k (by omega)]) (by simp [cutH]) (by simp [lowE, lowN]) (by simp)
   intro hb2; refine SW.exit ?_; simp only [Ex.then, Ex.ib]; try simp only [if_true, if_false, reduceIte]
   refine hK2 _ ?_; refine SW.ra ?_; refine SW.ret ?_; simp [Ex.then, Ex.ib]
theorem toEng_ok (d : Eng) (h : d.ok) : Fn Tryz.prog 12 [.agg d.fr] (.agg d.ow) := by
  refine Fn.intro Tryz.func12 (by decide) rfl (rs := [.cell 2 40]) rfl Tryz.ntmps12 (by simp) ?_; unfold Eng.ok at h; obtain ⟨b0, c0, b1, c1, b2, c2⟩ := h; refine SW.ra ?_; refine SW.ra ?_; refine SW.rg fun K hK => ?_
  simp -implicitDefEqProofs; iterate 2 (try refine ⟨by omega, ?_⟩)
  refine CallK.imE (toGorS_ok d.gs ⟨b0, c0⟩) (by simp) (GorSo_okI _) ?_; simp -implicitDefEqProofs; repeat refine ⟨by omega, ?_⟩
  refine hK _ ?_; clear hK K; refine SW.rg fun K hK => ?_; simp -implicitDefEqProofs; iterate 2 (try refine ⟨by omega, ?_⟩)
  refine CallK.imE (toChanS_ok d.chans ⟨b1, c1⟩) (by simp) (ChanSo_okI _) ?_; simp -implicitDefEqProofs; repeat refine ⟨by omega, ?_⟩
  refine hK _ ?_; clear hK K; refine SW.rg fun K hK => ?_; simp -implicitDefEqProofs; iterate 2 (try refine ⟨by omega, ?_⟩)
  refine CallK.imE (toMutexS_ok d.mus ⟨b2, c2⟩) (by simp) (MutexSo_okI _) ?_; simp -implicitDefEqProofs; repeat refine ⟨by omega, ?_⟩
  refine hK _ ?_; clear hK K; refine SW.ra ?_; refine SW.ret ?_; simp [Ex.then, Ex.ib, -strN]
  all_goals (try simp)
theorem eqEng_ok (d : Eng) (h : d.ok) : Fn Tryz.prog 15 [.agg d.fr, .agg d.fr] (.bool true) := by
  refine Fn.intro Tryz.func15 (by decide) rfl (rs := [.tmp 4]) rfl Tryz.ntmps15 (by simp) ?_; unfold Eng.ok at h; obtain ⟨b0, c0, b1, c1, b2, c2⟩ := h; refine SW.ra ?_; refine SW.seqK fun K1 hK1 => ?_; refine SW.rg fun K hK => ?_
  simp -implicitDefEqProofs; iterate 2 (try refine ⟨by omega, ?_⟩)
  refine CallK.fz (eqGorS_ok d.gs ⟨b0, c0⟩) ?_; simp -implicitDefEqProofs; repeat refine ⟨by omega, ?_⟩
  refine hK _ ?_; clear hK K; refine SW.cond _ rfl (by simp) ?_ ?_
  case' refine_1 =>
   intro hb1; exfalso; simp at hb1
  intro hb1; refine SW.skip ?_; refine hK1 _ ?_; refine SW.seqK fun K2 hK2 => ?_; refine SW.rg fun K hK => ?_; simp -implicitDefEqProofs; iterate 2 (try refine ⟨by omega, ?_⟩)
  refine CallK.fz (eqChanS_ok d.chans ⟨b1, c1⟩) ?_; simp -implicitDefEqProofs; repeat refine ⟨by omega, ?_⟩
  refine hK _ ?_; clear hK K; refine SW.cond _ rfl (by simp) ?_ ?_
  case' refine_1 =>
   intro hb2; exfalso; simp at hb2
  intro hb2; refine SW.skip ?_; refine hK2 _ ?_; refine SW.seqK fun K3 hK3 => ?_; refine SW.rg fun K hK => ?_; simp -implicitDefEqProofs; iterate 2 (try refine ⟨by omega, ?_⟩)
  refine CallK.fz (eqMutexS_ok d.mus ⟨b2, c2⟩) ?_; simp -implicitDefEqProofs; repeat refine ⟨by omega, ?_⟩
  refine hK _ ?_; clear hK K; refine SW.cond _ rfl (by simp) ?_ ?_
  case' refine_1 =>
   intro hb3; exfalso; simp at hb3
  intro hb3; refine SW.skip ?_; refine hK3 _ ?_; refine SW.ra ?_; refine SW.ret ?_; simp [Ex.then, Ex.ib]
end HT
