import Derived.Test.YtdhoappjadnhcaaGreatHCA3
/-
  My own texts (road H): HCA4.
-/
set_option maxHeartbeats 8000000
set_option linter.unusedSimpArgs false
set_option linter.unusedVariables false
namespace HT
open Go Go.Proofs HK
theorem drop_i (l : List Waiter) (n : Int) (hl : l.length ≤ 2 ^ 29) : Fn Tryz.prog 207 [.fz (WaiterS l), .int .i64 n] (.own 3 (WaiterS (dropW l n))) := by
  refine Fn.intro Tryz.func207 (by decide) rfl (rs := [.tmp 4]) rfl Tryz.ntmps207 (by simp) ?_; refine SW.ra ?_; refine SW.rg fun K hK => ?_; simp -implicitDefEqProofs; iterate 2 (try refine ⟨by omega, ?_⟩)
  refine CallK.imE (cloneW_ok l (by omega)) (by simp) (WaiterS_okI _) ?_; simp -implicitDefEqProofs; iterate 2 (try refine ⟨by omega, ?_⟩)
  refine CallS.mono (delete_d l n (by omega)) ?_
  rintro o h' ⟨t, rfl, rfl⟩
  simp -implicitDefEqProofs; repeat refine ⟨by omega, ?_⟩
  refine hK _ ?_; clear hK K; refine SW.ret ?_; simp [Ex.then, Ex.ib, -strN]
  all_goals first
    | done
    | (rw [WaiterS_app, List.take_left' (by simp)]; exact ⟨WaiterS_strM _, rfl⟩)
    | fail
theorem drop_s (l : List Waiter) (n : Int) (hl : l.length ≤ 2 ^ 29) : Fn Tryz.prog 189 [.fz (WaiterS l), .int .i64 n] (.own 3 (WaiterS (dropW l n))) := by
  refine Fn.intro Tryz.func189 (by decide) rfl (rs := [.tmp 4]) rfl Tryz.ntmps189 (by simp) ?_; refine SW.rb ?_; refine SW.rb ?_; refine SW.seqK fun K1 hK1 => ?_; refine SW.rb ?_; refine SW.block ?_
  refine SW.loop (α := Nat) (fun k => ⟨[(11, .int .i64 k), (10, .int .i64 l.length), (9, .fz (WaiterS l)), (5, .sl 0 0 (dropW (l.take k) n).length), (1, .int .i64 n)], [some ⟨3, WaiterS (dropW (l.take k) n)⟩]⟩) (fun k => k ≤ l.length) (fun k => l.length - k) (0) ?_ ?_ (fun k hx => ?_)
  case' refine_1 =>
   simp
  case' refine_2 =>
   have hd0 : dropW [] n = [] := rfl
   exact Wk.cut (by simp) (by simp [subE, hd0]) (by simp [cutH, hd0]) (by simp [lowE, lowN]) (by simp)
  case' refine_3 =>
   skip
   refine SW.rb ?_; refine SW.seqK fun K2 hK2 => ?_; refine SW.cond _ rfl (by simp) ?_ ?_
   case' refine_1 =>
    intro hb1; have hlt : k < l.length := by simp at hb1; omega
    obtain ⟨x, hxk⟩ : ∃ q, l[k]? = some q := ⟨_, List.getElem?_eq_getElem hlt⟩
    have hdl := dropW_len (l.take k) n
    have htl := List.length_take_le k l
    refine SW.skip ?_; refine hK2 _ ?_; refine SW.seqK fun K3 hK3 => ?_; refine SW.block ?_; refine SW.rg fun K hK => ?_; simp -implicitDefEqProofs [hxk]
    repeat (refine And.intro (by clear hK; first | omega | (intros; simp_all; done) | (intros; grind)) ?_)
    refine hK _ ?_; clear hK K; refine SW.rb ?_; refine SW.cond _ rfl (by simp) ?_ ?_
    case' refine_2 =>
     intro hb2; have hst := dropW_out (n := n) hxk (by simpa using hb2)
     refine SW.skip ?_
    rotate_right
    case' _ =>
     intro hb2; have hst := dropW_go (n := n) hxk (by simpa using hb2)
     refine SW.eb ?_
    all_goals (
     refine hK3 _ ?_; refine SW.eb ?_; refine ⟨k + 1, by omega, by omega, ?_⟩
     first
       | (have q : dropW (l.take (k + 1)) n = dropW (l.take k) n := hst; exact Wk.cut (by simp) (by simp [subE, wrap1 k (by omega), hst]) (by simp [cutH, hst]) (by simp [lowE, lowN]) (by simp))
       | (exact Wk.ren [3] (by simp) (by simp) (by simp) (by simp) (by simp [renE, renN, wrap1 k (by omega), hst]) (by simp [renH, hst, WaiterS_app, show WaiterS [x] = [x.cl] from rfl]) (by simp [lowE, lowN]) (by simp))
       | fail)
   intro hb1; have hk : k = l.length := by simp at hb1; omega
   subst hk; rw [List.take_length]; refine SW.exit ?_; simp only [Ex.then, Ex.ib]; try simp only [if_true, if_false, reduceIte]
   refine hK1 _ ?_; refine SW.rb ?_; refine SW.ret ?_; simp [Ex.then, Ex.ib, -strN]
   all_goals first
     | done
     | exact ⟨WaiterS_strM _, rfl⟩
     | fail
def freeC (n : Int) (c : Chan) : Chan := { c with sends := dropW c.sends n, recvs := dropW c.recvs n }
def mapd {α : Type} (f : α → α) (l : List α) (k : Nat) : List α := (l.take k).map f ++ l.drop k
theorem mapd_zero {α : Type} (f : α → α) (l : List α) : mapd f l 0 = l := by simp [mapd]
theorem mapd_all {α : Type} (f : α → α) (l : List α) : mapd f l l.length = l.map f := by simp [mapd]
@[simp] theorem mapd_len {α : Type} (f : α → α) (l : List α) (k : Nat) : (mapd f l k).length = l.length := by simp [mapd]; omega
theorem mapd_get {α : Type} {f : α → α} {l : List α} {k : Nat} {x : α} (h : l[k]? = some x) : (mapd f l k)[k]? = some x := by
  have hk := (List.getElem?_eq_some_iff.1 h).1
  rw [mapd, List.getElem?_append_right (by simp; omega)]; simp [show k - min k l.length = 0 by omega, h]
theorem mapd_set {α : Type} {f : α → α} {l : List α} {k : Nat} {x : α} (h : l[k]? = some x) : (mapd f l k).set k (f x) = mapd f l (k + 1) := by
  obtain ⟨hk, rfl⟩ := List.getElem?_eq_some_iff.1 h; unfold mapd; rw [List.set_append_right _ _ (by simp; omega), List.drop_eq_getElem_cons hk, tkS h]; have e : k - ((l.take k).map f).length = 0 := by simp; omega
  rw [e, List.set_cons_zero, List.map_append]; simp
theorem GorSo_setL (l : List Gor) (k : Nat) (x : Gor) : (GorSo l).set k x.ow = GorSo (l.set k x) := by simp only [GorSo, List.map_set]
theorem ChanSo_setL (l : List Chan) (k : Nat) (x : Chan) : (ChanSo l).set k x.ow = ChanSo (l.set k x) := by simp only [ChanSo, List.map_set]
theorem MutexSo_setL (l : List Mutex) (k : Nat) (x : Mutex) : (MutexSo l).set k x.ow = MutexSo (l.set k x) := by simp only [MutexSo, List.map_set]
theorem free_i (e : Eng) (n : Int) (h1 : e.chans.length ≤ 1048576) (hco : ∀ c ∈ e.chans, c.buf.length ≤ 2 ^ 28 ∧ c.sends.length ≤ 2 ^ 28 ∧ c.recvs.length ≤ 2 ^ 28) : CallS Tryz.prog 131 [.agg [.sl 0 0 e.gs.length, .sl 1 0 e.chans.length, .sl 2 0 e.mus.length], .int .i64 n] ([some ⟨5, GorSo e.gs⟩, some ⟨5, ChanSo e.chans⟩, some ⟨2, MutexSo e.mus⟩]) (fun o h' => o = .tup [] ∧ h' = [some ⟨5, GorSo e.gs⟩, some ⟨5, ChanSo (e.chans.map (freeC n))⟩, some ⟨2, MutexSo e.mus⟩]) := by
  refine CallS.intro Tryz.func131 (by decide) rfl (rs := []) rfl Tryz.ntmps131 (by simp) ?_; have hm0 := mapd_zero (freeC n) e.chans
  refine SW.rb ?_; refine SW.rb ?_; refine SW.block ?_
  refine SW.loop (α := Nat) (fun k => ⟨[(8, .int .i64 (k : Nat)), (7, .int .i64 e.chans.length), (1, .int .i64 n), (2, .ptr 3 0 0)], [some ⟨5, GorSo e.gs⟩, some ⟨5, ChanSo (mapd (freeC n) e.chans k)⟩, some ⟨2, MutexSo e.mus⟩, some ⟨3, [[.sl 0 0 e.gs.length, .sl 1 0 e.chans.length, .sl 2 0 e.mus.length]]⟩]⟩) (fun k => k ≤ e.chans.length) (fun k => e.chans.length - k) (0) ?_ ?_ (fun k hx => ?_)
  case' refine_1 =>
   simp
  case' refine_2 =>
   rw [hm0]; exact Wk.cut (by simp) (by simp [subE]) (by simp [cutH]) (by simp [lowE, lowN]) (by simp [lowN])
  case' refine_3 =>
   skip
   refine SW.rb ?_; refine SW.seqK fun K1 hK1 => ?_; refine SW.cond _ rfl (by simp) ?_ ?_
   case' refine_1 =>
    intro hb1; have hlt : k < e.chans.length := by simp at hb1; omega
    obtain ⟨x, hxk⟩ : ∃ q, e.chans[k]? = some q := ⟨_, List.getElem?_eq_getElem hlt⟩
    have hmg := mapd_get (f := freeC n) hxk
    have hc := hco x (List.mem_of_getElem? hxk)
    have c1 := hc.1
    have c2 := hc.2.1
    have c3 := hc.2.2
    have hss : ∀ v : List AV, ((ChanSo (mapd (freeC n) e.chans k)).set k v)[k]? = some v := fun v => List.getElem?_set_self (by simp; omega)
    refine SW.wk (Wk.unChan (env' := [(8, .int .i64 (k : Nat)), (7, .int .i64 e.chans.length), (1, .int .i64 n), (2, .ptr 3 0 0)]) (h' := [some ⟨5, GorSo e.gs⟩, some ⟨5, ((ChanSo (mapd (freeC n) e.chans k))).set k [.int .i64 x.cap, .sl 4 0 x.buf.length, .sl 5 0 x.sends.length, .sl 6 0 x.recvs.length, .bool x.closed]⟩, some ⟨2, MutexSo e.mus⟩, some ⟨3, [[.sl 0 0 e.gs.length, .sl 1 0 e.chans.length, .sl 2 0 e.mus.length]]⟩, some ⟨1, IntS x.buf⟩, some ⟨3, WaiterS x.sends⟩, some ⟨3, WaiterS x.recvs⟩]) (p := 1) (k := k) (es := (ChanSo (mapd (freeC n) e.chans k))) (d := x) rfl (by simp [hmg]) (by simp [subE]) (by simp [subE]) rfl) ?_
    refine SW.skip ?_; refine hK1 _ ?_; refine SW.seqK fun K2 hK2 => ?_; refine SW.block ?_; refine SW.rg fun K hK => ?_; simp -implicitDefEqProofs [hss, hlt, splice, List.set_set]
    repeat (refine And.intro (by clear hK; first | omega | (intros; simp_all; done) | (intros; grind)) ?_)
    refine hK _ ?_; clear hK K
    refine SW.drawK mixed [.q [(0, false), (1, false), (2, false), (3, false), (4, false), (5, false), (6, false), (7, false), (8, false), (9, false), (10, true), (11, false), (12, false)], .b 13] (by kernel_rfl) rfl fun K hK => ?_
    simp -implicitDefEqProofs [hss, hlt, splice, List.set_set]; repeat (refine And.intro (by clear hK; first | omega | (intros; simp_all; done) | (intros; grind)) ?_)
    refine imQ (drop_i x.sends n (by omega)) (by simp) (WaiterS_okI _) ?_; simp -implicitDefEqProofs [hss, hlt, splice, List.set_set]; repeat (refine And.intro (by clear hK; first | omega | (intros; simp_all; done) | (intros; grind)) ?_)
    refine hK _ ?_; clear hK K
    refine SW.drawE mixed [.q [(0, false), (1, false), (2, false), (3, false), (4, false), (5, false), (6, false), (7, false), (8, false), (9, false), (10, true), (11, false), (12, false)], .b 13] (by kernel_rfl) rfl fun K hK => ?_
    simp -implicitDefEqProofs [hss, hlt, splice, List.set_set]; repeat (refine And.intro (by clear hK; first | omega | (intros; simp_all; done) | (intros; grind)) ?_)
    refine imQ (drop_i x.recvs n (by omega)) (by simp) (WaiterS_okI _) ?_; simp -implicitDefEqProofs [hss, hlt, splice, List.set_set]; repeat (refine And.intro (by clear hK; first | omega | (intros; simp_all; done) | (intros; grind)) ?_)
    refine hK _ ?_; clear hK K; refine hK2 _ ?_; refine SW.regionE fun K hK => ?_; simp -implicitDefEqProofs [hss, hlt, splice, List.set_set]
    repeat (refine And.intro (by clear hK; first | omega | (intros; simp_all; done) | (intros; grind)) ?_)
    refine hK _ ?_; clear hK K; refine ⟨k + 1, by omega, by omega, ?_⟩
    refine Wk.trans (Wk.ren [0, 1, 2, 3, 4, 7, 8] (env' := [(8, .int .i64 ((k + 1) : Nat)), (7, .int .i64 e.chans.length), (1, .int .i64 n), (2, .ptr 3 0 0)]) (h' := [some ⟨5, GorSo e.gs⟩, some ⟨5, ((ChanSo (mapd (freeC n) e.chans k)).set k [.int .i64 x.cap, .sl 4 0 x.buf.length, .sl 5 0 (dropW x.sends n).length, .sl 6 0 (dropW x.recvs n).length, .bool x.closed])⟩, some ⟨2, MutexSo e.mus⟩, some ⟨3, [[.sl 0 0 e.gs.length, .sl 1 0 e.chans.length, .sl 2 0 e.mus.length]]⟩, some ⟨1, IntS (freeC n x).buf⟩, some ⟨3, WaiterS (freeC n x).sends⟩, some ⟨3, WaiterS (freeC n x).recvs⟩]) (by simp) (by intro j hj; match j, hj with | 0, _ => rfl | 1, _ => rfl | 2, _ => rfl) (by simp) (by simp) (by simp [renE, renN, wrap1 k (by omega)]) (by simp [renH, List.set_set, freeC]) (by simp [lowE, lowN]) (by simp [lowN, lowEs_set])) ?_
    exact Wk.foChan (env' := [(8, .int .i64 ((k + 1) : Nat)), (7, .int .i64 e.chans.length), (1, .int .i64 n), (2, .ptr 3 0 0)]) (h := [some ⟨5, GorSo e.gs⟩, none, some ⟨2, MutexSo e.mus⟩, some ⟨3, [[.sl 0 0 e.gs.length, .sl 1 0 e.chans.length, .sl 2 0 e.mus.length]]⟩]) (h' := [some ⟨5, GorSo e.gs⟩, some ⟨5, (ChanSo (mapd (freeC n) e.chans (k + 1)))⟩, some ⟨2, MutexSo e.mus⟩, some ⟨3, [[.sl 0 0 e.gs.length, .sl 1 0 e.chans.length, .sl 2 0 e.mus.length]]⟩]) (p := 1) (k := k) (es := ((ChanSo (mapd (freeC n) e.chans k)).set k [.int .i64 x.cap, .sl 4 0 x.buf.length, .sl 5 0 (dropW x.sends n).length, .sl 6 0 (dropW x.recvs n).length, .bool x.closed])) (es' := (ChanSo (mapd (freeC n) e.chans (k + 1)))) (d := (freeC n x)) rfl (by simp) (by rw [List.getElem?_set_self (by simp; omega)]; rfl) (by rw [List.set_set, ChanSo_setL, mapd_set hxk]) (by simp) (by simp) (by simp [subE]) (by simp [subE]) (by simp [lowE, lowN]) (by simp [lowN]) rfl
   intro hb1; have hk : k = e.chans.length := by simp at hb1; omega
   subst hk; rw [mapd_all]; refine SW.wk (st' := ⟨[], [some ⟨5, GorSo e.gs⟩, some ⟨5, ChanSo (e.chans.map (freeC n))⟩, some ⟨2, MutexSo e.mus⟩]⟩) (Wk.cut (by simp) (by simp [subE]) (by simp [cutH]) (by simp [lowE, lowN]) (by simp [lowN])) ?_
   refine SW.exit ?_; simp only [Ex.then, Ex.ib]; try simp only [if_true, if_false, reduceIte]
   simp [isRet, resL, tupA]
theorem free_s (e : Eng) (n : Int) (h1 : e.chans.length ≤ 1048576) (hco : ∀ c ∈ e.chans, c.buf.length ≤ 2 ^ 28 ∧ c.sends.length ≤ 2 ^ 28 ∧ c.recvs.length ≤ 2 ^ 28) : CallS Tryz.prog 109 [.agg [.sl 0 0 e.gs.length, .sl 1 0 e.chans.length, .sl 2 0 e.mus.length], .int .i64 n] ([some ⟨5, GorSo e.gs⟩, some ⟨5, ChanSo e.chans⟩, some ⟨2, MutexSo e.mus⟩]) (fun o h' => o = .agg [.sl 0 0 e.gs.length, .sl 1 0 e.chans.length, .sl 2 0 e.mus.length] ∧ h' = [some ⟨5, GorSo e.gs⟩, some ⟨5, ChanSo (e.chans.map (freeC n))⟩, some ⟨2, MutexSo e.mus⟩, some ⟨3, [[.sl 0 0 e.gs.length, .sl 1 0 e.chans.length, .sl 2 0 e.mus.length]]⟩]) := by
  refine CallS.intro Tryz.func109 (by decide) rfl (rs := [.cell 4 40]) rfl Tryz.ntmps109 (by simp) ?_; have hm0 := mapd_zero (freeC n) e.chans
  refine SW.rb ?_; refine SW.seqK fun K1 hK1 => ?_; refine SW.rb ?_; refine SW.block ?_
  refine SW.loop (α := Nat) (fun k => ⟨[(10, .int .i64 (k : Nat)), (9, .int .i64 e.chans.length), (8, .sl 1 0 e.chans.length), (1, .int .i64 n), (2, .ptr 3 0 0), (4, .ptr 4 0 0)], [some ⟨5, GorSo e.gs⟩, some ⟨5, ChanSo (mapd (freeC n) e.chans k)⟩, some ⟨2, MutexSo e.mus⟩, some ⟨3, [[.sl 0 0 e.gs.length, .sl 1 0 e.chans.length, .sl 2 0 e.mus.length]]⟩, some ⟨3, [[.nil, .nil, .nil]]⟩]⟩) (fun k => k ≤ e.chans.length) (fun k => e.chans.length - k) (0) ?_ ?_ (fun k hx => ?_)
  case' refine_1 =>
   simp
  case' refine_2 =>
   rw [hm0]; exact Wk.cut (by simp) (by simp [subE]) (by simp [cutH]) (by simp [lowE, lowN]) (by simp [lowN])
  case' refine_3 =>
   skip
   refine SW.rb ?_; refine SW.seqK fun K2 hK2 => ?_; refine SW.cond _ rfl (by simp) ?_ ?_
   case' refine_1 =>
    intro hb1; have hlt : k < e.chans.length := by simp at hb1; omega
    obtain ⟨x, hxk⟩ : ∃ q, e.chans[k]? = some q := ⟨_, List.getElem?_eq_getElem hlt⟩
    have hmg := mapd_get (f := freeC n) hxk
    have hc := hco x (List.mem_of_getElem? hxk)
    have c1 := hc.1
    have c2 := hc.2.1
    have c3 := hc.2.2
    have hss : ∀ v : List AV, ((ChanSo (mapd (freeC n) e.chans k)).set k v)[k]? = some v := fun v => List.getElem?_set_self (by simp; omega)
    refine SW.wk (Wk.unChan (env' := [(10, .int .i64 (k : Nat)), (9, .int .i64 e.chans.length), (8, .sl 1 0 e.chans.length), (1, .int .i64 n), (2, .ptr 3 0 0), (4, .ptr 4 0 0)]) (h' := [some ⟨5, GorSo e.gs⟩, some ⟨5, ((ChanSo (mapd (freeC n) e.chans k))).set k [.int .i64 x.cap, .sl 5 0 x.buf.length, .sl 6 0 x.sends.length, .sl 7 0 x.recvs.length, .bool x.closed]⟩, some ⟨2, MutexSo e.mus⟩, some ⟨3, [[.sl 0 0 e.gs.length, .sl 1 0 e.chans.length, .sl 2 0 e.mus.length]]⟩, some ⟨3, [[.nil, .nil, .nil]]⟩, some ⟨1, IntS x.buf⟩, some ⟨3, WaiterS x.sends⟩, some ⟨3, WaiterS x.recvs⟩]) (p := 1) (k := k) (es := (ChanSo (mapd (freeC n) e.chans k))) (d := x) rfl (by simp [hmg]) (by simp [subE]) (by simp [subE]) rfl) ?_
    refine SW.skip ?_; refine hK2 _ ?_; refine SW.seqK fun K3 hK3 => ?_; refine SW.block ?_; refine SW.rg fun K hK => ?_; simp -implicitDefEqProofs [hss, hlt, splice, List.set_set]
    repeat (refine And.intro (by clear hK; first | omega | (intros; simp_all; done) | (intros; grind)) ?_)
    refine hK _ ?_; clear hK K; refine SW.rg fun K hK => ?_; simp -implicitDefEqProofs [hss, hlt, splice, List.set_set]; repeat (refine And.intro (by clear hK; first | omega | (intros; simp_all; done) | (intros; grind)) ?_)
    refine CallK.imE (drop_s x.sends n (by omega)) (by simp) (WaiterS_okI _) ?_; simp -implicitDefEqProofs [hss, hlt, splice, List.set_set]
    repeat (refine And.intro (by clear hK; first | omega | (intros; simp_all; done) | (intros; grind)) ?_)
    refine hK _ ?_; clear hK K; refine SW.rg fun K hK => ?_; simp -implicitDefEqProofs [hss, hlt, splice, List.set_set]; repeat (refine And.intro (by clear hK; first | omega | (intros; simp_all; done) | (intros; grind)) ?_)
    refine CallK.imE (drop_s x.recvs n (by omega)) (by simp) (WaiterS_okI _) ?_; simp -implicitDefEqProofs [hss, hlt, splice, List.set_set]
    repeat (refine And.intro (by clear hK; first | omega | (intros; simp_all; done) | (intros; grind)) ?_)
    refine hK _ ?_; clear hK K; refine SW.regionE fun K hK => ?_; simp -implicitDefEqProofs [hss, hlt, splice, List.set_set]; repeat (refine And.intro (by clear hK; first | omega | (intros; simp_all; done) | (intros; grind)) ?_)
    refine hK _ ?_; clear hK K; refine hK3 _ ?_; refine SW.eb ?_; refine ⟨k + 1, by omega, by omega, ?_⟩
    refine Wk.trans (Wk.ren [0, 1, 2, 3, 4, 5, 9, 10] (env' := [(10, .int .i64 ((k + 1) : Nat)), (9, .int .i64 e.chans.length), (8, .sl 1 0 e.chans.length), (1, .int .i64 n), (2, .ptr 3 0 0), (4, .ptr 4 0 0)]) (h' := [some ⟨5, GorSo e.gs⟩, some ⟨5, ((ChanSo (mapd (freeC n) e.chans k)).set k [.int .i64 x.cap, .sl 5 0 x.buf.length, .sl 6 0 (dropW x.sends n).length, .sl 7 0 (dropW x.recvs n).length, .bool x.closed])⟩, some ⟨2, MutexSo e.mus⟩, some ⟨3, [[.sl 0 0 e.gs.length, .sl 1 0 e.chans.length, .sl 2 0 e.mus.length]]⟩, some ⟨3, [[.nil, .nil, .nil]]⟩, some ⟨1, IntS (freeC n x).buf⟩, some ⟨3, WaiterS (freeC n x).sends⟩, some ⟨3, WaiterS (freeC n x).recvs⟩]) (by simp) (by intro j hj; match j, hj with | 0, _ => rfl | 1, _ => rfl | 2, _ => rfl) (by simp) (by simp) (by simp [renE, renN, wrap1 k (by omega)]) (by simp [renH, List.set_set, freeC]) (by simp [lowE, lowN]) (by simp [lowN, lowEs_set])) ?_
    exact Wk.foChan (env' := [(10, .int .i64 ((k + 1) : Nat)), (9, .int .i64 e.chans.length), (8, .sl 1 0 e.chans.length), (1, .int .i64 n), (2, .ptr 3 0 0), (4, .ptr 4 0 0)]) (h := [some ⟨5, GorSo e.gs⟩, none, some ⟨2, MutexSo e.mus⟩, some ⟨3, [[.sl 0 0 e.gs.length, .sl 1 0 e.chans.length, .sl 2 0 e.mus.length]]⟩, some ⟨3, [[.nil, .nil, .nil]]⟩]) (h' := [some ⟨5, GorSo e.gs⟩, some ⟨5, (ChanSo (mapd (freeC n) e.chans (k + 1)))⟩, some ⟨2, MutexSo e.mus⟩, some ⟨3, [[.sl 0 0 e.gs.length, .sl 1 0 e.chans.length, .sl 2 0 e.mus.length]]⟩, some ⟨3, [[.nil, .nil, .nil]]⟩]) (p := 1) (k := k) (es := ((ChanSo (mapd (freeC n) e.chans k)).set k [.int .i64 x.cap, .sl 5 0 x.buf.length, .sl 6 0 (dropW x.sends n).length, .sl 7 0 (dropW x.recvs n).length, .bool x.closed])) (es' := (ChanSo (mapd (freeC n) e.chans (k + 1)))) (d := (freeC n x)) rfl (by simp) (by rw [List.getElem?_set_self (by simp; omega)]; rfl) (by rw [List.set_set, ChanSo_setL, mapd_set hxk]) (by simp) (by simp) (by simp [subE]) (by simp [subE]) (by simp [lowE, lowN]) (by simp [lowN]) rfl
   intro hb1; have hk : k = e.chans.length := by simp at hb1; omega
   subst hk; rw [mapd_all]; refine SW.exit ?_; simp only [Ex.then, Ex.ib]; try simp only [if_true, if_false, reduceIte]
   refine hK1 _ ?_; refine SW.rb ?_
   refine SW.wk (st' := ⟨[(4, .ptr 3 0 0)], [some ⟨5, GorSo e.gs⟩, some ⟨5, ChanSo (e.chans.map (freeC n))⟩, some ⟨2, MutexSo e.mus⟩, some ⟨3, [[.sl 0 0 e.gs.length, .sl 1 0 e.chans.length, .sl 2 0 e.mus.length]]⟩]⟩) (Wk.ren [0, 1, 2, 4] (by simp) (by intro j hj; match j, hj with | 0, _ => rfl | 1, _ => rfl | 2, _ => rfl) (by simp) (by simp) (by simp [renE, renN]) (by simp [renH]) (by simp [lowE, lowN]) (by simp [lowN])) ?_
   refine SW.ret ?_; simp [Ex.then, Ex.ib, -strN]
   all_goals fail
end HT
