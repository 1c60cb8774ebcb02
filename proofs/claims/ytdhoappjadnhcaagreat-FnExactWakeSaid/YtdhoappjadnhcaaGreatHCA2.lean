import Derived.Test.YtdhoappjadnhcaaGreatHCA0
/-
  My own texts (road H): HCA2.
-/
set_option maxHeartbeats 8000000
set_option linter.unusedSimpArgs false
set_option linter.unusedVariables false
namespace HT
open Go Go.Proofs HK
theorem get_snoc {α : Type} {l : List α} {x : α} {k : Nat} (h : l.length = k) : (l ++ [x])[k]? = some x := by subst h; simp
theorem set_snoc {α : Type} {l : List α} {x y : α} {k : Nat} (h : l.length = k) : (l ++ [x]).set k y = l ++ [y] := by subst h; simp
theorem tkS {α : Type} {l : List α} {x : α} {k : Nat} (h : l[k]? = some x) : l.take (k + 1) = l.take k ++ [x] := by rw [List.take_add_one, h]; rfl
theorem GorSo_snoc (l : List Gor) (x : Gor) : GorSo (l ++ [x]) = GorSo l ++ [x.ow] := by simp [GorSo]
theorem ChanSo_snoc (l : List Chan) (x : Chan) : ChanSo (l ++ [x]) = ChanSo l ++ [x.ow] := by simp [ChanSo]
theorem MutexSo_snoc (l : List Mutex) (x : Mutex) : MutexSo (l ++ [x]) = MutexSo l ++ [x.ow] := by simp [MutexSo]
theorem copyE_s (e : Eng) (he : e.ok) : Fn Tryz.prog 49 [.agg e.fr] (.agg e.ow) := by
  refine Fn.intro Tryz.func49 (by decide) rfl (rs := [.cell 2 40]) rfl Tryz.ntmps49 (by simp) ?_; have g1 := he.1
  have g2 := he.2.1
  have g3 := he.2.2.1
  have g4 := he.2.2.2.1
  have g5 := he.2.2.2.2.1
  have g6 := he.2.2.2.2.2
  refine SW.rb ?_; refine SW.rb ?_; refine SW.seqK fun K1 hK1 => ?_; refine SW.rb ?_; refine SW.block ?_
  refine SW.loop (α := Nat) (fun k => ⟨[(16, .int .i64 (k : Nat)), (15, .int .i64 e.gs.length), (14, .fz (GorSf e.gs)), (3, .sl 2 0 k), (1, .ptr 0 0 0), (2, .ptr 1 0 0)], [some ⟨3, [e.fr]⟩, some ⟨3, [[.nil, .nil, .nil]]⟩, some ⟨5, GorSo (e.gs.take k)⟩]⟩) (fun k => k ≤ e.gs.length) (fun k => e.gs.length - k) (0) ?_ ?_ (fun k hx => ?_)
  case' refine_1 =>
   simp
  case' refine_2 =>
   exact Wk.cut (by simp) (by simp [subE]) (by simp [cutH]) (by simp [lowE, lowN]) (by simp)
  case' refine_3 =>
   skip
   refine SW.rb ?_; refine SW.seqK fun K2 hK2 => ?_; refine SW.cond _ rfl (by simp) ?_ ?_
   case' refine_1 =>
    intro hb1; have hlt : k < e.gs.length := by simp at hb1; omega
    obtain ⟨x, hxk⟩ : ∃ q, e.gs[k]? = some q := ⟨_, List.getElem?_eq_getElem hlt⟩
    have hxo := g2 x (List.mem_of_getElem? hxk)
    have htk := tkS hxk
    have hlk : (GorSo (e.gs.take k)).length = k := by simp; omega
    have htq := List.take_of_length_le (Nat.le_of_eq hlk)
    refine SW.skip ?_; refine hK2 _ ?_; refine SW.seqK fun K9 hK9 => ?_; refine SW.block ?_; refine SW.rg fun K hK => ?_; simp -implicitDefEqProofs [hxk]
    repeat (refine And.intro (by clear hK; first | omega | (intros; simp_all; done) | (intros; grind)) ?_)
    refine hK _ ?_; clear hK K; refine SW.regionE fun K hK => ?_; simp -implicitDefEqProofs; repeat (refine And.intro (by clear hK; first | omega | (intros; simp_all; done) | (intros; grind)) ?_)
    refine CallK.imE (copy_s x (by have := hxo.1; omega) (by have := hxo.2; omega)) (by simp) (Gor_oI x) ?_; simp -implicitDefEqProofs; repeat (refine And.intro (by clear hK; first | omega | (intros; simp_all; done) | (intros; grind)) ?_)
    refine hK _ ?_; clear hK K; refine hK9 _ ?_; refine SW.eb ?_; refine ⟨k + 1, by omega, by omega, ?_⟩
    refine Wk.trans (Wk.ren [0, 1, 7, 4, 5] (env' := [(16, .int .i64 ((k + 1) : Nat)), (15, .int .i64 e.gs.length), (14, .fz (GorSf e.gs)), (3, .sl 2 0 (k + 1)), (1, .ptr 0 0 0), (2, .ptr 1 0 0)]) (h' := [some ⟨3, [e.fr]⟩, some ⟨3, [[.nil, .nil, .nil]]⟩, some ⟨5, (GorSo (e.gs.take k) ++ [[.int .i64 x.proc, .int .i64 x.pc, .sl 3 0 x.regs.length, .int .i64 x.state, .sl 4 0 x.trace.length]])⟩, some ⟨1, IntS x.regs⟩, some ⟨4, ItemS x.trace⟩]) (by simp) (by simp) (by simp) (by simp) (by simp [renE, renN, wrap1 k (by omega)]) (by simp [renH, htq]) (by simp [lowE, lowN]) (by simp [lowN])) ?_
    exact Wk.foGor (env' := [(16, .int .i64 ((k + 1) : Nat)), (15, .int .i64 e.gs.length), (14, .fz (GorSf e.gs)), (3, .sl 2 0 (k + 1)), (1, .ptr 0 0 0), (2, .ptr 1 0 0)]) (h := [some ⟨3, [e.fr]⟩, some ⟨3, [[.nil, .nil, .nil]]⟩, none]) (h' := [some ⟨3, [e.fr]⟩, some ⟨3, [[.nil, .nil, .nil]]⟩, some ⟨5, (GorSo (e.gs.take (k + 1)))⟩]) (p := 2) (k := k) (es := (GorSo (e.gs.take k) ++ [[.int .i64 x.proc, .int .i64 x.pc, .sl 3 0 x.regs.length, .int .i64 x.state, .sl 4 0 x.trace.length]])) (es' := (GorSo (e.gs.take (k + 1)))) (d := x) rfl (by simp) (get_snoc hlk) (by rw [set_snoc hlk, htk, GorSo_snoc]) (by simp) (by simp) (by simp [subE]) (by simp [subE]) (by simp [lowE, lowN]) (by simp [lowN]) rfl
   intro hb1; have hk : k = e.gs.length := by simp at hb1; omega
   subst hk; rw [List.take_length]; refine SW.exit ?_; simp only [Ex.then, Ex.ib]; try simp only [if_true, if_false, reduceIte]
   refine hK1 _ ?_; refine SW.rb ?_; refine SW.seqK fun K3 hK3 => ?_; refine SW.rb ?_; refine SW.block ?_
   refine SW.loop (α := Nat) (fun k => ⟨[(30, .int .i64 (k : Nat)), (29, .int .i64 e.chans.length), (28, .fz (ChanSf e.chans)), (6, .sl 3 0 k), (3, .sl 2 0 e.gs.length), (1, .ptr 0 0 0), (2, .ptr 1 0 0)], [some ⟨3, [e.fr]⟩, some ⟨3, [[.nil, .nil, .nil]]⟩, some ⟨5, GorSo e.gs⟩, some ⟨5, ChanSo (e.chans.take k)⟩]⟩) (fun k => k ≤ e.chans.length) (fun k => e.chans.length - k) (0) ?_ ?_ (fun k hx => ?_)
   case' refine_1 =>
    simp
   case' refine_2 =>
    exact Wk.cut (by simp) (by simp [subE]) (by simp [cutH]) (by simp [lowE, lowN]) (by simp)
   case' refine_3 =>
    skip
    refine SW.rb ?_; refine SW.seqK fun K4 hK4 => ?_; refine SW.cond _ rfl (by simp) ?_ ?_
    case' refine_1 =>
     intro hb2; have hlt : k < e.chans.length := by simp at hb2; omega
     obtain ⟨x, hxk⟩ : ∃ q, e.chans[k]? = some q := ⟨_, List.getElem?_eq_getElem hlt⟩
     have hxo := g4 x (List.mem_of_getElem? hxk)
     have htk := tkS hxk
     have hlk : (ChanSo (e.chans.take k)).length = k := by simp; omega
     have htq := List.take_of_length_le (Nat.le_of_eq hlk)
     refine SW.skip ?_; refine hK4 _ ?_; refine SW.seqK fun K8 hK8 => ?_; refine SW.block ?_; refine SW.rg fun K hK => ?_; simp -implicitDefEqProofs [hxk]
     repeat (refine And.intro (by clear hK; first | omega | (intros; simp_all; done) | (intros; grind)) ?_)
     refine hK _ ?_; clear hK K; refine SW.regionE fun K hK => ?_; simp -implicitDefEqProofs; repeat (refine And.intro (by clear hK; first | omega | (intros; simp_all; done) | (intros; grind)) ?_)
     refine CallK.imE (copyC_s x (by have := hxo.1; omega) (by have := hxo.2.1; omega) (by have := hxo.2.2; omega)) (by simp) (Chan_oI x) ?_; simp -implicitDefEqProofs
     repeat (refine And.intro (by clear hK; first | omega | (intros; simp_all; done) | (intros; grind)) ?_)
     refine hK _ ?_; clear hK K; refine hK8 _ ?_; refine SW.eb ?_; refine ⟨k + 1, by omega, by omega, ?_⟩
     refine Wk.trans (Wk.ren [0, 1, 2, 9, 5, 6, 7] (env' := [(30, .int .i64 ((k + 1) : Nat)), (29, .int .i64 e.chans.length), (28, .fz (ChanSf e.chans)), (6, .sl 3 0 (k + 1)), (3, .sl 2 0 e.gs.length), (1, .ptr 0 0 0), (2, .ptr 1 0 0)]) (h' := [some ⟨3, [e.fr]⟩, some ⟨3, [[.nil, .nil, .nil]]⟩, some ⟨5, GorSo e.gs⟩, some ⟨5, (ChanSo (e.chans.take k) ++ [[.int .i64 x.cap, .sl 4 0 x.buf.length, .sl 5 0 x.sends.length, .sl 6 0 x.recvs.length, .bool x.closed]])⟩, some ⟨1, IntS x.buf⟩, some ⟨3, WaiterS x.sends⟩, some ⟨3, WaiterS x.recvs⟩]) (by simp) (by simp) (by simp) (by simp) (by simp [renE, renN, wrap1 k (by omega)]) (by simp [renH, htq]) (by simp [lowE, lowN]) (by simp [lowN])) ?_
     exact Wk.foChan (env' := [(30, .int .i64 ((k + 1) : Nat)), (29, .int .i64 e.chans.length), (28, .fz (ChanSf e.chans)), (6, .sl 3 0 (k + 1)), (3, .sl 2 0 e.gs.length), (1, .ptr 0 0 0), (2, .ptr 1 0 0)]) (h := [some ⟨3, [e.fr]⟩, some ⟨3, [[.nil, .nil, .nil]]⟩, some ⟨5, GorSo e.gs⟩, none]) (h' := [some ⟨3, [e.fr]⟩, some ⟨3, [[.nil, .nil, .nil]]⟩, some ⟨5, GorSo e.gs⟩, some ⟨5, (ChanSo (e.chans.take (k + 1)))⟩]) (p := 3) (k := k) (es := (ChanSo (e.chans.take k) ++ [[.int .i64 x.cap, .sl 4 0 x.buf.length, .sl 5 0 x.sends.length, .sl 6 0 x.recvs.length, .bool x.closed]])) (es' := (ChanSo (e.chans.take (k + 1)))) (d := x) rfl (by simp) (get_snoc hlk) (by rw [set_snoc hlk, htk, ChanSo_snoc]) (by simp) (by simp) (by simp [subE]) (by simp [subE]) (by simp [lowE, lowN]) (by simp [lowN]) rfl
    intro hb2; have hk : k = e.chans.length := by simp at hb2; omega
    subst hk; rw [List.take_length]; refine SW.exit ?_; simp only [Ex.then, Ex.ib]; try simp only [if_true, if_false, reduceIte]
    refine hK3 _ ?_; refine SW.rb ?_; refine SW.seqK fun K5 hK5 => ?_; refine SW.rb ?_; refine SW.block ?_
    refine SW.loop (α := Nat) (fun k => ⟨[(44, .int .i64 (k : Nat)), (43, .int .i64 e.mus.length), (42, .fz (MutexSf e.mus)), (9, .sl 4 0 k), (6, .sl 3 0 e.chans.length), (3, .sl 2 0 e.gs.length), (1, .ptr 0 0 0), (2, .ptr 1 0 0)], [some ⟨3, [e.fr]⟩, some ⟨3, [[.nil, .nil, .nil]]⟩, some ⟨5, GorSo e.gs⟩, some ⟨5, ChanSo e.chans⟩, some ⟨2, MutexSo (e.mus.take k)⟩]⟩) (fun k => k ≤ e.mus.length) (fun k => e.mus.length - k) (0) ?_ ?_ (fun k hx => ?_)
    case' refine_1 =>
     simp
    case' refine_2 =>
     exact Wk.cut (by simp) (by simp [subE]) (by simp [cutH]) (by simp [lowE, lowN]) (by simp)
    case' refine_3 =>
     skip
     refine SW.rb ?_; refine SW.seqK fun K6 hK6 => ?_; refine SW.cond _ rfl (by simp) ?_ ?_
     case' refine_1 =>
      intro hb3; have hlt : k < e.mus.length := by simp at hb3; omega
      obtain ⟨x, hxk⟩ : ∃ q, e.mus[k]? = some q := ⟨_, List.getElem?_eq_getElem hlt⟩
      have hxo := g6 x (List.mem_of_getElem? hxk)
      have htk := tkS hxk
      have hlk : (MutexSo (e.mus.take k)).length = k := by simp; omega
      have htq := List.take_of_length_le (Nat.le_of_eq hlk)
      refine SW.skip ?_; refine hK6 _ ?_; refine SW.seqK fun K7 hK7 => ?_; refine SW.block ?_; refine SW.rg fun K hK => ?_; simp -implicitDefEqProofs [hxk]
      repeat (refine And.intro (by clear hK; first | omega | (intros; simp_all; done) | (intros; grind)) ?_)
      refine hK _ ?_; clear hK K; refine SW.regionE fun K hK => ?_; simp -implicitDefEqProofs; repeat (refine And.intro (by clear hK; first | omega | (intros; simp_all; done) | (intros; grind)) ?_)
      refine CallK.imE (copyM_s x (by unfold Mutex.ok at hxo; omega)) (by simp) (Mutex_oI x) ?_; simp -implicitDefEqProofs; repeat (refine And.intro (by clear hK; first | omega | (intros; simp_all; done) | (intros; grind)) ?_)
      refine hK _ ?_; clear hK K; refine hK7 _ ?_; refine SW.eb ?_; refine ⟨k + 1, by omega, by omega, ?_⟩
      refine Wk.trans (Wk.ren [0, 1, 2, 3, 8, 6] (env' := [(44, .int .i64 ((k + 1) : Nat)), (43, .int .i64 e.mus.length), (42, .fz (MutexSf e.mus)), (9, .sl 4 0 (k + 1)), (6, .sl 3 0 e.chans.length), (3, .sl 2 0 e.gs.length), (1, .ptr 0 0 0), (2, .ptr 1 0 0)]) (h' := [some ⟨3, [e.fr]⟩, some ⟨3, [[.nil, .nil, .nil]]⟩, some ⟨5, GorSo e.gs⟩, some ⟨5, ChanSo e.chans⟩, some ⟨2, (MutexSo (e.mus.take k) ++ [[.int .i64 x.owner, .sl 5 0 x.wait.length]])⟩, some ⟨1, IntS x.wait⟩]) (by simp) (by simp) (by simp) (by simp) (by simp [renE, renN, wrap1 k (by omega)]) (by simp [renH, htq]) (by simp [lowE, lowN]) (by simp [lowN])) ?_
      exact Wk.foMutex (env' := [(44, .int .i64 ((k + 1) : Nat)), (43, .int .i64 e.mus.length), (42, .fz (MutexSf e.mus)), (9, .sl 4 0 (k + 1)), (6, .sl 3 0 e.chans.length), (3, .sl 2 0 e.gs.length), (1, .ptr 0 0 0), (2, .ptr 1 0 0)]) (h := [some ⟨3, [e.fr]⟩, some ⟨3, [[.nil, .nil, .nil]]⟩, some ⟨5, GorSo e.gs⟩, some ⟨5, ChanSo e.chans⟩, none]) (h' := [some ⟨3, [e.fr]⟩, some ⟨3, [[.nil, .nil, .nil]]⟩, some ⟨5, GorSo e.gs⟩, some ⟨5, ChanSo e.chans⟩, some ⟨2, (MutexSo (e.mus.take (k + 1)))⟩]) (p := 4) (k := k) (es := (MutexSo (e.mus.take k) ++ [[.int .i64 x.owner, .sl 5 0 x.wait.length]])) (es' := (MutexSo (e.mus.take (k + 1)))) (d := x) rfl (by simp) (get_snoc hlk) (by rw [set_snoc hlk, htk, MutexSo_snoc]) (by simp) (by simp) (by simp [subE]) (by simp [subE]) (by simp [lowE, lowN]) (by simp [lowN]) rfl
     intro hb3; have hk : k = e.mus.length := by simp at hb3; omega
     subst hk; rw [List.take_length]; refine SW.exit ?_; simp only [Ex.then, Ex.ib]; try simp only [if_true, if_false, reduceIte]
     refine hK5 _ ?_; refine SW.rb ?_; refine SW.ret ?_; simp [Ex.then, Ex.ib, -strN]
     all_goals first
       | done
       | (simp; done)
       | fail
theorem mus_step {l : List Mutex} {k : Nat} {x : Mutex} (h : l[k]? = some x) : (MutexSo (l.take k) ++ MutexSf (l.drop k)).set k x.ow = MutexSo (l.take (k + 1)) ++ MutexSf (l.drop (k + 1)) := by
  obtain ⟨hk, rfl⟩ := List.getElem?_eq_some_iff.1 h; rw [List.set_append_right _ _ (by simp; omega), List.drop_eq_getElem_cons hk, tkS h, MutexSo_snoc]; have e : k - (MutexSo (l.take k)).length = 0 := by simp; omega
  rw [e, show MutexSf (l[k] :: l.drop (k + 1)) = l[k].fr :: MutexSf (l.drop (k + 1)) from rfl, List.set_cons_zero]; simp
theorem copyE_i (e : Eng) (he : e.ok) : Fn Tryz.prog 60 [.agg e.fr] (.agg e.ow) := by
  refine Fn.intro Tryz.func60 (by decide) rfl (rs := [.cell 2 40]) rfl Tryz.ntmps60 (by simp) ?_; have g1 := he.1
  have g2 := he.2.1
  have g3 := he.2.2.1
  have g4 := he.2.2.2.1
  have g5 := he.2.2.2.2.1
  have g6 := he.2.2.2.2.2
  refine SW.rb ?_; refine SW.rg fun K hK => ?_; simp -implicitDefEqProofs; repeat (refine And.intro (by clear hK; first | omega | (intros; simp_all; done) | (intros; grind)) ?_)
  refine CallS.mono (cloneM_ok e (by omega)) ?_
  rintro o h' ⟨rfl, rfl⟩
  simp -implicitDefEqProofs; repeat (refine And.intro (by clear hK; first | omega | (intros; simp_all; done) | (intros; grind)) ?_)
  refine hK _ ?_; clear hK K; refine SW.seqK fun K1 hK1 => ?_; refine SW.rb ?_; refine SW.block ?_
  refine SW.loop (α := Nat) (fun k => ⟨[(16, .int .i64 (k : Nat)), (15, .int .i64 e.gs.length), (14, .fz (GorSf e.gs)), (1, .ptr 0 0 0), (2, .ptr 1 0 0), (3, .ptr 3 0 0)], [some ⟨3, [e.fr]⟩, some ⟨3, [[.nil, .nil, .nil]]⟩, some ⟨2, MutexSf e.mus⟩, some ⟨3, [[.sl 4 0 k, .nil, .sl 2 0 e.mus.length]]⟩, some ⟨5, GorSo (e.gs.take k)⟩]⟩) (fun k => k ≤ e.gs.length) (fun k => e.gs.length - k) (0) ?_ ?_ (fun k hx => ?_)
  case' refine_1 =>
   simp
  case' refine_2 =>
   refine Wk.trans (Wk.nilAt (j := 3) (i := 0) 5 (by simp; exact rfl) rfl (by simp) (by simp)) ?_; exact Wk.cut (by simp) (by simp [subE]) (by simp [cutH]) (by simp [lowE, lowN]) (by simp)
  case' refine_3 =>
   skip
   refine SW.rb ?_; refine SW.seqK fun K2 hK2 => ?_; refine SW.cond _ rfl (by simp) ?_ ?_
   case' refine_1 =>
    intro hb1; have hlt : k < e.gs.length := by simp at hb1; omega
    obtain ⟨x, hxk⟩ : ∃ q, e.gs[k]? = some q := ⟨_, List.getElem?_eq_getElem hlt⟩
    have hxo := g2 x (List.mem_of_getElem? hxk)
    have htk := tkS hxk
    have hlk : (GorSo (e.gs.take k)).length = k := by simp; omega
    have htq := List.take_of_length_le (Nat.le_of_eq hlk)
    refine SW.skip ?_; refine hK2 _ ?_; refine SW.seqK fun K9 hK9 => ?_; refine SW.block ?_; refine SW.rg fun K hK => ?_; simp -implicitDefEqProofs [hxk]
    repeat (refine And.intro (by clear hK; first | omega | (intros; simp_all; done) | (intros; grind)) ?_)
    refine hK _ ?_; clear hK K; refine SW.drawE mixed [.q [(0, false), (1, false), (2, false), (3, true), (4, true)], .b 5, .q [(6, false)], .b 7] (by kernel_rfl) rfl fun K hK => ?_; simp -implicitDefEqProofs
    repeat (refine And.intro (by clear hK; first | omega | (intros; simp_all; done) | (intros; grind)) ?_)
    refine imQ (copy_i x (by have := hxo.1; omega) (by have := hxo.2; omega)) (by simp) (Gor_oI x) ?_; simp -implicitDefEqProofs; repeat (refine And.intro (by clear hK; first | omega | (intros; simp_all; done) | (intros; grind)) ?_)
    refine hK _ ?_; clear hK K; refine hK9 _ ?_; refine SW.eb ?_; refine ⟨k + 1, by omega, by omega, ?_⟩
    refine Wk.trans (Wk.ren [0, 1, 2, 3, 9, 6, 7] (env' := [(16, .int .i64 ((k + 1) : Nat)), (15, .int .i64 e.gs.length), (14, .fz (GorSf e.gs)), (1, .ptr 0 0 0), (2, .ptr 1 0 0), (3, .ptr 3 0 0)]) (h' := [some ⟨3, [e.fr]⟩, some ⟨3, [[.nil, .nil, .nil]]⟩, some ⟨2, MutexSf e.mus⟩, some ⟨3, [[.sl 4 0 (k + 1), .nil, .sl 2 0 e.mus.length]]⟩, some ⟨5, (GorSo (e.gs.take k) ++ [[.int .i64 x.proc, .int .i64 x.pc, .sl 5 0 x.regs.length, .int .i64 x.state, .sl 6 0 x.trace.length]])⟩, some ⟨1, IntS x.regs⟩, some ⟨4, ItemS x.trace⟩]) (by simp) (by simp) (by simp) (by simp) (by simp [renE, renN, wrap1 k (by omega)]) (by simp [renH, htq]) (by simp [lowE, lowN]) (by simp [lowN])) ?_
    exact Wk.foGor (env' := [(16, .int .i64 ((k + 1) : Nat)), (15, .int .i64 e.gs.length), (14, .fz (GorSf e.gs)), (1, .ptr 0 0 0), (2, .ptr 1 0 0), (3, .ptr 3 0 0)]) (h := [some ⟨3, [e.fr]⟩, some ⟨3, [[.nil, .nil, .nil]]⟩, some ⟨2, MutexSf e.mus⟩, some ⟨3, [[.sl 4 0 (k + 1), .nil, .sl 2 0 e.mus.length]]⟩, none]) (h' := [some ⟨3, [e.fr]⟩, some ⟨3, [[.nil, .nil, .nil]]⟩, some ⟨2, MutexSf e.mus⟩, some ⟨3, [[.sl 4 0 (k + 1), .nil, .sl 2 0 e.mus.length]]⟩, some ⟨5, (GorSo (e.gs.take (k + 1)))⟩]) (p := 4) (k := k) (es := (GorSo (e.gs.take k) ++ [[.int .i64 x.proc, .int .i64 x.pc, .sl 5 0 x.regs.length, .int .i64 x.state, .sl 6 0 x.trace.length]])) (es' := (GorSo (e.gs.take (k + 1)))) (d := x) rfl (by simp) (get_snoc hlk) (by rw [set_snoc hlk, htk, GorSo_snoc]) (by simp) (by simp) (by simp [subE]) (by simp [subE]) (by simp [lowE, lowN]) (by simp [lowN]) rfl
   intro hb1; have hk : k = e.gs.length := by simp at hb1; omega
   subst hk; rw [List.take_length]; refine SW.exit ?_; simp only [Ex.then, Ex.ib]; try simp only [if_true, if_false, reduceIte]
   refine hK1 _ ?_; refine SW.seqK fun K3 hK3 => ?_; refine SW.rb ?_; refine SW.block ?_
   refine SW.loop (α := Nat) (fun k => ⟨[(31, .int .i64 (k : Nat)), (30, .int .i64 e.chans.length), (29, .fz (ChanSf e.chans)), (1, .ptr 0 0 0), (2, .ptr 1 0 0), (3, .ptr 3 0 0)], [some ⟨3, [e.fr]⟩, some ⟨3, [[.nil, .nil, .nil]]⟩, some ⟨2, MutexSf e.mus⟩, some ⟨3, [[.sl 4 0 e.gs.length, .sl 5 0 k, .sl 2 0 e.mus.length]]⟩, some ⟨5, GorSo e.gs⟩, some ⟨5, ChanSo (e.chans.take k)⟩]⟩) (fun k => k ≤ e.chans.length) (fun k => e.chans.length - k) (0) ?_ ?_ (fun k hx => ?_)
   case' refine_1 =>
    simp
   case' refine_2 =>
    refine Wk.trans (Wk.nilAt (j := 3) (i := 1) 5 (by simp; exact rfl) rfl (by simp) (by simp)) ?_; exact Wk.cut (by simp) (by simp [subE]) (by simp [cutH]) (by simp [lowE, lowN]) (by simp)
   case' refine_3 =>
    skip
    refine SW.rb ?_; refine SW.seqK fun K4 hK4 => ?_; refine SW.cond _ rfl (by simp) ?_ ?_
    case' refine_1 =>
     intro hb2; have hlt : k < e.chans.length := by simp at hb2; omega
     obtain ⟨x, hxk⟩ : ∃ q, e.chans[k]? = some q := ⟨_, List.getElem?_eq_getElem hlt⟩
     have hxo := g4 x (List.mem_of_getElem? hxk)
     have htk := tkS hxk
     have hlk : (ChanSo (e.chans.take k)).length = k := by simp; omega
     have htq := List.take_of_length_le (Nat.le_of_eq hlk)
     refine SW.skip ?_; refine hK4 _ ?_; refine SW.seqK fun K8 hK8 => ?_; refine SW.block ?_; refine SW.rg fun K hK => ?_; simp -implicitDefEqProofs [hxk]
     repeat (refine And.intro (by clear hK; first | omega | (intros; simp_all; done) | (intros; grind)) ?_)
     refine hK _ ?_; clear hK K; refine SW.drawE mixed [.q [(0, false), (1, false), (2, false), (3, true), (4, true)], .b 5, .q [(6, false)], .b 7] (by kernel_rfl) rfl fun K hK => ?_; simp -implicitDefEqProofs
     repeat (refine And.intro (by clear hK; first | omega | (intros; simp_all; done) | (intros; grind)) ?_)
     refine imQ (copyC_i x (by have := hxo.1; omega) (by have := hxo.2.1; omega) (by have := hxo.2.2; omega)) (by simp) (Chan_oI x) ?_; simp -implicitDefEqProofs
     repeat (refine And.intro (by clear hK; first | omega | (intros; simp_all; done) | (intros; grind)) ?_)
     refine hK _ ?_; clear hK K; refine hK8 _ ?_; refine SW.eb ?_; refine ⟨k + 1, by omega, by omega, ?_⟩
     refine Wk.trans (Wk.ren [0, 1, 2, 3, 4, 11, 7, 8, 9] (env' := [(31, .int .i64 ((k + 1) : Nat)), (30, .int .i64 e.chans.length), (29, .fz (ChanSf e.chans)), (1, .ptr 0 0 0), (2, .ptr 1 0 0), (3, .ptr 3 0 0)]) (h' := [some ⟨3, [e.fr]⟩, some ⟨3, [[.nil, .nil, .nil]]⟩, some ⟨2, MutexSf e.mus⟩, some ⟨3, [[.sl 4 0 e.gs.length, .sl 5 0 (k + 1), .sl 2 0 e.mus.length]]⟩, some ⟨5, GorSo e.gs⟩, some ⟨5, (ChanSo (e.chans.take k) ++ [[.int .i64 x.cap, .sl 6 0 x.buf.length, .sl 7 0 x.sends.length, .sl 8 0 x.recvs.length, .bool x.closed]])⟩, some ⟨1, IntS x.buf⟩, some ⟨3, WaiterS x.sends⟩, some ⟨3, WaiterS x.recvs⟩]) (by simp) (by simp) (by simp) (by simp) (by simp [renE, renN, wrap1 k (by omega)]) (by simp [renH, htq]) (by simp [lowE, lowN]) (by simp [lowN])) ?_
     exact Wk.foChan (env' := [(31, .int .i64 ((k + 1) : Nat)), (30, .int .i64 e.chans.length), (29, .fz (ChanSf e.chans)), (1, .ptr 0 0 0), (2, .ptr 1 0 0), (3, .ptr 3 0 0)]) (h := [some ⟨3, [e.fr]⟩, some ⟨3, [[.nil, .nil, .nil]]⟩, some ⟨2, MutexSf e.mus⟩, some ⟨3, [[.sl 4 0 e.gs.length, .sl 5 0 (k + 1), .sl 2 0 e.mus.length]]⟩, some ⟨5, GorSo e.gs⟩, none]) (h' := [some ⟨3, [e.fr]⟩, some ⟨3, [[.nil, .nil, .nil]]⟩, some ⟨2, MutexSf e.mus⟩, some ⟨3, [[.sl 4 0 e.gs.length, .sl 5 0 (k + 1), .sl 2 0 e.mus.length]]⟩, some ⟨5, GorSo e.gs⟩, some ⟨5, (ChanSo (e.chans.take (k + 1)))⟩]) (p := 5) (k := k) (es := (ChanSo (e.chans.take k) ++ [[.int .i64 x.cap, .sl 6 0 x.buf.length, .sl 7 0 x.sends.length, .sl 8 0 x.recvs.length, .bool x.closed]])) (es' := (ChanSo (e.chans.take (k + 1)))) (d := x) rfl (by simp) (get_snoc hlk) (by rw [set_snoc hlk, htk, ChanSo_snoc]) (by simp) (by simp) (by simp [subE]) (by simp [subE]) (by simp [lowE, lowN]) (by simp [lowN]) rfl
    intro hb2; have hk : k = e.chans.length := by simp at hb2; omega
    subst hk; rw [List.take_length]; refine SW.exit ?_; simp only [Ex.then, Ex.ib]; try simp only [if_true, if_false, reduceIte]
    refine hK3 _ ?_; refine SW.seqK fun K5 hK5 => ?_; refine SW.rb ?_; refine SW.block ?_
    refine SW.loop (α := Nat) (fun k => ⟨[(46, .int .i64 (k : Nat)), (45, .int .i64 e.mus.length), (1, .ptr 0 0 0), (2, .ptr 1 0 0), (3, .ptr 3 0 0)], [some ⟨3, [e.fr]⟩, some ⟨3, [[.nil, .nil, .nil]]⟩, some ⟨2, (MutexSo (e.mus.take k) ++ MutexSf (e.mus.drop k))⟩, some ⟨3, [[.sl 4 0 e.gs.length, .sl 5 0 e.chans.length, .sl 2 0 e.mus.length]]⟩, some ⟨5, GorSo e.gs⟩, some ⟨5, ChanSo e.chans⟩]⟩) (fun k => k ≤ e.mus.length) (fun k => e.mus.length - k) (0) ?_ ?_ (fun k hx => ?_)
    case' refine_1 =>
     simp
    case' refine_2 =>
     exact Wk.cut (by simp) (by simp [subE]) (by simp [cutH]) (by simp [lowE, lowN]) (by simp)
    case' refine_3 =>
     skip
     refine SW.rb ?_; refine SW.seqK fun K6 hK6 => ?_; refine SW.cond _ rfl (by simp) ?_ ?_
     case' refine_1 =>
      intro hb3; have hlt : k < e.mus.length := by simp at hb3; omega
      obtain ⟨x, hxk⟩ : ∃ q, e.mus[k]? = some q := ⟨_, List.getElem?_eq_getElem hlt⟩
      have hxo := g6 x (List.mem_of_getElem? hxk)
      have hms := mus_step hxk
      have hml : k < (MutexSo (e.mus.take k) ++ MutexSf (e.mus.drop k)).length := by simp; omega
      have hmg : (MutexSo (e.mus.take k) ++ MutexSf (e.mus.drop k))[k]? = some x.fr := by rw [List.getElem?_append_right (by simp; omega)]; simp [show k - min k e.mus.length = 0 by omega, hxk]
      refine SW.skip ?_; refine hK6 _ ?_; refine SW.seqK fun K7 hK7 => ?_; refine SW.block ?_; refine SW.rb ?_
      refine SW.drawE mixed [.q [(0, false), (1, false), (2, false), (3, false), (4, false), (5, false), (6, false), (7, false), (8, false), (9, true), (10, false), (11, false)], .b 12] (by kernel_rfl) rfl fun K hK => ?_
      simp -implicitDefEqProofs [hmg, hml]; repeat (refine And.intro (by clear hK; first | omega | (intros; simp_all; done) | (intros; grind)) ?_)
      refine imQ (cloneN_ok x.wait (by unfold Mutex.ok at hxo; omega)) (by simp) (IntS_okI _) ?_; simp -implicitDefEqProofs [hmg, hml]; repeat (refine And.intro (by clear hK; first | omega | (intros; simp_all; done) | (intros; grind)) ?_)
      refine hK _ ?_; clear hK K; refine hK7 _ ?_; refine SW.eb ?_; refine ⟨k + 1, by omega, by omega, ?_⟩
      refine Wk.trans (Wk.ren [0, 1, 2, 3, 4, 5, 6] (env' := [(46, .int .i64 ((k + 1) : Nat)), (45, .int .i64 e.mus.length), (1, .ptr 0 0 0), (2, .ptr 1 0 0), (3, .ptr 3 0 0)]) (h' := [some ⟨3, [e.fr]⟩, some ⟨3, [[.nil, .nil, .nil]]⟩, some ⟨2, ((MutexSo (e.mus.take k) ++ MutexSf (e.mus.drop k)).set k [.int .i64 x.owner, .sl 6 0 x.wait.length])⟩, some ⟨3, [[.sl 4 0 e.gs.length, .sl 5 0 e.chans.length, .sl 2 0 e.mus.length]]⟩, some ⟨5, GorSo e.gs⟩, some ⟨5, ChanSo e.chans⟩, some ⟨1, IntS x.wait⟩]) (by simp) (by simp) (by simp) (by simp) (by simp [renE, renN, wrap1 k (by omega)]) (by simp [renH]) (by simp [lowE, lowN]) (by simp [lowN, lowEs_set])) ?_
      exact Wk.foMutex (env' := [(46, .int .i64 ((k + 1) : Nat)), (45, .int .i64 e.mus.length), (1, .ptr 0 0 0), (2, .ptr 1 0 0), (3, .ptr 3 0 0)]) (h := [some ⟨3, [e.fr]⟩, some ⟨3, [[.nil, .nil, .nil]]⟩, none, some ⟨3, [[.sl 4 0 e.gs.length, .sl 5 0 e.chans.length, .sl 2 0 e.mus.length]]⟩, some ⟨5, GorSo e.gs⟩, some ⟨5, ChanSo e.chans⟩]) (h' := [some ⟨3, [e.fr]⟩, some ⟨3, [[.nil, .nil, .nil]]⟩, some ⟨2, (MutexSo (e.mus.take (k + 1)) ++ MutexSf (e.mus.drop (k + 1)))⟩, some ⟨3, [[.sl 4 0 e.gs.length, .sl 5 0 e.chans.length, .sl 2 0 e.mus.length]]⟩, some ⟨5, GorSo e.gs⟩, some ⟨5, ChanSo e.chans⟩]) (p := 2) (k := k) (es := ((MutexSo (e.mus.take k) ++ MutexSf (e.mus.drop k)).set k [.int .i64 x.owner, .sl 6 0 x.wait.length])) (es' := (MutexSo (e.mus.take (k + 1)) ++ MutexSf (e.mus.drop (k + 1)))) (d := x) rfl (by simp) (List.getElem?_set_self hml) (by rw [List.set_set]; exact hms) (by simp) (by simp) (by simp [subE]) (by simp [subE]) (by simp [lowE, lowN]) (by simp [lowN]) rfl
     intro hb3; have hk : k = e.mus.length := by simp at hb3; omega
     subst hk; rw [List.take_length, List.drop_length]; refine SW.exit ?_; simp only [Ex.then, Ex.ib]; try simp only [if_true, if_false, reduceIte]
     refine hK5 _ ?_; refine SW.rb ?_; refine SW.ret ?_; simp [Ex.then, Ex.ib, -strN]
     all_goals first
       | done
       | (simp; done)
       | fail
end HT
