import Derived.Test.YtdhoappjadnhcaaGreatHCA9
import Derived.Test.YtdhoappjadnhcaaGreatHCA7
import Derived.Test.YtdhoappjadnhcaaGreatHCT2E
import Derived.Test.YtdhoappjadnhcaaGreatHCT4E
/-
  My own texts (road H): HCAA.
-/
set_option maxHeartbeats 8000000
set_option linter.unusedSimpArgs false
set_option linter.unusedVariables false
namespace HT
open Go Go.Proofs HK
def Eng.mk1 (s : Int) (d : Eng) : Eng := ⟨mkN Gor.mk1 Gor.wt (s) d.gs, mkN Chan.mk1 Chan.wt (s + (((d.gs.map Gor.wt).sum : Nat) : Int)) d.chans, mkN Mutex.mk1 Mutex.wt (s + (((d.gs.map Gor.wt).sum : Nat) : Int) + (((d.chans.map Chan.wt).sum : Nat) : Int)) d.mus⟩
@[simp] theorem mk1_lengs (s : Int) (d : Eng) : (Eng.mk1 s d).gs.length = d.gs.length := by simp [Eng.mk1]
@[simp] theorem mk1_takegs (s : Int) (d : Eng) : List.take d.gs.length (GorSf (Eng.mk1 s d).gs) = GorSf (Eng.mk1 s d).gs := List.take_of_length_le (by simp)
@[simp] theorem mk1_lenchans (s : Int) (d : Eng) : (Eng.mk1 s d).chans.length = d.chans.length := by simp [Eng.mk1]
@[simp] theorem mk1_takechans (s : Int) (d : Eng) : List.take d.chans.length (ChanSf (Eng.mk1 s d).chans) = ChanSf (Eng.mk1 s d).chans := List.take_of_length_le (by simp)
@[simp] theorem mk1_lenmus (s : Int) (d : Eng) : (Eng.mk1 s d).mus.length = d.mus.length := by simp [Eng.mk1]
@[simp] theorem mk1_takemus (s : Int) (d : Eng) : List.take d.mus.length (MutexSf (Eng.mk1 s d).mus) = MutexSf (Eng.mk1 s d).mus := List.take_of_length_le (by simp)
theorem markX_Eng0 (d : Eng) (s : Int) (hW : d.tw ≤ 2 ^ 30) (l0 : d.gs.length ≤ 2 ^ 30) (l1 : d.chans.length ≤ 2 ^ 30) (l2 : d.mus.length ≤ 2 ^ 30) (hs : 0 ≤ s) (hs2 : s ≤ 2 ^ 31) : CallS Tryz.prog 18 [.agg [.sl 0 0 d.gs.length, .sl 1 0 d.chans.length, .sl 2 0 d.mus.length], .int .i64 s] ([some ⟨5, GorSo d.gs⟩, some ⟨5, ChanSo d.chans⟩, some ⟨2, MutexSo d.mus⟩]) (fun o h' => o = .int .i64 (s + (d.tw : Int)) ∧ h' = [some ⟨5, GorSo (mkN Gor.mk1 Gor.wt (s) d.gs)⟩, some ⟨5, ChanSo (mkN Chan.mk1 Chan.wt (s + (((d.gs.map Gor.wt).sum : Nat) : Int)) d.chans)⟩, some ⟨2, MutexSo (mkN Mutex.mk1 Mutex.wt (s + (((d.gs.map Gor.wt).sum : Nat) : Int) + (((d.chans.map Chan.wt).sum : Nat) : Int)) d.mus)⟩]) := by
  refine CallS.intro Tryz.func18 (by decide) rfl (rs := [.tmp 4]) rfl Tryz.ntmps18 (by simp) ?_
  have hT : (d.tw : Int) = (((d.gs.map Gor.wt).sum : Nat) : Int) + (((d.chans.map Chan.wt).sum : Nat) : Int) + (((d.mus.map Mutex.wt).sum : Nat) : Int) := by unfold Eng.tw; omega
  unfold Eng.tw at hW; refine SW.ra ?_; refine SW.rg fun K hK => ?_; simp -implicitDefEqProofs; iterate 2 (try refine ⟨by omega, ?_⟩)
  refine CallS.mono (markX_GorS d.gs (s) _ 0 _ rfl (by simp) (by omega) (by omega) (by omega) (by omega)) ?_
  rintro o h' ⟨rfl, rfl⟩
  simp -implicitDefEqProofs; repeat refine ⟨by omega, ?_⟩
  refine hK _ ?_; clear hK K; refine SW.rg fun K hK => ?_; simp -implicitDefEqProofs; iterate 2 (try refine ⟨by omega, ?_⟩)
  refine CallS.mono (markX_ChanS d.chans (s + (((d.gs.map Gor.wt).sum : Nat) : Int)) _ 1 _ rfl (by simp) (by omega) (by omega) (by omega) (by omega)) ?_
  rintro o h' ⟨rfl, rfl⟩
  simp -implicitDefEqProofs; repeat refine ⟨by omega, ?_⟩
  refine hK _ ?_; clear hK K; refine SW.rg fun K hK => ?_; simp -implicitDefEqProofs; iterate 2 (try refine ⟨by omega, ?_⟩)
  refine CallS.mono (markX_MutexS d.mus (s + (((d.gs.map Gor.wt).sum : Nat) : Int) + (((d.chans.map Chan.wt).sum : Nat) : Int)) _ 2 _ rfl (by simp) (by omega) (by omega) (by omega) (by omega)) ?_
  rintro o h' ⟨rfl, rfl⟩
  simp -implicitDefEqProofs; repeat refine ⟨by omega, ?_⟩
  refine hK _ ?_; clear hK K; refine SW.ra ?_
  refine SW.wk (Wk.cut (env' := [(4, .int .i64 (s + (((d.gs.map Gor.wt).sum : Nat) : Int) + (((d.chans.map Chan.wt).sum : Nat) : Int) + (((d.mus.map Mutex.wt).sum : Nat) : Int)))]) (h' := [some ⟨5, GorSo (mkN Gor.mk1 Gor.wt (s) d.gs)⟩, some ⟨5, ChanSo (mkN Chan.mk1 Chan.wt (s + (((d.gs.map Gor.wt).sum : Nat) : Int)) d.chans)⟩, some ⟨2, MutexSo (mkN Mutex.mk1 Mutex.wt (s + (((d.gs.map Gor.wt).sum : Nat) : Int) + (((d.chans.map Chan.wt).sum : Nat) : Int)) d.mus)⟩]) (by simp) (by simp [subE]) (by simp [cutH]) (by simp [lowE, lowN]) (by simp)) ?_
  refine SW.ret ?_; simp [Ex.then, Ex.ib]; try simp
  omega
theorem markX_Eng (d : Eng) (s : Int) (H : Heap) (a b c : Nat) (hnd : [a, b, c].Nodup) (h1 : H[a]? = some (some ⟨5, GorSo d.gs⟩)) (h2 : H[b]? = some (some ⟨5, ChanSo d.chans⟩)) (h3 : H[c]? = some (some ⟨2, MutexSo d.mus⟩)) (hW : d.tw ≤ 2 ^ 30) (l0 : d.gs.length ≤ 2 ^ 30) (l1 : d.chans.length ≤ 2 ^ 30) (l2 : d.mus.length ≤ 2 ^ 30) (hs : 0 ≤ s) (hs2 : s ≤ 2 ^ 31) :
    CallS Tryz.prog 18 [.agg [.sl a 0 d.gs.length, .sl b 0 d.chans.length, .sl c 0 d.mus.length], .int .i64 s] H (fun o h' => o = .int .i64 (s + (d.tw : Int)) ∧ h' = ((H.set a (some ⟨5, GorSo (Eng.mk1 s d).gs⟩)).set b (some ⟨5, ChanSo (Eng.mk1 s d).chans⟩)).set c (some ⟨2, MutexSo (Eng.mk1 s d).mus⟩)) := by
  have := frE3 (ext0 := []) (ext := []) (gs' := (Eng.mk1 s d).gs) (cs' := (Eng.mk1 s d).chans) (ms' := (Eng.mk1 s d).mus) (by have q := markX_Eng0 d s hW l0 l1 l2 hs hs2; simpa [Eng.mk1] using q) hnd (args := [.agg [.sl a 0 d.gs.length, .sl b 0 d.chans.length, .sl c 0 d.mus.length], .int .i64 s]) (by simp) (by simp [lowN]) (by intro n; rfl) (by simp [lowN]) rfl (by simp) (by simp) h1 h2 h3
  simpa using this
theorem held_Eng (d : Eng) (s : Int) (hW : d.tw ≤ 2 ^ 30) (l0 : d.gs.length ≤ 2 ^ 30) (l1 : d.chans.length ≤ 2 ^ 30) (l2 : d.mus.length ≤ 2 ^ 30) (hs : 0 ≤ s) (hs2 : s ≤ 2 ^ 31) : Fn Tryz.prog 19 [.agg (Eng.mk1 s d).fr, .int .i64 s] (.int .i64 (s + (d.tw : Int))) := by
  refine Fn.intro Tryz.func19 (by decide) rfl (rs := [.tmp 4]) rfl Tryz.ntmps19 (by simp) ?_
  have hT : (d.tw : Int) = (((d.gs.map Gor.wt).sum : Nat) : Int) + (((d.chans.map Chan.wt).sum : Nat) : Int) + (((d.mus.map Mutex.wt).sum : Nat) : Int) := by unfold Eng.tw; omega
  unfold Eng.tw at hW; refine SW.rg fun K hK => ?_; simp -implicitDefEqProofs; repeat (refine And.intro (by clear hK; first | omega | (intros; omega) | (intros; simp_all; done) | (intros; grind)) ?_)
  refine hK _ ?_; clear hK K; refine SW.rg fun K hK => ?_; simp -implicitDefEqProofs; repeat (refine And.intro (by clear hK; first | omega | (intros; omega) | (intros; simp_all; done) | (intros; grind)) ?_)
  refine CallK.fzE (heldX_GorS d.gs (s) (by omega) (by omega) (by omega) (by omega)) (by simp [Eng.mk1]) ?_; simp -implicitDefEqProofs
  repeat (refine And.intro (by clear hK; first | omega | (intros; omega) | (intros; simp_all; done) | (intros; grind)) ?_)
  refine hK _ ?_; clear hK K; refine SW.seqK fun K1 hK1 => ?_; refine SW.rg fun K hK => ?_; simp -implicitDefEqProofs; repeat (refine And.intro (by clear hK; first | omega | (intros; omega) | (intros; simp_all; done) | (intros; grind)) ?_)
  refine hK _ ?_; clear hK K; refine SW.cond _ rfl (by simp) ?_ ?_
  case' refine_1 =>
   intro hb1; exfalso; simp at hb1; omega
  intro hb1; refine SW.skip ?_; refine hK1 _ ?_; refine SW.rg fun K hK => ?_; simp -implicitDefEqProofs; repeat (refine And.intro (by clear hK; first | omega | (intros; omega) | (intros; simp_all; done) | (intros; grind)) ?_)
  refine CallK.fzE (heldX_ChanS d.chans (s + (((d.gs.map Gor.wt).sum : Nat) : Int)) (by omega) (by omega) (by omega) (by omega)) (by simp [Eng.mk1]) ?_; simp -implicitDefEqProofs
  repeat (refine And.intro (by clear hK; first | omega | (intros; omega) | (intros; simp_all; done) | (intros; grind)) ?_)
  refine hK _ ?_; clear hK K; refine SW.seqK fun K2 hK2 => ?_; refine SW.rg fun K hK => ?_; simp -implicitDefEqProofs; repeat (refine And.intro (by clear hK; first | omega | (intros; omega) | (intros; simp_all; done) | (intros; grind)) ?_)
  refine hK _ ?_; clear hK K; refine SW.cond _ rfl (by simp) ?_ ?_
  case' refine_1 =>
   intro hb2; exfalso; simp at hb2; omega
  intro hb2; refine SW.skip ?_; refine hK2 _ ?_; refine SW.rg fun K hK => ?_; simp -implicitDefEqProofs; repeat (refine And.intro (by clear hK; first | omega | (intros; omega) | (intros; simp_all; done) | (intros; grind)) ?_)
  refine CallK.fzE (heldX_MutexS d.mus (s + (((d.gs.map Gor.wt).sum : Nat) : Int) + (((d.chans.map Chan.wt).sum : Nat) : Int)) (by omega) (by omega) (by omega) (by omega)) (by simp [Eng.mk1]) ?_; simp -implicitDefEqProofs
  repeat (refine And.intro (by clear hK; first | omega | (intros; omega) | (intros; simp_all; done) | (intros; grind)) ?_)
  refine hK _ ?_; clear hK K; refine SW.seqK fun K3 hK3 => ?_; refine SW.rg fun K hK => ?_; simp -implicitDefEqProofs; repeat (refine And.intro (by clear hK; first | omega | (intros; omega) | (intros; simp_all; done) | (intros; grind)) ?_)
  refine hK _ ?_; clear hK K; refine SW.cond _ rfl (by simp) ?_ ?_
  case' refine_1 =>
   intro hb3; exfalso; simp at hb3; omega
  intro hb3; refine SW.skip ?_; refine hK3 _ ?_; refine SW.rg fun K hK => ?_; simp -implicitDefEqProofs; repeat (refine And.intro (by clear hK; first | omega | (intros; omega) | (intros; simp_all; done) | (intros; grind)) ?_)
  refine hK _ ?_; clear hK K; refine SW.ret ?_; simp [Ex.then, Ex.ib]
  all_goals first
    | omega
    | (simp; omega)
    | fail
theorem eqGorS_nil : Fn Tryz.prog 62 [.nil, .nil] (.bool true) := Fn.nil2 (eqGorS_ok [] (by simp))
theorem eqChanS_nil : Fn Tryz.prog 63 [.nil, .nil] (.bool true) := Fn.nil2 (eqChanS_ok [] (by simp))
theorem eqMutexS_nil : Fn Tryz.prog 64 [.nil, .nil] (.bool true) := Fn.nil2 (eqMutexS_ok [] (by simp))
theorem held_GorS_nil : Fn Tryz.prog 74 [.nil, .int .i64 1] (.int .i64 1) := by
  have h5 := heldX_GorS [] 1 (by simp) (by simp) (by omega) (by omega)
  exact Fn.nil1 h5
theorem held_ChanS_nil : Fn Tryz.prog 75 [.nil, .int .i64 1] (.int .i64 1) := by
  have h5 := heldX_ChanS [] 1 (by simp) (by simp) (by omega) (by omega)
  exact Fn.nil1 h5
theorem held_MutexS_nil : Fn Tryz.prog 76 [.nil, .int .i64 1] (.int .i64 1) := by
  have h5 := heldX_MutexS [] 1 (by simp) (by simp) (by omega) (by omega)
  exact Fn.nil1 h5
theorem eqEng_nil  : Fn Tryz.prog 15 [.agg [.nil, .nil, .nil], .agg [.nil, .nil, .nil]] (.bool true) := by
  refine Fn.intro Tryz.func15 (by decide) rfl (rs := [.tmp 4]) rfl Tryz.ntmps15 (by simp) ?_; refine SW.ra ?_; refine SW.seqK fun K1 hK1 => ?_; refine SW.rg fun K hK => ?_; simp -implicitDefEqProofs; iterate 2 (try refine ⟨by omega, ?_⟩)
  refine CallK.fzE (eqGorS_nil) (by simp) ?_; simp -implicitDefEqProofs; repeat refine ⟨by omega, ?_⟩
  refine hK _ ?_; clear hK K; refine SW.cond _ rfl (by simp) ?_ ?_
  case' refine_1 =>
   intro hb1; exfalso; simp at hb1
  intro hb1; refine SW.skip ?_; refine hK1 _ ?_; refine SW.seqK fun K2 hK2 => ?_; refine SW.rg fun K hK => ?_; simp -implicitDefEqProofs; iterate 2 (try refine ⟨by omega, ?_⟩)
  refine CallK.fzE (eqChanS_nil) (by simp) ?_; simp -implicitDefEqProofs; repeat refine ⟨by omega, ?_⟩
  refine hK _ ?_; clear hK K; refine SW.cond _ rfl (by simp) ?_ ?_
  case' refine_1 =>
   intro hb2; exfalso; simp at hb2
  intro hb2; refine SW.skip ?_; refine hK2 _ ?_; refine SW.seqK fun K3 hK3 => ?_; refine SW.rg fun K hK => ?_; simp -implicitDefEqProofs; iterate 2 (try refine ⟨by omega, ?_⟩)
  refine CallK.fzE (eqMutexS_nil) (by simp) ?_; simp -implicitDefEqProofs; repeat refine ⟨by omega, ?_⟩
  refine hK _ ?_; clear hK K; refine SW.cond _ rfl (by simp) ?_ ?_
  case' refine_1 =>
   intro hb3; exfalso; simp at hb3
  intro hb3; refine SW.skip ?_; refine hK3 _ ?_; refine SW.ra ?_; refine SW.ret ?_; simp [Ex.then, Ex.ib]
theorem held_Eng_nil  : Fn Tryz.prog 19 [.agg [.nil, .nil, .nil], .int .i64 1] (.int .i64 1) := by
  refine Fn.intro Tryz.func19 (by decide) rfl (rs := [.tmp 4]) rfl Tryz.ntmps19 (by simp) ?_; refine SW.ra ?_; refine SW.rg fun K hK => ?_; simp -implicitDefEqProofs; iterate 2 (try refine ⟨by omega, ?_⟩)
  refine CallK.fzE (held_GorS_nil) (by simp) ?_; simp -implicitDefEqProofs; repeat refine ⟨by omega, ?_⟩
  refine hK _ ?_; clear hK K; refine SW.seqK fun K1 hK1 => ?_; refine SW.ra ?_; refine SW.cond _ rfl (by simp) ?_ ?_
  case' refine_1 =>
   intro hb1; exfalso; simp at hb1
  intro hb1; refine SW.skip ?_; refine hK1 _ ?_; refine SW.rg fun K hK => ?_; simp -implicitDefEqProofs; iterate 2 (try refine ⟨by omega, ?_⟩)
  refine CallK.fzE (held_ChanS_nil) (by simp) ?_; simp -implicitDefEqProofs; repeat refine ⟨by omega, ?_⟩
  refine hK _ ?_; clear hK K; refine SW.seqK fun K2 hK2 => ?_; refine SW.ra ?_; refine SW.cond _ rfl (by simp) ?_ ?_
  case' refine_1 =>
   intro hb2; exfalso; simp at hb2
  intro hb2; refine SW.skip ?_; refine hK2 _ ?_; refine SW.rg fun K hK => ?_; simp -implicitDefEqProofs; iterate 2 (try refine ⟨by omega, ?_⟩)
  refine CallK.fzE (held_MutexS_nil) (by simp) ?_; simp -implicitDefEqProofs; repeat refine ⟨by omega, ?_⟩
  refine hK _ ?_; clear hK K; refine SW.seqK fun K3 hK3 => ?_; refine SW.ra ?_; refine SW.cond _ rfl (by simp) ?_ ?_
  case' refine_1 =>
   intro hb3; exfalso; simp at hb3
  intro hb3; refine SW.skip ?_; refine hK3 _ ?_; refine SW.ra ?_; refine SW.ret ?_; simp [Ex.then, Ex.ib]
  all_goals (try simp)
theorem mark_GorS_nil (h : Heap) (s : Int) : CallS Tryz.prog 71 [.nil, .int .i64 s] (h) (fun o h' => o = .int .i64 s ∧ h' = h) := by
  refine CallS.intro Tryz.func71 (by decide) rfl (rs := [.tmp 4]) rfl Tryz.ntmps71 (by simp) ?_; refine SW.ra ?_; refine SW.seqK fun K1 hK1 => ?_; refine SW.ra ?_; refine SW.block ?_
  refine SW.loop (α := Unit) (fun x => ⟨[(5, .int .i64 0), (1, .int .i64 s), (0, .nil)], h⟩) (fun x => True) (fun x => 0) (()) ?_ ?_ (fun x hx => ?_)
  case' refine_1 =>
   simp
  case' refine_2 =>
   refine Wk.softH (by simp [softE, softV]) rfl
  case' refine_3 =>
   skip
   refine SW.seqK fun K2 hK2 => ?_; refine SW.ra ?_; refine SW.cond _ rfl (by simp) ?_ ?_
   case' refine_1 =>
    intro hb1; exfalso; simp at hb1
   intro hb1; refine SW.exit ?_; simp only [Ex.then, Ex.ib]; try simp only [if_true, if_false, reduceIte]
   refine hK1 _ ?_; refine SW.ra ?_; refine SW.ret ?_; simp [Ex.then, Ex.ib]
   all_goals simp
theorem mark_ChanS_nil (h : Heap) (s : Int) : CallS Tryz.prog 72 [.nil, .int .i64 s] (h) (fun o h' => o = .int .i64 s ∧ h' = h) := by
  refine CallS.intro Tryz.func72 (by decide) rfl (rs := [.tmp 4]) rfl Tryz.ntmps72 (by simp) ?_; refine SW.ra ?_; refine SW.seqK fun K1 hK1 => ?_; refine SW.ra ?_; refine SW.block ?_
  refine SW.loop (α := Unit) (fun x => ⟨[(5, .int .i64 0), (1, .int .i64 s), (0, .nil)], h⟩) (fun x => True) (fun x => 0) (()) ?_ ?_ (fun x hx => ?_)
  case' refine_1 =>
   simp
  case' refine_2 =>
   refine Wk.softH (by simp [softE, softV]) rfl
  case' refine_3 =>
   skip
   refine SW.seqK fun K2 hK2 => ?_; refine SW.ra ?_; refine SW.cond _ rfl (by simp) ?_ ?_
   case' refine_1 =>
    intro hb1; exfalso; simp at hb1
   intro hb1; refine SW.exit ?_; simp only [Ex.then, Ex.ib]; try simp only [if_true, if_false, reduceIte]
   refine hK1 _ ?_; refine SW.ra ?_; refine SW.ret ?_; simp [Ex.then, Ex.ib]
   all_goals simp
theorem mark_MutexS_nil (h : Heap) (s : Int) : CallS Tryz.prog 73 [.nil, .int .i64 s] (h) (fun o h' => o = .int .i64 s ∧ h' = h) := by
  refine CallS.intro Tryz.func73 (by decide) rfl (rs := [.tmp 4]) rfl Tryz.ntmps73 (by simp) ?_; refine SW.ra ?_; refine SW.seqK fun K1 hK1 => ?_; refine SW.ra ?_; refine SW.block ?_
  refine SW.loop (α := Unit) (fun x => ⟨[(5, .int .i64 0), (1, .int .i64 s), (0, .nil)], h⟩) (fun x => True) (fun x => 0) (()) ?_ ?_ (fun x hx => ?_)
  case' refine_1 =>
   simp
  case' refine_2 =>
   refine Wk.softH (by simp [softE, softV]) rfl
  case' refine_3 =>
   skip
   refine SW.seqK fun K2 hK2 => ?_; refine SW.ra ?_; refine SW.cond _ rfl (by simp) ?_ ?_
   case' refine_1 =>
    intro hb1; exfalso; simp at hb1
   intro hb1; refine SW.exit ?_; simp only [Ex.then, Ex.ib]; try simp only [if_true, if_false, reduceIte]
   refine hK1 _ ?_; refine SW.ra ?_; refine SW.ret ?_; simp [Ex.then, Ex.ib]
   all_goals simp
theorem mark_Eng_nil0 (s : Int) : CallS Tryz.prog 18 [.agg [.nil, .nil, .nil], .int .i64 s] ([]) (fun o h' => o = .int .i64 s ∧ h' = []) := by
  refine CallS.intro Tryz.func18 (by decide) rfl (rs := [.tmp 4]) rfl Tryz.ntmps18 (by simp) ?_; refine SW.ra ?_; refine SW.rg fun K hK => ?_; simp -implicitDefEqProofs; iterate 2 (try refine ⟨by omega, ?_⟩)
  refine CallS.mono (mark_GorS_nil _ s) ?_
  rintro o h' ⟨rfl, rfl⟩
  simp -implicitDefEqProofs; repeat refine ⟨by omega, ?_⟩
  refine hK _ ?_; clear hK K; refine SW.rg fun K hK => ?_; simp -implicitDefEqProofs; iterate 2 (try refine ⟨by omega, ?_⟩)
  refine CallS.mono (mark_ChanS_nil _ s) ?_
  rintro o h' ⟨rfl, rfl⟩
  simp -implicitDefEqProofs; repeat refine ⟨by omega, ?_⟩
  refine hK _ ?_; clear hK K; refine SW.rg fun K hK => ?_; simp -implicitDefEqProofs; iterate 2 (try refine ⟨by omega, ?_⟩)
  refine CallS.mono (mark_MutexS_nil _ s) ?_
  rintro o h' ⟨rfl, rfl⟩
  simp -implicitDefEqProofs; repeat refine ⟨by omega, ?_⟩
  refine hK _ ?_; clear hK K; refine SW.ra ?_; refine SW.wk (Wk.cut (env' := [(4, .int .i64 s)]) (h' := []) (by simp) (by simp [subE]) (by simp [cutH]) (by simp [lowE, lowN]) (by simp)) ?_; refine SW.ret ?_; simp [Ex.then, Ex.ib]
  all_goals (try simp)
theorem mark_Eng_nil (H : Heap) (s : Int) : CallS Tryz.prog 18 [.agg [.nil, .nil, .nil], .int .i64 s] H (fun o h' => o = .int .i64 s ∧ h' = H) := by
  refine CallS.mono (CallS.frame [] (mark_Eng_nil0 s) (by simp) (by simp [lowN]) (by simp) (by simp) (by simp [renH]) (by simp) (by simp) ?_) ?_
  · rintro o h' ⟨rfl, rfl⟩
    exact ⟨by simp, by simp, by simp, rfl⟩
  · rintro o h' ⟨o0, h0, ⟨rfl, rfl⟩, rfl, rfl⟩
    exact ⟨by simp, by simp [frameH, merge]⟩
end HT
