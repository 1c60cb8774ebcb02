import Derived.Test.YtdhoappjadnhcaaGreatHCTVE
import Derived.Test.YtdhoappjadnhcaaGreatHCA4
/-
  My own texts (road H): HCA9.
-/
set_option maxHeartbeats 8000000
set_option linter.unusedSimpArgs false
set_option linter.unusedVariables false
namespace HT
open Go Go.Proofs HK
def mkN {α : Type} (f : Int → α → α) (w : α → Nat) : Int → List α → List α
  | _, [] => []
  | s, x :: r => f s x :: mkN f w (s + (w x : Int)) r
section
variable {α : Type} {f : Int → α → α} {w : α → Nat}
@[simp] theorem mkN_len : ∀ (s : Int) (l : List α), (mkN f w s l).length = l.length
  | _, [] => rfl
  | s, x :: r => by simp [mkN, mkN_len]
theorem mkN_get : ∀ {s : Int} {l : List α} {k : Nat} {x : α}, l[k]? = some x → (mkN f w s l)[k]? = some (f (s + ((((l.take k).map w).sum : Nat) : Int)) x)
  | s, y :: r, 0, x, h => by simp at h; subst h; simp [mkN]
  | s, y :: r, k + 1, x, h => by
    have := mkN_get (s := s + (w y : Int)) (l := r) (k := k) (x := x) (by simpa using h)
    simp only [mkN, List.getElem?_cons_succ, this, List.take_succ_cons, List.map_cons, List.sum_cons, Option.some.injEq]
    congr 1
    omega
def mdN (f : Int → α → α) (w : α → Nat) (s : Int) (l : List α) (k : Nat) : List α := (mkN f w s l).take k ++ l.drop k
theorem mdN_zero (s : Int) (l : List α) : mdN f w s l 0 = l := by simp [mdN]
theorem mdN_all (s : Int) (l : List α) : mdN f w s l l.length = mkN f w s l := by simp [mdN, List.take_of_length_le]
@[simp] theorem mdN_len (s : Int) (l : List α) (k : Nat) : (mdN f w s l k).length = l.length := by simp [mdN]; omega
theorem mdN_get {s : Int} {l : List α} {k : Nat} {x : α} (h : l[k]? = some x) : (mdN f w s l k)[k]? = some x := by
  have hk := (List.getElem?_eq_some_iff.1 h).1
  rw [mdN, List.getElem?_append_right (by simp; omega)]; simp [show k - min k l.length = 0 by omega, h]
theorem mdN_set {s : Int} {l : List α} {k : Nat} {x : α} (h : l[k]? = some x) : (mdN f w s l k).set k (f (s + ((((l.take k).map w).sum : Nat) : Int)) x) = mdN f w s l (k + 1) := by
  have hg := mkN_get (f := f) (w := w) (s := s) h
  obtain ⟨hk, rfl⟩ := List.getElem?_eq_some_iff.1 h; unfold mdN; rw [List.set_append_right _ _ (by simp; omega), List.drop_eq_getElem_cons hk, List.take_add_one, hg]; have e : k - ((mkN f w s l).take k).length = 0 := by simp; omega
  rw [e, List.set_cons_zero]; simp
end
theorem held_WaiterS (n : Nat) (s : Int) (hn : n ≤ 2 ^ 40) (hs : 0 ≤ s) (hs2 : s ≤ 2 ^ 50) : Fn Tryz.prog 147 [.fz (WaiterS (mkWaiter s n)), .int .i64 s] (.int .i64 (s + 3 * (n : Int))) := by
  refine Fn.intro Tryz.func147 (by decide) rfl (rs := [.tmp 4]) rfl Tryz.ntmps147 (by simp) ?_; refine SW.ra ?_; refine SW.seqK fun K1 hK1 => ?_; refine SW.ra ?_; refine SW.block ?_
  refine SW.loop (α := Nat) (fun k => ⟨[(5, .int .i64 k), (1, .int .i64 (s + 3 * (k : Int))), (0, .fz (WaiterS (mkWaiter s n)))], []⟩) (fun k => k ≤ n) (fun k => n - k) (0) ?_ ?_ (fun k hx => ?_)
  case' refine_1 =>
   simp
  case' refine_2 =>
   exact Wk.cut (by simp) (by simp [subE]) (by simp [cutH]) (by simp [lowE, lowN]) (by simp)
  case' refine_3 =>
   skip
   refine SW.seqK fun K2 hK2 => ?_; refine SW.ra ?_; refine SW.cond _ rfl (by simp) ?_ ?_
   case' refine_1 =>
    intro hb1; have hlt : k < n := by simpa using hb1
    have hxk : (mkWaiter s n)[k]? = some (mkWaiter1 (s + 3 * (k : Int))) := by have h9 := mkL_get (f := mkWaiter1) (F := 3) (s := s) hlt; simpa using h9
    have hw1 := wrapI (s + 3 * (k : Int) + 1) (by omega) (by omega)
    have hw2 := wrapI (s + 3 * (k : Int) + 1 + 1) (by omega) (by omega)
    have hw3 := wrapI (s + 3 * (k : Int) + 1 + 1 + 1) (by omega) (by omega)
    refine SW.skip ?_; refine hK2 _ ?_; refine SW.seqK fun K3 hK3 => ?_; refine SW.block ?_; refine SW.seqK fun K4 hK4 => ?_; refine SW.rg fun K hK => ?_; simp -implicitDefEqProofs [hxk, mkWaiter1]; repeat refine ⟨by omega, ?_⟩
    refine hK _ ?_; clear hK K; refine SW.cond _ rfl (by simp) ?_ ?_
    case' refine_1 =>
     intro hb2; exfalso; simp at hb2
    intro hb2; refine SW.skip ?_; refine hK4 _ ?_; refine SW.rg fun K hK => ?_; simp -implicitDefEqProofs [hw1]; repeat refine ⟨by omega, ?_⟩
    refine hK _ ?_; clear hK K; refine SW.seqK fun K5 hK5 => ?_; refine SW.rg fun K hK => ?_; simp -implicitDefEqProofs [hxk, mkWaiter1]; repeat refine ⟨by omega, ?_⟩
    refine hK _ ?_; clear hK K; refine SW.cond _ rfl (by simp) ?_ ?_
    case' refine_1 =>
     intro hb3; exfalso; simp at hb3
    intro hb3; refine SW.skip ?_; refine hK5 _ ?_; refine SW.rg fun K hK => ?_; simp -implicitDefEqProofs [hw2]; repeat refine ⟨by omega, ?_⟩
    refine hK _ ?_; clear hK K; refine SW.seqK fun K6 hK6 => ?_; refine SW.rg fun K hK => ?_; simp -implicitDefEqProofs [hxk, mkWaiter1]; repeat refine ⟨by omega, ?_⟩
    refine hK _ ?_; clear hK K; refine SW.cond _ rfl (by simp) ?_ ?_
    case' refine_1 =>
     intro hb4; exfalso; simp at hb4
    intro hb4; refine SW.skip ?_; refine hK6 _ ?_; refine SW.regionE fun K hK => ?_; simp -implicitDefEqProofs [hw3]; repeat refine ⟨by omega, ?_⟩
    refine hK _ ?_; clear hK K; refine hK3 _ ?_; refine SW.ea ?_; refine ⟨k + 1, by omega, by omega, ?_⟩; exact Wk.cut (by simp) (by simp [subE, wrap1 k (by omega)]; try omega) (by simp [cutH]) (by simp [lowE, lowN]) (by simp)
   intro hb1; have hk : k = n := by simp at hb1; omega
   refine SW.exit ?_; simp only [Ex.then, Ex.ib]; try simp only [if_true, if_false, reduceIte]
   refine hK1 _ ?_; refine SW.ra ?_; refine SW.ret ?_; simp [Ex.then, Ex.ib]
   all_goals (try (subst hk; simp))
def Gor.mk1 (s : Int) (d : Gor) : Gor := ⟨s, s + 1, mkInt (s + 1 + 1) d.regs.length, s + 1 + 1 + (d.regs.length : Int), mkItem (s + 1 + 1 + (d.regs.length : Int) + 1) d.trace.length⟩
theorem markX_GorS0 (l : List Gor) (s : Int) (hl : l.length ≤ 2 ^ 30) (hW : (l.map Gor.wt).sum ≤ 2 ^ 30) (hs : 0 ≤ s) (hs2 : s ≤ 2 ^ 40) : CallS Tryz.prog 71 [.sl 0 0 l.length, .int .i64 s] ([some ⟨5, GorSo l⟩]) (fun o h' => o = .int .i64 (s + (((l.map Gor.wt).sum : Nat) : Int)) ∧ h' = [some ⟨5, GorSo (mkN Gor.mk1 Gor.wt s l)⟩]) := by
  refine CallS.intro Tryz.func71 (by decide) rfl (rs := [.tmp 4]) rfl Tryz.ntmps71 (by simp) ?_; refine SW.ra ?_; refine SW.seqK fun K1 hK1 => ?_; refine SW.ra ?_; refine SW.block ?_
  refine SW.loop (α := Nat) (fun k => ⟨[(5, .int .i64 (k : Nat)), (1, .int .i64 (s + ((((l.take k).map Gor.wt).sum : Nat) : Int))), (0, .sl 0 0 l.length)], [some ⟨5, GorSo (mdN Gor.mk1 Gor.wt s l k)⟩]⟩) (fun k => k ≤ l.length) (fun k => l.length - k) (0) ?_ ?_ (fun k hx => ?_)
  case' refine_1 =>
   simp
  case' refine_2 =>
   rw [mdN_zero]; refine Wk.softH (by simp [softE, softV]) (by simp)
  case' refine_3 =>
   have hst := sum_take Gor.wt l k
   obtain ⟨KK, hKK⟩ : ∃ KK : Int, KK = s + ((((l.take k).map Gor.wt).sum : Nat) : Int) := ⟨_, rfl⟩
   rw [← hKK]; refine SW.seqK fun K2 hK2 => ?_; refine SW.ra ?_; refine SW.cond _ rfl (by simp) ?_ ?_
   case' refine_1 =>
    intro hb1; have hlt : k < l.length := by simp at hb1; omega
    obtain ⟨x, hxk⟩ : ∃ x, l[k]? = some x := ⟨_, List.getElem?_eq_getElem hlt⟩
    have hgt := mdN_get (f := Gor.mk1) (w := Gor.wt) (s := s) hxk
    have hst1 := szL_take (f := Gor.wt) hxk
    have htot := sum_take Gor.wt l (k + 1)
    simp only [Gor.wt] at hst1; have hss : ∀ v, ((GorSo (mdN Gor.mk1 Gor.wt s l k)).set k v)[k]? = some v := fun v => by rw [List.getElem?_set_self (by simp; omega)]
    have hw1 := wrapI (KK + 1) (by omega) (by omega)
    have hw2 := wrapI (KK + 1 + 1) (by omega) (by omega)
    have hw3 := wrapI (KK + 1 + 1 + (x.regs.length : Int) + 1) (by omega) (by omega)
    have hnx : s + ((((l.take (k + 1)).map Gor.wt).sum : Nat) : Int) = KK + 1 + 1 + (x.regs.length : Int) + 1 + 4 * (x.trace.length : Int) := by omega
    rw [List.map_take] at hnx; have hset := mdN_set (f := Gor.mk1) (w := Gor.wt) (s := s) hxk
    rw [← hKK] at hset
    refine SW.wk (Wk.unGor (env' := [(5, .int .i64 (k : Nat)), (1, .int .i64 (KK)), (0, .sl 0 0 l.length)]) (h' := [some ⟨5, ((GorSo (mdN Gor.mk1 Gor.wt s l k))).set k [.int .i64 x.proc, .int .i64 x.pc, .sl 1 0 x.regs.length, .int .i64 x.state, .sl 2 0 x.trace.length]⟩, some ⟨1, IntS x.regs⟩, some ⟨4, ItemS x.trace⟩]) (p := 0) (k := k) (es := (GorSo (mdN Gor.mk1 Gor.wt s l k))) (d := x) rfl (by simp [hgt]) (by simp [subE]) (by simp [subE]) rfl) ?_
    refine SW.skip ?_; refine hK2 _ ?_; refine SW.seqK fun K3 hK3 => ?_; refine SW.block ?_; refine SW.rg fun K hK => ?_; simp -implicitDefEqProofs [hss, hlt, splice]; repeat refine ⟨by omega, ?_⟩
    refine hK _ ?_; clear hK K; refine SW.rg fun K hK => ?_; simp -implicitDefEqProofs [hw1]; repeat refine ⟨by omega, ?_⟩
    refine hK _ ?_; clear hK K; refine SW.rg fun K hK => ?_; simp -implicitDefEqProofs [hss, hlt, splice]; repeat refine ⟨by omega, ?_⟩
    refine hK _ ?_; clear hK K; refine SW.rg fun K hK => ?_; simp -implicitDefEqProofs [hw2]; repeat refine ⟨by omega, ?_⟩
    refine hK _ ?_; clear hK K; refine SW.rg fun K hK => ?_; simp -implicitDefEqProofs [hss, hlt]; iterate 2 (try refine ⟨by omega, ?_⟩)
    refine CallS.mono (mark_IntS x.regs (KK + 1 + 1) _ 1 _ rfl (by simp) (by omega) (by omega) (by omega)) ?_
    rintro o h' ⟨rfl, rfl⟩
    simp -implicitDefEqProofs [hss, hlt]; repeat refine ⟨by omega, ?_⟩
    refine hK _ ?_; clear hK K; refine SW.rg fun K hK => ?_; simp -implicitDefEqProofs [hss, hlt, splice]; repeat refine ⟨by omega, ?_⟩
    refine hK _ ?_; clear hK K; refine SW.rg fun K hK => ?_; simp -implicitDefEqProofs [hw3]; repeat refine ⟨by omega, ?_⟩
    refine hK _ ?_; clear hK K; refine SW.regionE fun K hK => ?_; simp -implicitDefEqProofs [hss, hlt]; iterate 2 (try refine ⟨by omega, ?_⟩)
    refine CallS.mono (mark_ItemS x.trace (KK + 1 + 1 + (x.regs.length : Int) + 1) _ 2 _ rfl (by simp) (by omega) (by omega) (by omega)) ?_
    rintro o h' ⟨rfl, rfl⟩
    simp -implicitDefEqProofs [hss, hlt]; repeat refine ⟨by omega, ?_⟩
    refine hK _ ?_; clear hK K; refine hK3 _ ?_; refine SW.ea ?_; refine ⟨k + 1, by omega, by omega, ?_⟩
    exact Wk.foGor (env' := [(5, .int .i64 ((k + 1) : Nat)), (1, .int .i64 (s + ((((l.take (k + 1)).map Gor.wt).sum : Nat) : Int))), (0, .sl 0 0 l.length)]) (h := [none]) (h' := [some ⟨5, (GorSo (mdN Gor.mk1 Gor.wt s l (k + 1)))⟩]) (p := 0) (k := k) (es := ((GorSo (mdN Gor.mk1 Gor.wt s l k)).set k [.int .i64 (Gor.mk1 KK x).proc, .int .i64 (Gor.mk1 KK x).pc, .sl 1 0 (Gor.mk1 KK x).regs.length, .int .i64 (Gor.mk1 KK x).state, .sl 2 0 (Gor.mk1 KK x).trace.length])) (es' := (GorSo (mdN Gor.mk1 Gor.wt s l (k + 1)))) (d := (Gor.mk1 KK x)) (by simp [Gor.mk1, List.set_set]) (by simp) (by rw [List.getElem?_set_self (by simp; omega)]; rfl) (by rw [List.set_set, GorSo_setL, hset]) (by simp) (by simp) (by simp [subE, wrap1 k (by omega), hnx]) (by simp [subE]) (by simp [lowE, lowN]) (by simp [lowN]) rfl
   intro hb1; have hk1 : k = l.length := by simp at hb1; omega
   refine SW.exit ?_; simp only [Ex.then, Ex.ib]; try simp only [if_true, if_false, reduceIte]
   refine hK1 _ ?_; refine SW.ra ?_; refine SW.ret ?_; simp [Ex.then, Ex.ib]; subst hk1; rw [List.take_length] at hKK; rw [mdN_all]; simp [hKK]
theorem markX_GorS (l : List Gor) (s : Int) (H : Heap) (id m : Nat) (hn : l.length = m) (hh : H[id]? = some (some ⟨5, GorSo l⟩)) (hl : m ≤ 2 ^ 30) (hW : (l.map Gor.wt).sum ≤ 2 ^ 30) (hs : 0 ≤ s) (hs2 : s ≤ 2 ^ 40) :
    CallS Tryz.prog 71 [.sl id 0 m, .int .i64 s] H (fun o h' => o = .int .i64 (s + (((l.map Gor.wt).sum : Nat) : Int)) ∧ h' = H.set id (some ⟨5, GorSo (mkN Gor.mk1 Gor.wt s l)⟩)) := by
  subst hn; have hi : id < H.length := (List.getElem?_eq_some_iff.1 hh).1
  refine CallS.mono (CallS.frame [id] (markX_GorS0 l s hl hW hs hs2) (by simp) (by simp) (by simp) (by simpa using hi) (by simp [renH, hh]) (by simp) (by simp) ?_) ?_
  · rintro o h' ⟨rfl, rfl⟩
    refine ⟨by simp, ?_, by simp, rfl⟩; intro x hx; simp only [List.mem_singleton] at hx; subst hx; exact GorSo_nfz _ _
  · rintro o h' ⟨o0, h0, ⟨rfl, rfl⟩, rfl, rfl⟩
    exact ⟨by simp, by rw [frame1, GorSo_renB]⟩
theorem heldX_GorS (l : List Gor) (s : Int) (hl : l.length ≤ 2 ^ 30) (hW : (l.map Gor.wt).sum ≤ 2 ^ 30) (hs : 0 ≤ s) (hs2 : s ≤ 2 ^ 40) : Fn Tryz.prog 74 [.fz (GorSf (mkN Gor.mk1 Gor.wt s l)), .int .i64 s] (.int .i64 (s + (((l.map Gor.wt).sum : Nat) : Int))) := by
  refine Fn.intro Tryz.func74 (by decide) rfl (rs := [.tmp 4]) rfl Tryz.ntmps74 (by simp) ?_; refine SW.rg fun K hK => ?_; simp -implicitDefEqProofs
  repeat (refine And.intro (by clear hK; first | omega | (intros; omega) | (intros; simp_all; done) | (intros; grind)) ?_)
  refine hK _ ?_; clear hK K; refine SW.seqK fun K1 hK1 => ?_; refine SW.rg fun K hK => ?_; simp -implicitDefEqProofs; repeat (refine And.intro (by clear hK; first | omega | (intros; omega) | (intros; simp_all; done) | (intros; grind)) ?_)
  refine hK _ ?_; clear hK K; refine SW.block ?_
  refine SW.loop (α := Nat) (fun k => ⟨[(5, .int .i64 (k : Nat)), (1, .int .i64 (s + ((((l.take k).map Gor.wt).sum : Nat) : Int))), (0, .fz (GorSf (mkN Gor.mk1 Gor.wt s l)))], []⟩) (fun k => k ≤ l.length) (fun k => l.length - k) (0) ?_ ?_ (fun k hx => ?_)
  case' refine_1 =>
   simp
  case' refine_2 =>
   rw [List.take_zero]; exact Wk.cut (by simp) (by simp [subE]) (by simp [cutH]) (by simp [lowE, lowN]) (by simp)
  case' refine_3 =>
   have hst := sum_take Gor.wt l k
   obtain ⟨KK, hKK⟩ : ∃ KK : Int, KK = s + ((((l.take k).map Gor.wt).sum : Nat) : Int) := ⟨_, rfl⟩
   rw [← hKK]; refine SW.seqK fun K2 hK2 => ?_; refine SW.rg fun K hK => ?_; simp -implicitDefEqProofs; repeat (refine And.intro (by clear hK; first | omega | (intros; omega) | (intros; simp_all; done) | (intros; grind)) ?_)
   refine hK _ ?_; clear hK K; refine SW.cond _ rfl (by simp) ?_ ?_
   case' refine_1 =>
    intro hb1; have hlt : k < l.length := by simpa using hb1
    obtain ⟨x, hxk⟩ : ∃ x, l[k]? = some x := ⟨_, List.getElem?_eq_getElem hlt⟩
    have hgt := mkN_get (f := Gor.mk1) (w := Gor.wt) (s := s) hxk
    have hst1 := szL_take (f := Gor.wt) hxk
    have htot := sum_take Gor.wt l (k + 1)
    simp only [Gor.wt] at hst1; rw [← hKK] at hgt; simp only [Gor.mk1] at hgt; have hw1 := wrapI (KK + 1) (by omega) (by omega)
    have hw2 := wrapI (KK + 1 + 1) (by omega) (by omega)
    have hw3 := wrapI (KK + 1 + 1 + (x.regs.length : Int) + 1) (by omega) (by omega)
    have hnx : s + ((((l.take (k + 1)).map Gor.wt).sum : Nat) : Int) = KK + 1 + 1 + (x.regs.length : Int) + 1 + 4 * (x.trace.length : Int) := by omega
    rw [List.map_take] at hnx; refine SW.skip ?_; refine hK2 _ ?_; refine SW.seqK fun K3 hK3 => ?_; refine SW.block ?_; refine SW.seqK fun K4 hK4 => ?_; refine SW.rg fun K hK => ?_; simp -implicitDefEqProofs [hgt]
    repeat (refine And.intro (by clear hK; first | omega | (intros; omega) | (intros; simp_all; done) | (intros; grind)) ?_)
    refine hK _ ?_; clear hK K; refine SW.cond _ rfl (by simp) ?_ ?_
    case' refine_1 =>
     intro hb2; exfalso; simp at hb2
    intro hb2; refine SW.skip ?_; refine hK4 _ ?_; refine SW.rg fun K hK => ?_; simp -implicitDefEqProofs [hw1]; repeat (refine And.intro (by clear hK; first | omega | (intros; omega) | (intros; simp_all; done) | (intros; grind)) ?_)
    refine hK _ ?_; clear hK K; refine SW.seqK fun K5 hK5 => ?_; refine SW.rg fun K hK => ?_; simp -implicitDefEqProofs [hgt]
    repeat (refine And.intro (by clear hK; first | omega | (intros; omega) | (intros; simp_all; done) | (intros; grind)) ?_)
    refine hK _ ?_; clear hK K; refine SW.cond _ rfl (by simp) ?_ ?_
    case' refine_1 =>
     intro hb3; exfalso; simp at hb3
    intro hb3; refine SW.skip ?_; refine hK5 _ ?_; refine SW.rg fun K hK => ?_; simp -implicitDefEqProofs [hw2]; repeat (refine And.intro (by clear hK; first | omega | (intros; omega) | (intros; simp_all; done) | (intros; grind)) ?_)
    refine hK _ ?_; clear hK K; refine SW.rg fun K hK => ?_; simp -implicitDefEqProofs [hgt]; repeat (refine And.intro (by clear hK; first | omega | (intros; omega) | (intros; simp_all; done) | (intros; grind)) ?_)
    first
      | refine CallQ.fzE (held_IntS x.regs.length (KK + 1 + 1) (by omega) (by omega) (by omega)) (by simp) ?_
      | refine CallK.fzE (held_IntS x.regs.length (KK + 1 + 1) (by omega) (by omega) (by omega)) (by simp) ?_
    simp -implicitDefEqProofs [hgt]; repeat (refine And.intro (by clear hK; first | omega | (intros; omega) | (intros; simp_all; done) | (intros; grind)) ?_)
    refine hK _ ?_; clear hK K; refine SW.seqK fun K6 hK6 => ?_; refine SW.rg fun K hK => ?_; simp -implicitDefEqProofs; repeat (refine And.intro (by clear hK; first | omega | (intros; omega) | (intros; simp_all; done) | (intros; grind)) ?_)
    refine hK _ ?_; clear hK K; refine SW.cond _ rfl (by simp) ?_ ?_
    case' refine_1 =>
     intro hb4; exfalso; simp at hb4; omega
    intro hb4; refine SW.skip ?_; refine hK6 _ ?_; refine SW.seqK fun K7 hK7 => ?_; refine SW.rg fun K hK => ?_; simp -implicitDefEqProofs [hgt]
    repeat (refine And.intro (by clear hK; first | omega | (intros; omega) | (intros; simp_all; done) | (intros; grind)) ?_)
    refine hK _ ?_; clear hK K; refine SW.cond _ rfl (by simp) ?_ ?_
    case' refine_1 =>
     intro hb5; exfalso; simp at hb5
    intro hb5; refine SW.skip ?_; refine hK7 _ ?_; refine SW.rg fun K hK => ?_; simp -implicitDefEqProofs [hw3]; repeat (refine And.intro (by clear hK; first | omega | (intros; omega) | (intros; simp_all; done) | (intros; grind)) ?_)
    refine hK _ ?_; clear hK K; refine SW.rg fun K hK => ?_; simp -implicitDefEqProofs [hgt]; repeat (refine And.intro (by clear hK; first | omega | (intros; omega) | (intros; simp_all; done) | (intros; grind)) ?_)
    first
      | refine CallQ.fzE (held_ItemS x.trace.length (KK + 1 + 1 + (x.regs.length : Int) + 1) (by omega) (by omega) (by omega)) (by simp) ?_
      | refine CallK.fzE (held_ItemS x.trace.length (KK + 1 + 1 + (x.regs.length : Int) + 1) (by omega) (by omega) (by omega)) (by simp) ?_
    simp -implicitDefEqProofs [hgt]; repeat (refine And.intro (by clear hK; first | omega | (intros; omega) | (intros; simp_all; done) | (intros; grind)) ?_)
    refine hK _ ?_; clear hK K; refine SW.rg fun K hK => ?_; simp -implicitDefEqProofs; repeat (refine And.intro (by clear hK; first | omega | (intros; omega) | (intros; simp_all; done) | (intros; grind)) ?_)
    refine hK _ ?_; clear hK K; refine SW.cond _ rfl (by simp) ?_ ?_
    case' refine_1 =>
     intro hb6; exfalso; simp at hb6; omega
    intro hb6; refine SW.skip ?_; refine hK3 _ ?_; refine SW.regionE fun K hK => ?_; simp -implicitDefEqProofs; repeat (refine And.intro (by clear hK; first | omega | (intros; omega) | (intros; simp_all; done) | (intros; grind)) ?_)
    refine hK _ ?_; clear hK K; refine ⟨k + 1, by omega, by omega, ?_⟩; exact Wk.cut (by simp) (by simp [subE, wrap1 k (by omega), hnx]) (by simp [cutH]) (by simp [lowE, lowN]) (by simp)
   intro hb1; have hk1 : k = l.length := by simp at hb1; omega
   refine SW.exit ?_; simp only [Ex.then, Ex.ib]; try simp only [if_true, if_false, reduceIte]
   refine hK1 _ ?_; refine SW.rg fun K hK => ?_; simp -implicitDefEqProofs; repeat (refine And.intro (by clear hK; first | omega | (intros; omega) | (intros; simp_all; done) | (intros; grind)) ?_)
   refine hK _ ?_; clear hK K; refine SW.ret ?_; simp [Ex.then, Ex.ib]
   all_goals first
     | (subst hk1; rw [List.take_length] at hKK; simp [hKK]; done)
     | fail
def Chan.mk1 (s : Int) (d : Chan) : Chan := ⟨s, mkInt (s + 1) d.buf.length, mkWaiter (s + 1 + (d.buf.length : Int)) d.sends.length, mkWaiter (s + 1 + (d.buf.length : Int) + 3 * (d.sends.length : Int)) d.recvs.length, ((s + 1 + (d.buf.length : Int) + 3 * (d.sends.length : Int) + 3 * (d.recvs.length : Int))).tmod 3 == 0⟩
theorem markX_ChanS0 (l : List Chan) (s : Int) (hl : l.length ≤ 2 ^ 30) (hW : (l.map Chan.wt).sum ≤ 2 ^ 30) (hs : 0 ≤ s) (hs2 : s ≤ 2 ^ 40) : CallS Tryz.prog 72 [.sl 0 0 l.length, .int .i64 s] ([some ⟨5, ChanSo l⟩]) (fun o h' => o = .int .i64 (s + (((l.map Chan.wt).sum : Nat) : Int)) ∧ h' = [some ⟨5, ChanSo (mkN Chan.mk1 Chan.wt s l)⟩]) := by
  refine CallS.intro Tryz.func72 (by decide) rfl (rs := [.tmp 4]) rfl Tryz.ntmps72 (by simp) ?_; refine SW.ra ?_; refine SW.seqK fun K1 hK1 => ?_; refine SW.ra ?_; refine SW.block ?_
  refine SW.loop (α := Nat) (fun k => ⟨[(5, .int .i64 (k : Nat)), (1, .int .i64 (s + ((((l.take k).map Chan.wt).sum : Nat) : Int))), (0, .sl 0 0 l.length)], [some ⟨5, ChanSo (mdN Chan.mk1 Chan.wt s l k)⟩]⟩) (fun k => k ≤ l.length) (fun k => l.length - k) (0) ?_ ?_ (fun k hx => ?_)
  case' refine_1 =>
   simp
  case' refine_2 =>
   rw [mdN_zero]; refine Wk.softH (by simp [softE, softV]) (by simp)
  case' refine_3 =>
   have hst := sum_take Chan.wt l k
   obtain ⟨KK, hKK⟩ : ∃ KK : Int, KK = s + ((((l.take k).map Chan.wt).sum : Nat) : Int) := ⟨_, rfl⟩
   rw [← hKK]; refine SW.seqK fun K2 hK2 => ?_; refine SW.ra ?_; refine SW.cond _ rfl (by simp) ?_ ?_
   case' refine_1 =>
    intro hb1; have hlt : k < l.length := by simp at hb1; omega
    obtain ⟨x, hxk⟩ : ∃ x, l[k]? = some x := ⟨_, List.getElem?_eq_getElem hlt⟩
    have hgt := mdN_get (f := Chan.mk1) (w := Chan.wt) (s := s) hxk
    have hst1 := szL_take (f := Chan.wt) hxk
    have htot := sum_take Chan.wt l (k + 1)
    simp only [Chan.wt] at hst1; have hss : ∀ v, ((ChanSo (mdN Chan.mk1 Chan.wt s l k)).set k v)[k]? = some v := fun v => by rw [List.getElem?_set_self (by simp; omega)]
    have hw1 := wrapI (KK + 1) (by omega) (by omega)
    have hw2 := wrapI (KK + 1 + (x.buf.length : Int) + 3 * (x.sends.length : Int) + 3 * (x.recvs.length : Int) + 1) (by omega) (by omega)
    have hnx : s + ((((l.take (k + 1)).map Chan.wt).sum : Nat) : Int) = KK + 1 + (x.buf.length : Int) + 3 * (x.sends.length : Int) + 3 * (x.recvs.length : Int) + 1 := by omega
    rw [List.map_take] at hnx; have hset := mdN_set (f := Chan.mk1) (w := Chan.wt) (s := s) hxk
    rw [← hKK] at hset
    refine SW.wk (Wk.unChan (env' := [(5, .int .i64 (k : Nat)), (1, .int .i64 (KK)), (0, .sl 0 0 l.length)]) (h' := [some ⟨5, ((ChanSo (mdN Chan.mk1 Chan.wt s l k))).set k [.int .i64 x.cap, .sl 1 0 x.buf.length, .sl 2 0 x.sends.length, .sl 3 0 x.recvs.length, .bool x.closed]⟩, some ⟨1, IntS x.buf⟩, some ⟨3, WaiterS x.sends⟩, some ⟨3, WaiterS x.recvs⟩]) (p := 0) (k := k) (es := (ChanSo (mdN Chan.mk1 Chan.wt s l k))) (d := x) rfl (by simp [hgt]) (by simp [subE]) (by simp [subE]) rfl) ?_
    refine SW.skip ?_; refine hK2 _ ?_; refine SW.seqK fun K3 hK3 => ?_; refine SW.block ?_; refine SW.rg fun K hK => ?_; simp -implicitDefEqProofs [hss, hlt, splice]; repeat refine ⟨by omega, ?_⟩
    refine hK _ ?_; clear hK K; refine SW.rg fun K hK => ?_; simp -implicitDefEqProofs [hw1]; repeat refine ⟨by omega, ?_⟩
    refine hK _ ?_; clear hK K; refine SW.rg fun K hK => ?_; simp -implicitDefEqProofs [hss, hlt]; iterate 2 (try refine ⟨by omega, ?_⟩)
    refine CallS.mono (mark_IntS x.buf (KK + 1) _ 1 _ rfl (by simp) (by omega) (by omega) (by omega)) ?_
    rintro o h' ⟨rfl, rfl⟩
    simp -implicitDefEqProofs [hss, hlt]; repeat refine ⟨by omega, ?_⟩
    refine hK _ ?_; clear hK K; refine SW.rg fun K hK => ?_; simp -implicitDefEqProofs [hss, hlt]; iterate 2 (try refine ⟨by omega, ?_⟩)
    refine CallS.mono (mark_WaiterS x.sends (KK + 1 + (x.buf.length : Int)) _ 2 _ rfl (by simp) (by omega) (by omega) (by omega)) ?_
    rintro o h' ⟨rfl, rfl⟩
    simp -implicitDefEqProofs [hss, hlt]; repeat refine ⟨by omega, ?_⟩
    refine hK _ ?_; clear hK K; refine SW.rg fun K hK => ?_; simp -implicitDefEqProofs [hss, hlt]; iterate 2 (try refine ⟨by omega, ?_⟩)
    refine CallS.mono (mark_WaiterS x.recvs (KK + 1 + (x.buf.length : Int) + 3 * (x.sends.length : Int)) _ 3 _ rfl (by simp) (by omega) (by omega) (by omega)) ?_
    rintro o h' ⟨rfl, rfl⟩
    simp -implicitDefEqProofs [hss, hlt]; repeat refine ⟨by omega, ?_⟩
    refine hK _ ?_; clear hK K; refine SW.rg fun K hK => ?_; simp -implicitDefEqProofs [hss, hlt, splice]; repeat refine ⟨by omega, ?_⟩
    refine hK _ ?_; clear hK K; refine SW.regionE fun K hK => ?_; simp -implicitDefEqProofs [hw2]; repeat refine ⟨by omega, ?_⟩
    refine hK _ ?_; clear hK K; refine hK3 _ ?_; refine SW.ea ?_; refine ⟨k + 1, by omega, by omega, ?_⟩
    exact Wk.foChan (env' := [(5, .int .i64 ((k + 1) : Nat)), (1, .int .i64 (s + ((((l.take (k + 1)).map Chan.wt).sum : Nat) : Int))), (0, .sl 0 0 l.length)]) (h := [none]) (h' := [some ⟨5, (ChanSo (mdN Chan.mk1 Chan.wt s l (k + 1)))⟩]) (p := 0) (k := k) (es := ((ChanSo (mdN Chan.mk1 Chan.wt s l k)).set k [.int .i64 (Chan.mk1 KK x).cap, .sl 1 0 (Chan.mk1 KK x).buf.length, .sl 2 0 (Chan.mk1 KK x).sends.length, .sl 3 0 (Chan.mk1 KK x).recvs.length, .bool (Chan.mk1 KK x).closed])) (es' := (ChanSo (mdN Chan.mk1 Chan.wt s l (k + 1)))) (d := (Chan.mk1 KK x)) (by simp [Chan.mk1, List.set_set]) (by simp) (by rw [List.getElem?_set_self (by simp; omega)]; rfl) (by rw [List.set_set, ChanSo_setL, hset]) (by simp) (by simp) (by simp [subE, wrap1 k (by omega), hnx]) (by simp [subE]) (by simp [lowE, lowN]) (by simp [lowN]) rfl
   intro hb1; have hk1 : k = l.length := by simp at hb1; omega
   refine SW.exit ?_; simp only [Ex.then, Ex.ib]; try simp only [if_true, if_false, reduceIte]
   refine hK1 _ ?_; refine SW.ra ?_; refine SW.ret ?_; simp [Ex.then, Ex.ib]; subst hk1; rw [List.take_length] at hKK; rw [mdN_all]; simp [hKK]
theorem markX_ChanS (l : List Chan) (s : Int) (H : Heap) (id m : Nat) (hn : l.length = m) (hh : H[id]? = some (some ⟨5, ChanSo l⟩)) (hl : m ≤ 2 ^ 30) (hW : (l.map Chan.wt).sum ≤ 2 ^ 30) (hs : 0 ≤ s) (hs2 : s ≤ 2 ^ 40) :
    CallS Tryz.prog 72 [.sl id 0 m, .int .i64 s] H (fun o h' => o = .int .i64 (s + (((l.map Chan.wt).sum : Nat) : Int)) ∧ h' = H.set id (some ⟨5, ChanSo (mkN Chan.mk1 Chan.wt s l)⟩)) := by
  subst hn; have hi : id < H.length := (List.getElem?_eq_some_iff.1 hh).1
  refine CallS.mono (CallS.frame [id] (markX_ChanS0 l s hl hW hs hs2) (by simp) (by simp) (by simp) (by simpa using hi) (by simp [renH, hh]) (by simp) (by simp) ?_) ?_
  · rintro o h' ⟨rfl, rfl⟩
    refine ⟨by simp, ?_, by simp, rfl⟩; intro x hx; simp only [List.mem_singleton] at hx; subst hx; exact ChanSo_nfz _ _
  · rintro o h' ⟨o0, h0, ⟨rfl, rfl⟩, rfl, rfl⟩
    exact ⟨by simp, by rw [frame1, ChanSo_renB]⟩
theorem heldX_ChanS (l : List Chan) (s : Int) (hl : l.length ≤ 2 ^ 30) (hW : (l.map Chan.wt).sum ≤ 2 ^ 30) (hs : 0 ≤ s) (hs2 : s ≤ 2 ^ 40) : Fn Tryz.prog 75 [.fz (ChanSf (mkN Chan.mk1 Chan.wt s l)), .int .i64 s] (.int .i64 (s + (((l.map Chan.wt).sum : Nat) : Int))) := by
  refine Fn.intro Tryz.func75 (by decide) rfl (rs := [.tmp 4]) rfl Tryz.ntmps75 (by simp) ?_; refine SW.rg fun K hK => ?_; simp -implicitDefEqProofs
  repeat (refine And.intro (by clear hK; first | omega | (intros; omega) | (intros; simp_all; done) | (intros; grind)) ?_)
  refine hK _ ?_; clear hK K; refine SW.seqK fun K1 hK1 => ?_; refine SW.rg fun K hK => ?_; simp -implicitDefEqProofs; repeat (refine And.intro (by clear hK; first | omega | (intros; omega) | (intros; simp_all; done) | (intros; grind)) ?_)
  refine hK _ ?_; clear hK K; refine SW.block ?_
  refine SW.loop (α := Nat) (fun k => ⟨[(5, .int .i64 (k : Nat)), (1, .int .i64 (s + ((((l.take k).map Chan.wt).sum : Nat) : Int))), (0, .fz (ChanSf (mkN Chan.mk1 Chan.wt s l)))], []⟩) (fun k => k ≤ l.length) (fun k => l.length - k) (0) ?_ ?_ (fun k hx => ?_)
  case' refine_1 =>
   simp
  case' refine_2 =>
   rw [List.take_zero]; exact Wk.cut (by simp) (by simp [subE]) (by simp [cutH]) (by simp [lowE, lowN]) (by simp)
  case' refine_3 =>
   have hst := sum_take Chan.wt l k
   obtain ⟨KK, hKK⟩ : ∃ KK : Int, KK = s + ((((l.take k).map Chan.wt).sum : Nat) : Int) := ⟨_, rfl⟩
   rw [← hKK]; refine SW.seqK fun K2 hK2 => ?_; refine SW.rg fun K hK => ?_; simp -implicitDefEqProofs; repeat (refine And.intro (by clear hK; first | omega | (intros; omega) | (intros; simp_all; done) | (intros; grind)) ?_)
   refine hK _ ?_; clear hK K; refine SW.cond _ rfl (by simp) ?_ ?_
   case' refine_1 =>
    intro hb1; have hlt : k < l.length := by simpa using hb1
    obtain ⟨x, hxk⟩ : ∃ x, l[k]? = some x := ⟨_, List.getElem?_eq_getElem hlt⟩
    have hgt := mkN_get (f := Chan.mk1) (w := Chan.wt) (s := s) hxk
    have hst1 := szL_take (f := Chan.wt) hxk
    have htot := sum_take Chan.wt l (k + 1)
    simp only [Chan.wt] at hst1; rw [← hKK] at hgt; simp only [Chan.mk1] at hgt; have hw1 := wrapI (KK + 1) (by omega) (by omega)
    have hw2 := wrapI (KK + 1 + (x.buf.length : Int) + 3 * (x.sends.length : Int) + 3 * (x.recvs.length : Int) + 1) (by omega) (by omega)
    have hnx : s + ((((l.take (k + 1)).map Chan.wt).sum : Nat) : Int) = KK + 1 + (x.buf.length : Int) + 3 * (x.sends.length : Int) + 3 * (x.recvs.length : Int) + 1 := by omega
    rw [List.map_take] at hnx; refine SW.skip ?_; refine hK2 _ ?_; refine SW.seqK fun K3 hK3 => ?_; refine SW.block ?_; refine SW.seqK fun K4 hK4 => ?_; refine SW.rg fun K hK => ?_; simp -implicitDefEqProofs [hgt]
    repeat (refine And.intro (by clear hK; first | omega | (intros; omega) | (intros; simp_all; done) | (intros; grind)) ?_)
    refine hK _ ?_; clear hK K; refine SW.cond _ rfl (by simp) ?_ ?_
    case' refine_1 =>
     intro hb2; exfalso; simp at hb2
    intro hb2; refine SW.skip ?_; refine hK4 _ ?_; refine SW.rg fun K hK => ?_; simp -implicitDefEqProofs [hw1]; repeat (refine And.intro (by clear hK; first | omega | (intros; omega) | (intros; simp_all; done) | (intros; grind)) ?_)
    refine hK _ ?_; clear hK K; refine SW.rg fun K hK => ?_; simp -implicitDefEqProofs [hgt]; repeat (refine And.intro (by clear hK; first | omega | (intros; omega) | (intros; simp_all; done) | (intros; grind)) ?_)
    first
      | refine CallQ.fzE (held_IntS x.buf.length (KK + 1) (by omega) (by omega) (by omega)) (by simp) ?_
      | refine CallK.fzE (held_IntS x.buf.length (KK + 1) (by omega) (by omega) (by omega)) (by simp) ?_
    simp -implicitDefEqProofs [hgt]; repeat (refine And.intro (by clear hK; first | omega | (intros; omega) | (intros; simp_all; done) | (intros; grind)) ?_)
    refine hK _ ?_; clear hK K; refine SW.seqK fun K5 hK5 => ?_; refine SW.rg fun K hK => ?_; simp -implicitDefEqProofs; repeat (refine And.intro (by clear hK; first | omega | (intros; omega) | (intros; simp_all; done) | (intros; grind)) ?_)
    refine hK _ ?_; clear hK K; refine SW.cond _ rfl (by simp) ?_ ?_
    case' refine_1 =>
     intro hb3; exfalso; simp at hb3; omega
    intro hb3; refine SW.skip ?_; refine hK5 _ ?_; refine SW.rg fun K hK => ?_; simp -implicitDefEqProofs [hgt]; repeat (refine And.intro (by clear hK; first | omega | (intros; omega) | (intros; simp_all; done) | (intros; grind)) ?_)
    first
      | refine CallQ.fzE (held_WaiterS x.sends.length (KK + 1 + (x.buf.length : Int)) (by omega) (by omega) (by omega)) (by simp) ?_
      | refine CallK.fzE (held_WaiterS x.sends.length (KK + 1 + (x.buf.length : Int)) (by omega) (by omega) (by omega)) (by simp) ?_
    simp -implicitDefEqProofs [hgt]; repeat (refine And.intro (by clear hK; first | omega | (intros; omega) | (intros; simp_all; done) | (intros; grind)) ?_)
    refine hK _ ?_; clear hK K; refine SW.seqK fun K6 hK6 => ?_; refine SW.rg fun K hK => ?_; simp -implicitDefEqProofs; repeat (refine And.intro (by clear hK; first | omega | (intros; omega) | (intros; simp_all; done) | (intros; grind)) ?_)
    refine hK _ ?_; clear hK K; refine SW.cond _ rfl (by simp) ?_ ?_
    case' refine_1 =>
     intro hb4; exfalso; simp at hb4; omega
    intro hb4; refine SW.skip ?_; refine hK6 _ ?_; refine SW.rg fun K hK => ?_; simp -implicitDefEqProofs [hgt]; repeat (refine And.intro (by clear hK; first | omega | (intros; omega) | (intros; simp_all; done) | (intros; grind)) ?_)
    first
      | refine CallQ.fzE (held_WaiterS x.recvs.length (KK + 1 + (x.buf.length : Int) + 3 * (x.sends.length : Int)) (by omega) (by omega) (by omega)) (by simp) ?_
      | refine CallK.fzE (held_WaiterS x.recvs.length (KK + 1 + (x.buf.length : Int) + 3 * (x.sends.length : Int)) (by omega) (by omega) (by omega)) (by simp) ?_
    simp -implicitDefEqProofs [hgt]; repeat (refine And.intro (by clear hK; first | omega | (intros; omega) | (intros; simp_all; done) | (intros; grind)) ?_)
    refine hK _ ?_; clear hK K; refine SW.seqK fun K7 hK7 => ?_; refine SW.rg fun K hK => ?_; simp -implicitDefEqProofs; repeat (refine And.intro (by clear hK; first | omega | (intros; omega) | (intros; simp_all; done) | (intros; grind)) ?_)
    refine hK _ ?_; clear hK K; refine SW.cond _ rfl (by simp) ?_ ?_
    case' refine_1 =>
     intro hb5; exfalso; simp at hb5; omega
    intro hb5; refine SW.skip ?_; refine hK7 _ ?_; refine SW.seqK fun K8 hK8 => ?_; refine SW.rg fun K hK => ?_; simp -implicitDefEqProofs [hgt]
    repeat (refine And.intro (by clear hK; first | omega | (intros; omega) | (intros; simp_all; done) | (intros; grind)) ?_)
    refine hK _ ?_; clear hK K; refine SW.cond _ rfl (by simp) ?_ ?_
    case' refine_1 =>
     intro hb6; exfalso; simp at hb6
    intro hb6; refine SW.skip ?_; refine hK8 _ ?_; refine SW.regionE fun K hK => ?_; simp -implicitDefEqProofs [hw2]; repeat (refine And.intro (by clear hK; first | omega | (intros; omega) | (intros; simp_all; done) | (intros; grind)) ?_)
    refine hK _ ?_; clear hK K; refine hK3 _ ?_; refine SW.regionE fun K hK => ?_; simp -implicitDefEqProofs; repeat (refine And.intro (by clear hK; first | omega | (intros; omega) | (intros; simp_all; done) | (intros; grind)) ?_)
    refine hK _ ?_; clear hK K; refine ⟨k + 1, by omega, by omega, ?_⟩; exact Wk.cut (by simp) (by simp [subE, wrap1 k (by omega), hnx]) (by simp [cutH]) (by simp [lowE, lowN]) (by simp)
   intro hb1; have hk1 : k = l.length := by simp at hb1; omega
   refine SW.exit ?_; simp only [Ex.then, Ex.ib]; try simp only [if_true, if_false, reduceIte]
   refine hK1 _ ?_; refine SW.rg fun K hK => ?_; simp -implicitDefEqProofs; repeat (refine And.intro (by clear hK; first | omega | (intros; omega) | (intros; simp_all; done) | (intros; grind)) ?_)
   refine hK _ ?_; clear hK K; refine SW.ret ?_; simp [Ex.then, Ex.ib]
   all_goals first
     | (subst hk1; rw [List.take_length] at hKK; simp [hKK]; done)
     | fail
def Mutex.mk1 (s : Int) (d : Mutex) : Mutex := ⟨s, mkInt (s + 1) d.wait.length⟩
theorem markX_MutexS0 (l : List Mutex) (s : Int) (hl : l.length ≤ 2 ^ 30) (hW : (l.map Mutex.wt).sum ≤ 2 ^ 30) (hs : 0 ≤ s) (hs2 : s ≤ 2 ^ 40) : CallS Tryz.prog 73 [.sl 0 0 l.length, .int .i64 s] ([some ⟨2, MutexSo l⟩]) (fun o h' => o = .int .i64 (s + (((l.map Mutex.wt).sum : Nat) : Int)) ∧ h' = [some ⟨2, MutexSo (mkN Mutex.mk1 Mutex.wt s l)⟩]) := by
  refine CallS.intro Tryz.func73 (by decide) rfl (rs := [.tmp 4]) rfl Tryz.ntmps73 (by simp) ?_; refine SW.ra ?_; refine SW.seqK fun K1 hK1 => ?_; refine SW.ra ?_; refine SW.block ?_
  refine SW.loop (α := Nat) (fun k => ⟨[(5, .int .i64 (k : Nat)), (1, .int .i64 (s + ((((l.take k).map Mutex.wt).sum : Nat) : Int))), (0, .sl 0 0 l.length)], [some ⟨2, MutexSo (mdN Mutex.mk1 Mutex.wt s l k)⟩]⟩) (fun k => k ≤ l.length) (fun k => l.length - k) (0) ?_ ?_ (fun k hx => ?_)
  case' refine_1 =>
   simp
  case' refine_2 =>
   rw [mdN_zero]; refine Wk.softH (by simp [softE, softV]) (by simp)
  case' refine_3 =>
   have hst := sum_take Mutex.wt l k
   obtain ⟨KK, hKK⟩ : ∃ KK : Int, KK = s + ((((l.take k).map Mutex.wt).sum : Nat) : Int) := ⟨_, rfl⟩
   rw [← hKK]; refine SW.seqK fun K2 hK2 => ?_; refine SW.ra ?_; refine SW.cond _ rfl (by simp) ?_ ?_
   case' refine_1 =>
    intro hb1; have hlt : k < l.length := by simp at hb1; omega
    obtain ⟨x, hxk⟩ : ∃ x, l[k]? = some x := ⟨_, List.getElem?_eq_getElem hlt⟩
    have hgt := mdN_get (f := Mutex.mk1) (w := Mutex.wt) (s := s) hxk
    have hst1 := szL_take (f := Mutex.wt) hxk
    have htot := sum_take Mutex.wt l (k + 1)
    simp only [Mutex.wt] at hst1; have hss : ∀ v, ((MutexSo (mdN Mutex.mk1 Mutex.wt s l k)).set k v)[k]? = some v := fun v => by rw [List.getElem?_set_self (by simp; omega)]
    have hw1 := wrapI (KK + 1) (by omega) (by omega)
    have hnx : s + ((((l.take (k + 1)).map Mutex.wt).sum : Nat) : Int) = KK + 1 + (x.wait.length : Int) := by omega
    rw [List.map_take] at hnx; have hset := mdN_set (f := Mutex.mk1) (w := Mutex.wt) (s := s) hxk
    rw [← hKK] at hset
    refine SW.wk (Wk.unMutex (env' := [(5, .int .i64 (k : Nat)), (1, .int .i64 (KK)), (0, .sl 0 0 l.length)]) (h' := [some ⟨2, ((MutexSo (mdN Mutex.mk1 Mutex.wt s l k))).set k [.int .i64 x.owner, .sl 1 0 x.wait.length]⟩, some ⟨1, IntS x.wait⟩]) (p := 0) (k := k) (es := (MutexSo (mdN Mutex.mk1 Mutex.wt s l k))) (d := x) rfl (by simp [hgt]) (by simp [subE]) (by simp [subE]) rfl) ?_
    refine SW.skip ?_; refine hK2 _ ?_; refine SW.seqK fun K3 hK3 => ?_; refine SW.block ?_; refine SW.rg fun K hK => ?_; simp -implicitDefEqProofs [hss, hlt, splice]; repeat refine ⟨by omega, ?_⟩
    refine hK _ ?_; clear hK K; refine SW.rg fun K hK => ?_; simp -implicitDefEqProofs [hw1]; repeat refine ⟨by omega, ?_⟩
    refine hK _ ?_; clear hK K; refine SW.regionE fun K hK => ?_; simp -implicitDefEqProofs [hss, hlt]; iterate 2 (try refine ⟨by omega, ?_⟩)
    refine CallS.mono (mark_IntS x.wait (KK + 1) _ 1 _ rfl (by simp) (by omega) (by omega) (by omega)) ?_
    rintro o h' ⟨rfl, rfl⟩
    simp -implicitDefEqProofs [hss, hlt]; repeat refine ⟨by omega, ?_⟩
    refine hK _ ?_; clear hK K; refine hK3 _ ?_; refine SW.ea ?_; refine ⟨k + 1, by omega, by omega, ?_⟩
    exact Wk.foMutex (env' := [(5, .int .i64 ((k + 1) : Nat)), (1, .int .i64 (s + ((((l.take (k + 1)).map Mutex.wt).sum : Nat) : Int))), (0, .sl 0 0 l.length)]) (h := [none]) (h' := [some ⟨2, (MutexSo (mdN Mutex.mk1 Mutex.wt s l (k + 1)))⟩]) (p := 0) (k := k) (es := ((MutexSo (mdN Mutex.mk1 Mutex.wt s l k)).set k [.int .i64 (Mutex.mk1 KK x).owner, .sl 1 0 (Mutex.mk1 KK x).wait.length])) (es' := (MutexSo (mdN Mutex.mk1 Mutex.wt s l (k + 1)))) (d := (Mutex.mk1 KK x)) (by simp [Mutex.mk1, List.set_set]) (by simp) (by rw [List.getElem?_set_self (by simp; omega)]; rfl) (by rw [List.set_set, MutexSo_setL, hset]) (by simp) (by simp) (by simp [subE, wrap1 k (by omega), hnx]) (by simp [subE]) (by simp [lowE, lowN]) (by simp [lowN]) rfl
   intro hb1; have hk1 : k = l.length := by simp at hb1; omega
   refine SW.exit ?_; simp only [Ex.then, Ex.ib]; try simp only [if_true, if_false, reduceIte]
   refine hK1 _ ?_; refine SW.ra ?_; refine SW.ret ?_; simp [Ex.then, Ex.ib]; subst hk1; rw [List.take_length] at hKK; rw [mdN_all]; simp [hKK]
theorem markX_MutexS (l : List Mutex) (s : Int) (H : Heap) (id m : Nat) (hn : l.length = m) (hh : H[id]? = some (some ⟨2, MutexSo l⟩)) (hl : m ≤ 2 ^ 30) (hW : (l.map Mutex.wt).sum ≤ 2 ^ 30) (hs : 0 ≤ s) (hs2 : s ≤ 2 ^ 40) :
    CallS Tryz.prog 73 [.sl id 0 m, .int .i64 s] H (fun o h' => o = .int .i64 (s + (((l.map Mutex.wt).sum : Nat) : Int)) ∧ h' = H.set id (some ⟨2, MutexSo (mkN Mutex.mk1 Mutex.wt s l)⟩)) := by
  subst hn; have hi : id < H.length := (List.getElem?_eq_some_iff.1 hh).1
  refine CallS.mono (CallS.frame [id] (markX_MutexS0 l s hl hW hs hs2) (by simp) (by simp) (by simp) (by simpa using hi) (by simp [renH, hh]) (by simp) (by simp) ?_) ?_
  · rintro o h' ⟨rfl, rfl⟩
    refine ⟨by simp, ?_, by simp, rfl⟩; intro x hx; simp only [List.mem_singleton] at hx; subst hx; exact MutexSo_nfz _ _
  · rintro o h' ⟨o0, h0, ⟨rfl, rfl⟩, rfl, rfl⟩
    exact ⟨by simp, by rw [frame1, MutexSo_renB]⟩
theorem heldX_MutexS (l : List Mutex) (s : Int) (hl : l.length ≤ 2 ^ 30) (hW : (l.map Mutex.wt).sum ≤ 2 ^ 30) (hs : 0 ≤ s) (hs2 : s ≤ 2 ^ 40) : Fn Tryz.prog 76 [.fz (MutexSf (mkN Mutex.mk1 Mutex.wt s l)), .int .i64 s] (.int .i64 (s + (((l.map Mutex.wt).sum : Nat) : Int))) := by
  refine Fn.intro Tryz.func76 (by decide) rfl (rs := [.tmp 4]) rfl Tryz.ntmps76 (by simp) ?_; refine SW.rg fun K hK => ?_; simp -implicitDefEqProofs
  repeat (refine And.intro (by clear hK; first | omega | (intros; omega) | (intros; simp_all; done) | (intros; grind)) ?_)
  refine hK _ ?_; clear hK K; refine SW.seqK fun K1 hK1 => ?_; refine SW.rg fun K hK => ?_; simp -implicitDefEqProofs; repeat (refine And.intro (by clear hK; first | omega | (intros; omega) | (intros; simp_all; done) | (intros; grind)) ?_)
  refine hK _ ?_; clear hK K; refine SW.block ?_
  refine SW.loop (α := Nat) (fun k => ⟨[(5, .int .i64 (k : Nat)), (1, .int .i64 (s + ((((l.take k).map Mutex.wt).sum : Nat) : Int))), (0, .fz (MutexSf (mkN Mutex.mk1 Mutex.wt s l)))], []⟩) (fun k => k ≤ l.length) (fun k => l.length - k) (0) ?_ ?_ (fun k hx => ?_)
  case' refine_1 =>
   simp
  case' refine_2 =>
   rw [List.take_zero]; exact Wk.cut (by simp) (by simp [subE]) (by simp [cutH]) (by simp [lowE, lowN]) (by simp)
  case' refine_3 =>
   have hst := sum_take Mutex.wt l k
   obtain ⟨KK, hKK⟩ : ∃ KK : Int, KK = s + ((((l.take k).map Mutex.wt).sum : Nat) : Int) := ⟨_, rfl⟩
   rw [← hKK]; refine SW.seqK fun K2 hK2 => ?_; refine SW.rg fun K hK => ?_; simp -implicitDefEqProofs; repeat (refine And.intro (by clear hK; first | omega | (intros; omega) | (intros; simp_all; done) | (intros; grind)) ?_)
   refine hK _ ?_; clear hK K; refine SW.cond _ rfl (by simp) ?_ ?_
   case' refine_1 =>
    intro hb1; have hlt : k < l.length := by simpa using hb1
    obtain ⟨x, hxk⟩ : ∃ x, l[k]? = some x := ⟨_, List.getElem?_eq_getElem hlt⟩
    have hgt := mkN_get (f := Mutex.mk1) (w := Mutex.wt) (s := s) hxk
    have hst1 := szL_take (f := Mutex.wt) hxk
    have htot := sum_take Mutex.wt l (k + 1)
    simp only [Mutex.wt] at hst1; rw [← hKK] at hgt; simp only [Mutex.mk1] at hgt; have hw1 := wrapI (KK + 1) (by omega) (by omega)
    have hnx : s + ((((l.take (k + 1)).map Mutex.wt).sum : Nat) : Int) = KK + 1 + (x.wait.length : Int) := by omega
    rw [List.map_take] at hnx; refine SW.skip ?_; refine hK2 _ ?_; refine SW.seqK fun K3 hK3 => ?_; refine SW.block ?_; refine SW.seqK fun K4 hK4 => ?_; refine SW.rg fun K hK => ?_; simp -implicitDefEqProofs [hgt]
    repeat (refine And.intro (by clear hK; first | omega | (intros; omega) | (intros; simp_all; done) | (intros; grind)) ?_)
    refine hK _ ?_; clear hK K; refine SW.cond _ rfl (by simp) ?_ ?_
    case' refine_1 =>
     intro hb2; exfalso; simp at hb2
    intro hb2; refine SW.skip ?_; refine hK4 _ ?_; refine SW.rg fun K hK => ?_; simp -implicitDefEqProofs [hw1]; repeat (refine And.intro (by clear hK; first | omega | (intros; omega) | (intros; simp_all; done) | (intros; grind)) ?_)
    refine hK _ ?_; clear hK K; refine SW.rg fun K hK => ?_; simp -implicitDefEqProofs [hgt]; repeat (refine And.intro (by clear hK; first | omega | (intros; omega) | (intros; simp_all; done) | (intros; grind)) ?_)
    first
      | refine CallQ.fzE (held_IntS x.wait.length (KK + 1) (by omega) (by omega) (by omega)) (by simp) ?_
      | refine CallK.fzE (held_IntS x.wait.length (KK + 1) (by omega) (by omega) (by omega)) (by simp) ?_
    simp -implicitDefEqProofs [hgt]; repeat (refine And.intro (by clear hK; first | omega | (intros; omega) | (intros; simp_all; done) | (intros; grind)) ?_)
    refine hK _ ?_; clear hK K; refine SW.rg fun K hK => ?_; simp -implicitDefEqProofs; repeat (refine And.intro (by clear hK; first | omega | (intros; omega) | (intros; simp_all; done) | (intros; grind)) ?_)
    refine hK _ ?_; clear hK K; refine SW.cond _ rfl (by simp) ?_ ?_
    case' refine_1 =>
     intro hb3; exfalso; simp at hb3; omega
    intro hb3; refine SW.skip ?_; refine hK3 _ ?_; refine SW.regionE fun K hK => ?_; simp -implicitDefEqProofs; repeat (refine And.intro (by clear hK; first | omega | (intros; omega) | (intros; simp_all; done) | (intros; grind)) ?_)
    refine hK _ ?_; clear hK K; refine ⟨k + 1, by omega, by omega, ?_⟩; exact Wk.cut (by simp) (by simp [subE, wrap1 k (by omega), hnx]) (by simp [cutH]) (by simp [lowE, lowN]) (by simp)
   intro hb1; have hk1 : k = l.length := by simp at hb1; omega
   refine SW.exit ?_; simp only [Ex.then, Ex.ib]; try simp only [if_true, if_false, reduceIte]
   refine hK1 _ ?_; refine SW.rg fun K hK => ?_; simp -implicitDefEqProofs; repeat (refine And.intro (by clear hK; first | omega | (intros; omega) | (intros; simp_all; done) | (intros; grind)) ?_)
   refine hK _ ?_; clear hK K; refine SW.ret ?_; simp [Ex.then, Ex.ib]
   all_goals first
     | (subst hk1; rw [List.take_length] at hKK; simp [hKK]; done)
     | fail
end HT
