import Derived.Test.YtohfnikklggjjaaGreatHGV2
import Derived.Test.YtohfnikklggjjaaGreatHGVS
/-
  My own texts (road H): HGV3.
-/
set_option linter.unusedSimpArgs false
set_option linter.unusedVariables false
namespace HT
open Go Go.Proofs HK
theorem sortE : Enter Tryz.prog 78 := ⟨_, Tryz.func78, by decide, by decide⟩
abbrev srt (l : List Int) : List Int := l.mergeSort fun x y => decide (x ≤ y)
theorem CallS.of_none {P : Program} {f : FuncId} (hE : Enter P f) (hs : ∀ (p : Option Addr) (cap : Nat) (w : World), Calls P f #[.slice p 0 cap] w fun e w' => e = .returned (.tuple #[]) ∧ w' = w) {H : Heap} {id : Nat} :
    CallS P f [.sl id 0 0] H (fun o h' => o = .tup [] ∧ h' = H) := by
  refine ⟨hE, fun φ Ss w vs hp hc => ?_⟩; obtain ⟨v, rfl, hv⟩ := hc.head
  obtain ⟨p, cap, rfl⟩ : ∃ p cap, v = .slice p 0 cap := by
    cases hv with
    | sl0 _ _ r A hr => exact ⟨_, _, rfl⟩
    | sl _ _ _ cap r hr hcap hl => exact ⟨_, _, rfl⟩
  refine (hs p cap w).mono fun e w' ⟨he, hw⟩ => ?_; subst hw; exact ⟨.tuple #[], .tup [], _, φ, Ss, he, ⟨rfl, rfl⟩, hp, .tup [] [] [] .nil, fun _ _ h => h, fun b h => .inl h, .refl _ _⟩
theorem sort_ok (l : List Int) (hl : l.length ≤ 2 ^ 30) (n : Nat) (hn : l.length = n) : CallS Tryz.prog 78 [.sl 0 0 n] [some ⟨1, IntS l⟩] (fun o h' => o = .tup [] ∧ h' = [some ⟨1, IntS (srt l)⟩]) := by
  subst hn
  cases l with
  | nil =>
    refine CallS.mono (CallS.of_none sortE Go.Proofs.Tryz.slices_Sort_int_none) ?_
    rintro o h' ⟨rfl, rfl⟩
    exact ⟨rfl, by simp [srt]⟩
  | cons x l =>
    have h := CallS.of_sort (P := Tryz.prog) (f := 78) srt (fun zs => List.length_mergeSort _) sortE (fun blk off cap zs w hH hb hz => Go.Proofs.Tryz.slices_Sort_int blk off cap zs w hH hb hz) (H := [some ⟨1, IntS (x :: l)⟩]) (id := 0) (zs := x :: l) rfl (by simp) (by omega)
    exact h.mono fun o h' ⟨h1, h2⟩ => ⟨h1, h2⟩
theorem compact_ok' (l : List Int) (hl : l.length ≤ 2 ^ 30) (n : Nat) (hn : l.length = n) : CallS Tryz.prog 79 [.sl 0 0 n] [some ⟨1, IntS l⟩] (fun o h' => ∃ t, o = .sl 0 0 (cmpt l).length ∧ h' = [some ⟨1, IntS (cmpt l ++ t)⟩]) := by
  subst hn; exact compact_ok l hl
set_option maxHeartbeats 1000000 in
theorem rising_ok (l : List Int) (hl : l.length ≤ 2 ^ 30) : CallS Tryz.prog 61 [.sl 0 0 l.length] ([some ⟨1, IntS l⟩]) (fun o h' => ∃ t, o = .sl 0 0 (rising l).length ∧ h' = [some ⟨1, IntS (rising l ++ t)⟩]) := by
  refine CallS.intro Tryz.func61 (by decide) rfl (rs := [.tmp 2]) rfl Tryz.ntmps61 (by simp) ?_; refine SW.rg fun K hK => ?_; simp -implicitDefEqProofs; repeat refine ⟨by omega, ?_⟩
  refine hK _ ?_; clear hK K; refine SW.rg fun K hK => ?_; simp -implicitDefEqProofs; iterate 2 (try refine ⟨by omega, ?_⟩)
  refine CallS.mono (sort_ok l hl _ rfl) ?_
  rintro o h' ⟨rfl, rfl⟩
  simp -implicitDefEqProofs; repeat refine ⟨by omega, ?_⟩
  refine hK _ ?_; clear hK K; refine SW.rg fun K hK => ?_; simp -implicitDefEqProofs; iterate 2 (try refine ⟨by omega, ?_⟩)
  refine CallS.mono (compact_ok' (srt l) (by simpa using hl) _ (by simp)) ?_
  rintro o h' ⟨t, rfl, rfl⟩
  simp -implicitDefEqProofs; repeat refine ⟨by omega, ?_⟩
  refine hK _ ?_; clear hK K; refine SW.ret ?_; simp [Ex.then, Ex.ib]; simp [rising]
  first | exact ⟨t, rfl⟩ | skip
end HT
