import Derived.Test.YtjalahhkhcmjaaaDoorG2b
import Derived.Lib.Join
/-
  My own texts (road H): HK48.
-/
set_option linter.unusedSimpArgs false
set_option linter.unusedVariables false
namespace HK
open Go
abbrev StrS (xs : List ByteArray) : List (List AV) := xs.map fun x => [.str x]
theorem cr_strs {w : World} {own : Nat → Prop} {φ : Refs} : ∀ {xs : List ByteArray} {us : List Value} {T : List Nat}, CR w own φ (StrS xs).flatten us T → us = xs.map Value.string ∧ T = []
  | [], _, _, h => by
    simp at h
    cases h; exact ⟨rfl, rfl⟩
  | z :: zs, _, _, h => by
    simp only [StrS, List.map_cons, List.flatten_cons, List.cons_append, List.nil_append] at h; obtain ⟨v, us, S1, S2, rfl, rfl, h1, h2⟩ := h.uncons; obtain ⟨rfl, rfl⟩ := cr_strs h2; cases h1
    exact ⟨rfl, rfl⟩
def joinB (sep : ByteArray) : List ByteArray → ByteArray
  | [] => ⟨#[]⟩
  | [x] => x
  | x :: y :: r => x ++ (sep ++ joinB sep (y :: r))
theorem joinB_data (sep : ByteArray) : ∀ xs : List ByteArray, (joinB sep xs).data.toList = Lib.join (xs.map (·.data.toList)) sep.data.toList
  | [] => rfl
  | [x] => by simp [joinB, Lib.join_one]
  | x :: y :: r => by
    have h := joinB_data sep (y :: r)
    rw [joinB, ByteArray.data_append, ByteArray.data_append, Array.toList_append, Array.toList_append, h]; simp [Lib.join_cons, Lib.joinTail]
theorem joinB_eq (sep : ByteArray) (xs : List ByteArray) : (⟨(Lib.join (xs.map (·.data.toList)) sep.data.toList).toArray⟩ : ByteArray) = joinB sep xs := by
  rw [← joinB_data]
theorem CallS.of_join {P : Program} {f : FuncId} (hE : Enter P f)
    (h0 : ∀ (a : Option Addr) (c : Nat) (sep : ByteArray) (w : World), Calls P f #[.slice a 0 c, .string sep] w fun e w' => e = .returned (.string ⟨#[]⟩) ∧ w' = w)
    (hs : ∀ (bk o c : Nat) (xs : List ByteArray) (sep : ByteArray) (w : World), (∀ (j : Nat) x, xs[j]? = some x → w.cell? ⟨bk, o + j, none⟩ = some (.string x)) → bk < w.heap.size → xs.length ≤ 140737488355328 → xs.length ≤ c →
      (Lib.join (xs.map (·.data.toList)) sep.data.toList).length ≤ 140737488355328 →
      Calls P f #[.slice (some ⟨bk, o, none⟩) xs.length c, .string sep] w fun e w' => e = .returned (.string ⟨(Lib.join (xs.map (·.data.toList)) sep.data.toList).toArray⟩) ∧ RowKit.Below w.heap.size w w')
    {H : Heap} {id : Nat} {xs : List ByteArray} {sep : ByteArray} (hb : H[id]? = some (some ⟨1, StrS xs⟩)) (hl : (joinB sep xs).size ≤ 2 ^ 40) (hz : xs.length ≤ 2 ^ 40) :
    CallS P f [.sl id 0 xs.length, .str sep] H (fun o h' => o = .str (joinB sep xs) ∧ h' = H) := by
  refine ⟨hE, fun φ Ss w vs hp hc => ?_⟩; obtain ⟨v, vs, S1, S2, rfl, hS12, hv, hc2⟩ := hc.uncons
  obtain ⟨v2, rfl, hv2⟩ := (show CR w (Own Ss) φ [.str sep] vs [] from by
    have : S2 = [] := by
      have := congrArg List.length hS12
      simp at this; exact List.length_eq_zero_iff.1 (by omega)
    rw [← this]; exact hc2).head
  cases hv2
  have key : ∀ w', RowKit.Below w.heap.size w w' → ∃ v out h' φ' Ss', Value.string (joinB sep xs) = v ∧ (out = .str (joinB sep xs) ∧ h' = H) ∧ HP φ' Ss' h' w' ∧ VR w' (Own Ss') φ' out v [] ∧ (∀ id r, φ id = some r → φ' id = some r) ∧ (∀ b, Own Ss' b → Own Ss b ∨ w.heap.size ≤ b) ∧ Fr w Ss.flatten w' := fun w' hw => by
    refine ⟨_, _, _, φ, Ss, rfl, ⟨rfl, rfl⟩, ⟨?_, hp.len, hp.fresh, hp.nodup, fun b hb => Nat.lt_of_lt_of_le (hp.bound b hb) hw.size⟩, .str _, fun _ _ h => h, fun b h => .inl h, ⟨hw.os, hw.tape, hw.output, hw.size, fun b hb _ => hw.block b hb⟩⟩
    intro i b hi; obtain ⟨S, hS, hB⟩ := hp.heap i b hi; refine ⟨S, hS, BR.tr (fun b hb ho => ⟨ho, hw.block b hb⟩) hw.size (fun _ _ h => h) hB fun b hb => hw.block b ?_⟩; exact hp.bound b (List.mem_flatten.2 ⟨S, List.mem_of_getElem? hS, hb⟩)
  by_cases hx : xs = []
  · subst hx
    obtain ⟨a, c, rfl⟩ : ∃ a c, v = .slice a 0 c := by
      cases hv with
      | sl0 _ _ r A hr => exact ⟨_, _, rfl⟩
      | sl _ _ _ cap r hr hcap hl => exact ⟨_, _, rfl⟩
    refine (h0 a c sep w).mono fun e w' ⟨he, hw⟩ => ?_; subst hw; obtain ⟨v, out, h', φ', Ss', h1, r⟩ := key _ (RowKit.Below.refl _ _); exact ⟨v, out, h', φ', Ss', by rw [he, ← h1]; rfl, r⟩
  · obtain ⟨S, hS, hB⟩ := hp.heap id _ hb
    have hpos : 0 < xs.length := List.length_pos_iff.2 hx
    rcases hB with ⟨_, h1, _⟩ | ⟨r, us, T, hφ, hsz, hrow, hu, hlim, hseg, hcr, rfl⟩
    · simp only [StrS, List.map_eq_nil_iff] at h1; exact absurd h1 hx
    obtain ⟨rfl, rfl⟩ := cr_strs hcr; simp only at hsz hlim hseg
    obtain ⟨cap, rfl, hcap⟩ : ∃ cap, v = .slice (some ⟨r.rb, r.base, none⟩) xs.length cap ∧ xs.length ≤ cap := by
      generalize hn : xs.length = n at hv hpos
      cases hv with
      | sl0 _ _ r' A hr => omega
      | sl _ _ _ cap r' hr hcap hl =>
        rw [hφ] at hr; cases hr
        exact ⟨cap, by simp, hcap⟩
    obtain ⟨c, ty, hcell, hcl⟩ := hrow; have hrb : r.rb < w.heap.size := (Array.getElem?_eq_some_iff.1 hcell).1
    have hcellv : ∀ (j : Nat) z, xs[j]? = some z → w.cell? ⟨r.rb, r.base + j, none⟩ = some (.string z) := fun j z hj => by
      have := hseg j (.string z) (by simp [hj])
      unfold Addr.add at this; by_cases hj0 : j = 0
      · subst hj0; simpa using this
      · simpa [hj0] using this
    have hjl : (Lib.join (xs.map (·.data.toList)) sep.data.toList).length ≤ 140737488355328 := by
      rw [← joinB_data, Array.length_toList]; have : (joinB sep xs).data.size = (joinB sep xs).size := rfl
      omega
    refine (hs r.rb r.base cap xs sep w hcellv hrb (by omega) hcap hjl).mono fun e w' ⟨he, hw⟩ => ?_; rw [joinB_eq] at he; obtain ⟨v, out, h', φ', Ss', h1, r⟩ := key _ hw; exact ⟨v, out, h', φ', Ss', by rw [he, ← h1], r⟩
end HK
