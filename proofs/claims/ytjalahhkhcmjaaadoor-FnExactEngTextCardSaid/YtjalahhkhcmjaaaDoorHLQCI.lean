import Derived.Test.YtjalahhkhcmjaaaDoorHLQC
/-
  My own texts (road H): HLQCI.
-/
set_option linter.unusedSimpArgs false
set_option linter.unusedVariables false
namespace HT
open Go Go.Proofs HK
abbrev gA : Nat := 0
def tabA : Array Value := (Lib.asciiSpaceTab.map fun z => Value.int .u8 z).toArray
theorem gTabA : Tryd.prog.globalNamed "strings.asciiSpace" = some gA := by kernel_rfl
theorem cr_strs2 {w : World} {own : Nat → Prop} {φ : Refs} : ∀ L : List (List UInt8), CR w own φ (StrS (L.map fun l => (⟨l.toArray⟩ : ByteArray))).flatten (L.map fun l => Value.string ⟨l.toArray⟩) []
  | [] => .nil
  | l :: L => by
    have := CR.cons _ _ _ _ _ _ (VR.str (w := w) (own := own) (φ := φ) ⟨l.toArray⟩) (cr_strs2 L)
    simpa [StrS] using this
theorem fields_t (s : ByteArray) (hs : s.size < 4294967281) (ha : s.data.toList.all (fun b => decide (b.toNat < 128)) = true) (xs : List ByteArray) (hx : (Lib.fields s.data.toList).map (fun l => (⟨l.toArray⟩ : ByteArray)) = xs) :
    FnT gA tabA Tryd.prog 33 [.str s] (.own 1 (StrS xs)) := by
  refine ⟨⟨_, Go.Proofs.Tryd.func33, by decide, by decide⟩, fun w vs ⟨T, z, ht⟩ hc => ?_⟩; obtain ⟨v, rfl, hv⟩ := hc.head; cases hv
  have htab : Lib.TabIs Tryd.prog w "strings.asciiSpace" .u8 Lib.asciiSpaceTab := by
    unfold Lib.TabIs World.var?; rw [gTabA]; simp only [Option.bind_some, ht]; rfl
  refine (Go.Proofs.Tryd.strings_Fields s w hs (fun j b hb => by simpa using List.all_eq_true.1 ha b (List.mem_of_getElem? hb)) htab).mono fun e w' ⟨he, hw⟩ => ?_; subst he hw
  generalize hL : Lib.fields s.data.toList = L at hx
  subst hx
  obtain ⟨w', hw, h1, h2, h3, h4⟩ : ∃ w', w' = w.alloc (.cells (L.map fun l => Value.string ⟨l.toArray⟩).toArray 9) ∧ w'.heap = w.heap.push (.cells (L.map fun l => Value.string ⟨l.toArray⟩).toArray 9) ∧ w'.os = w.os ∧ w'.tape = w.tape ∧ w'.output = w.output := ⟨_, rfl, rfl, rfl, rfl, rfl⟩
  rw [← hw]; refine ⟨_, [w.heap.size], rfl, ?_, by simp, fun b hb => by simp at hb; subst hb; simp [h1], ⟨h2, h3, h4, by simp [h1], fun b hb _ => by rw [h1, Array.getElem?_push, if_neg (by omega)]⟩⟩
  have hv := VR.own (w := w') (own := fun _ => True) (φ := nof) (StrS (L.map fun l => (⟨l.toArray⟩ : ByteArray))) 1 w.heap.size 0 L.length L.length (L.map fun l => Value.string ⟨l.toArray⟩) []
    ⟨_, _, by rw [h1]; simp; exact ⟨rfl, rfl⟩, by simp⟩ (by simp [StrS]) (by simp [StrS]) (by simp) (fun n v hn => by
      have hc : w'.cell? ⟨w.heap.size, n, none⟩ = some v := by
        unfold World.cell?; rw [h1]
        simpa using hn
      unfold Addr.add; split
      · rename_i h0; subst h0; exact hc
      · simpa using hc) (cr_strs2 L)
  simpa [StrS] using hv
theorem kindsF : FnT gA tabA Tryd.prog 33 [.str ⟨#[115, 101, 110, 116, 32, 103, 111, 116, 32, 99, 108, 111, 115, 101, 100, 32, 112, 105, 99, 107, 101, 100, 32, 108, 111, 99, 107, 101, 100, 32, 117, 110, 108, 111, 99, 107, 101, 100, 32, 115, 112, 97, 119, 110, 101, 100, 32, 112, 114, 105, 110, 116, 101, 100, 32, 100, 111, 110, 101, 32, 100, 101, 97, 100]⟩] (.own 1 [[.str ⟨#[115, 101, 110, 116]⟩], [.str ⟨#[103, 111, 116]⟩], [.str ⟨#[99, 108, 111, 115, 101, 100]⟩], [.str ⟨#[112, 105, 99, 107, 101, 100]⟩], [.str ⟨#[108, 111, 99, 107, 101, 100]⟩], [.str ⟨#[117, 110, 108, 111, 99, 107, 101, 100]⟩], [.str ⟨#[115, 112, 97, 119, 110, 101, 100]⟩], [.str ⟨#[112, 114, 105, 110, 116, 101, 100]⟩], [.str ⟨#[100, 111, 110, 101]⟩], [.str ⟨#[100, 101, 97, 100]⟩]]) := fields_t _ (by decide) (by decide) kindsB (by decide +kernel)
end HT
