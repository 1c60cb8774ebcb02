import Derived.Test.YtdhoappjadnhcaaGreatHCAB
import Derived.Test.YtdhoappjadnhcaaGreatG5
/-
  My own texts (road H): HCAC.
-/
set_option maxHeartbeats 8000000
set_option linter.unusedSimpArgs false
set_option linter.unusedVariables false
namespace HT
open Go Go.Proofs HK
theorem law_wake (a : Prog) (b : Eng) (ch wg cas wv v : Int) (ok : Bool) (fa : a.fit) (fb : b.fit) : HK.Fn Tryz.prog 3 [.agg a.fr, .agg b.fr, .int .i64 ch, .agg [.int .i64 wg, .int .i64 cas, .int .i64 wv], .int .i64 v, .bool ok] (.bool true) := by
  cases hG : (engOk a b && valOk v && (decide (0 ≤ wg) && decide (wg < (b.gs.length : Int)))) with
  | false =>
    have hc : ∀ (k : Nat) (g : Gor), wg = (k : Int) → engOk a b = true → valOk v = true → b.gs[k]? = some g → False := fun k g hk hE hv hg => by
      subst hk; have hkl := (List.getElem?_eq_some_iff.1 hg).1
      rw [hE, hv] at hG; simp at hG; omega
    exact law_wakeN a b ch wg cas wv v ok fa fb (fun ha hb => wakeW_s a b ch wg cas wv v ok ha hb _ (fun _ => rfl) (fun _ _ _ _ _ _ _ => rfl) (fun k g h1 h2 h3 h4 _ => (hc k g h1 h2 h3 h4).elim))
      (fun ha hb => wakeW_i a b ch wg cas wv v ok ha hb _ (fun _ => rfl) (fun _ _ _ _ _ _ _ => rfl) (fun k g h1 h2 h3 h4 _ => (hc k g h1 h2 h3 h4).elim))
  | true =>
    have hG' := hG
    simp only [Bool.and_eq_true, decide_eq_true_eq] at hG'; obtain ⟨⟨hE, hv⟩, hw0, hw1⟩ := hG'; obtain ⟨k, rfl⟩ : ∃ k : Nat, wg = (k : Int) := ⟨wg.toNat, by omega⟩
    obtain ⟨g, hg⟩ : ∃ g, b.gs[k]? = some g := ⟨_, List.getElem?_eq_getElem (by omega)⟩
    have hu : ∀ (k' : Nat) (g' : Gor), (k : Int) = (k' : Int) → b.gs[k']? = some g' → k' = k ∧ g' = g := fun k' g' h1 h2 => by
      have : k' = k := by omega
      subst this; rw [hg] at h2; exact ⟨rfl, (Option.some.inj h2).symm⟩
    cases hany : (wantG a k g).any (fnd ch (k : Int) cas wv) with
    | true =>
      have hcN : ∀ {α : Prop}, (engOk a b && valOk v && (decide (0 ≤ (k : Int)) && decide ((k : Int) < (b.gs.length : Int)))) = false → α := fun h => by rw [hG] at h; cases h
      have hcF : ∀ {α : Prop} (k' : Nat) (g' : Gor), (k : Int) = (k' : Int) → b.gs[k']? = some g' → (wantG a k' g').any (fnd ch (k' : Int) cas wv) = false → α := fun k' g' h1 h2 h3 => by
        obtain ⟨rfl, rfl⟩ := hu k' g' h1 h2; rw [hany] at h3; cases h3
      have hcY : ∀ (k' : Nat) (g' : Gor), (k : Int) = (k' : Int) → b.gs[k']? = some g' → (AV.tup [.agg (wakeE a b k g ch cas wv v ok).ow, .bool true]) = .tup [.agg (wakeE a b k' g' ch cas wv v ok).ow, .bool true] := fun k' g' h1 h2 => by
        obtain ⟨rfl, rfl⟩ := hu k' g' h1 h2; rfl
      refine law_wakeY a b ch k cas wv v ok fa fb (wakeE a b k g ch cas wv v ok) ?_ ?_ ?_
      · exact fun hz => wake_ok ch cas wv v ok (Eng.sz_ok hz) hE hg hz
      · exact fun ha hb => wakeW_s a b ch k cas wv v ok ha hb _ hcN (fun k' g' h1 _ _ h4 h5 => hcF k' g' h1 h4 h5) (fun k' g' h1 _ _ h4 _ => hcY k' g' h1 h4)
      · exact fun ha hb => wakeW_i a b ch k cas wv v ok ha hb _ hcN (fun k' g' h1 _ _ h4 h5 => hcF k' g' h1 h4 h5) (fun k' g' h1 _ _ h4 _ => hcY k' g' h1 h4)
    | false =>
      have hcY : ∀ {α : Prop} (k' : Nat) (g' : Gor), (k : Int) = (k' : Int) → b.gs[k']? = some g' → (wantG a k' g').any (fnd ch (k' : Int) cas wv) = true → α := fun k' g' h1 h2 h3 => by
        obtain ⟨rfl, rfl⟩ := hu k' g' h1 h2; rw [hany] at h3; cases h3
      exact law_wakeN a b ch k cas wv v ok fa fb (fun ha hb => wakeW_s a b ch k cas wv v ok ha hb _ (fun _ => rfl) (fun _ _ _ _ _ _ _ => rfl) (fun k' g' h1 _ _ h4 h5 => hcY k' g' h1 h4 h5))
        (fun ha hb => wakeW_i a b ch k cas wv v ok ha hb _ (fun _ => rfl) (fun _ _ _ _ _ _ _ => rfl) (fun k' g' h1 _ _ h4 h5 => hcY k' g' h1 h4 h5))
end HT
