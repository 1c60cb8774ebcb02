/-
  My own text (road H): HB1.
-/
import Derived.Test.YtflanhfpjgcfbaaHK21
import Derived.RowKit
import Derived.OpenShut
import Derived.ShutString
import Derived.Carry
import Derived.WideShapes
import Derived.DataReads
namespace HK
open Go

/-- What the first reading of an argument says of it: whatever reads at this type is one of these, in cells. -/
def Reads (P : Program) (t : TypeId) {α : Type} (E : α → List AV) (ok : α → Prop) : Prop :=
  ∀ (H : Type) (enc : TypeId × Value → H) (w : World) (sp : Nat → Bool) (n : Nat) (cs : List Value) (x : DataW H × List MemPlace), DataW.trod enc P w 0 sp true n t cs = some x →
    ∃ a, ok a ∧ CR w (fun _ => False) nof (E a) cs []

theorem Reads.map {P : Program} {t : TypeId} {α β : Type} {E : α → List AV} {ok : α → Prop} {E' : β → List AV} {ok' : β → Prop} (h : Reads P t E ok) (g : α → β) (he : ∀ a, E' (g a) = E a) (hk : ∀ a, ok a → ok' (g a)) : Reads P t E' ok' := by
  intro H enc w sp n cs x hx
  obtain ⟨a, h1, h2⟩ := h H enc w sp n cs x hx
  exact ⟨g a, hk a h1, by rw [he]; exact h2⟩

theorem Reads.bool {P : Program} {t : TypeId} (ht : P.underlying t = some .bool) : Reads P t (fun b : Bool => [.bool b]) (fun _ => True) := by
  intro H enc w sp n cs x hx
  cases n with
  | zero => simp [DataW.trod] at hx
  | succ n =>
    unfold DataW.trod at hx
    rw [ht] at hx
    split at hx
    case h_1 b _ => exact ⟨b, trivial, CR.one (.bool _)⟩
    all_goals simp_all

theorem Reads.int {P : Program} {t : TypeId} {k : IntKind} (ht : P.underlying t = some (.int k)) : Reads P t (fun b : Int => [.int k b]) (fun b => (Lit.int k b).wf = true) := by
  intro H enc w sp n cs x hx
  cases n with
  | zero => simp [DataW.trod] at hx
  | succ n =>
    unfold DataW.trod at hx
    rw [ht] at hx
    split at hx <;> simp_all
    exact ⟨_, hx.1.2, CR.one (.int _ _)⟩

theorem Reads.str {P : Program} {t : TypeId} (ht : P.underlying t = some .string) : Reads P t (fun b : ByteArray => [.str b]) (fun b => b.size ≤ maxLen) := by
  intro H enc w sp n cs x hx
  cases n with
  | zero => simp [DataW.trod] at hx
  | succ n =>
    unfold DataW.trod at hx
    rw [ht] at hx
    split at hx <;> simp_all
    exact ⟨_, hx.1, CR.one (.str _)⟩

theorem mapM_reads {α : Type} {w : World} {E : α → List AV} {ok : α → Prop} {sz : Nat} {D : Type} (f : Nat → Option D) (g : Nat → Option (List Value))
    (hf : ∀ i d, f i = some d → ∃ cs a, g i = some cs ∧ cs.length = sz ∧ ok a ∧ CR w (fun _ => False) nof (E a) cs []) :
    ∀ (l : List Nat) (r : List D), l.mapM f = some r → ∃ (as : List α) (css : List (List Value)), as.length = l.length ∧ css.length = l.length ∧ (∀ a ∈ as, ok a ∧ (E a).length = sz) ∧ (∀ cs ∈ css, cs.length = sz) ∧
      (∀ (i x : Nat), l[i]? = some x → g x = css[i]?) ∧ CR w (fun _ => False) nof (as.map E).flatten css.flatten []
  | [], r, h => ⟨[], [], by simp, by simp, by simp, by simp, by simp, .nil⟩
  | i :: l, r, h => by
    rw [List.mapM_cons] at h
    cases h1 : f i with
    | none => simp [h1] at h
    | some d =>
      cases h2 : l.mapM f with
      | none => simp [h1, h2] at h
      | some ds =>
        obtain ⟨cs, a, g1, g2, g3, g4⟩ := hf i d h1
        obtain ⟨as, css, e1, e2, e3, e4, e5, e6⟩ := mapM_reads f g hf l ds h2
        refine ⟨a :: as, cs :: css, by simp [e1], by simp [e2], ?_, ?_, ?_, ?_⟩
        · intro b hb
          rcases List.mem_cons.1 hb with rfl | hb
          · exact ⟨g3, by rw [g4.length, g2]⟩
          · exact e3 b hb
        · intro c hc
          rcases List.mem_cons.1 hc with rfl | hc
          · exact g2
          · exact e4 c hc
        · intro j x hx
          cases j with
          | zero => simp at hx; subst hx; simp [g1]
          | succ j => simp at hx; simpa using e5 j x hx
        · simpa using g4.app e6

theorem flatV_get {sz : Nat} : ∀ {css : List (List Value)}, (∀ c ∈ css, c.length = sz) → ∀ {k : Nat} {v : Value}, css.flatten[k]? = some v → ∃ cs, css[k / sz]? = some cs ∧ cs[k % sz]? = some v ∧ 0 < sz
  | [], _, k, v, h => by simp at h
  | c :: css, hu, k, v, h => by
    have hc := hu c (List.mem_cons_self ..)
    rw [List.flatten_cons] at h
    rcases Nat.lt_or_ge k sz with hk | hk
    · rw [List.getElem?_append_left (by omega)] at h
      refine ⟨c, ?_, ?_, by omega⟩
      · rw [Nat.div_eq_of_lt hk]; rfl
      · rw [Nat.mod_eq_of_lt hk]; exact h
    · rw [List.getElem?_append_right (by omega), hc] at h
      obtain ⟨cs, h1, h2, h3⟩ := flatV_get (fun c hc => hu c (List.mem_cons_of_mem _ hc)) h
      refine ⟨cs, ?_, ?_, h3⟩
      · rw [Nat.div_eq_sub_div h3 hk]; simpa using h1
      · rw [Nat.mod_eq_sub_mod hk]; exact h2

theorem Reads.slice {P : Program} {t e : TypeId} {α : Type} {E : α → List AV} {ok : α → Prop} (ht : P.underlying t = some (.slice e)) (he : Reads P e E ok) (hz : 0 < P.cellsOf e) :
    Reads P t (fun l : List α => [.fz (l.map E)]) (fun l => (∀ a ∈ l, ok a) ∧ l.length ≤ maxLen) := by
  intro H enc w sp n cs x hx
  cases n with
  | zero => simp [DataW.trod] at hx
  | succ n =>
    unfold DataW.trod at hx
    rw [ht] at hx
    dsimp only at hx
    split at hx
    case h_7 => exact ⟨[], by simp, CR.one (.fz0 _ _)⟩
    case h_8 e' A len cap heq =>
      cases heq
      split at hx
      · rename_i hc
        cases hm : (List.range len).mapM fun i => (w.cells? 0 (A.add (i * P.cellsOf e)) (P.cellsOf e)).bind (DataW.trod enc P w 0 sp true n e) with
        | none => rw [hm] at hx; simp at hx
        | some els =>
          obtain ⟨as, css, e1, e2, e3, e4, e5, e6⟩ := mapM_reads (w := w) (E := E) (ok := ok) (sz := P.cellsOf e) _ (fun i => w.cells? 0 (A.add (i * P.cellsOf e)) (P.cellsOf e)) (fun i d hd => by
            cases hg : w.cells? 0 (A.add (i * P.cellsOf e)) (P.cellsOf e) with
            | none => rw [hg] at hd; simp at hd
            | some cs =>
              rw [hg] at hd
              obtain ⟨a, k1, k2⟩ := he H enc w sp n cs d hd
              exact ⟨cs, a, rfl, (World.cells?_some hg).2.1, k1, k2⟩) _ _ hm
          simp only [List.length_range] at e1 e2
          refine ⟨as, ⟨fun a ha => (e3 a ha).1, ?_⟩, CR.one ?_⟩
          · rw [e1]; exact Nat.le_trans hc.2.1 hc.2.2
          · have hseg : Seg w A css.flatten := by
              intro k v hk
              obtain ⟨c, h1, h2, h3⟩ := flatV_get e4 hk
              have hl := (List.getElem?_eq_some_iff.1 h1).1
              have h4 := e5 (k / P.cellsOf e) (k / P.cellsOf e) (by rw [e2] at hl; rw [List.getElem?_range hl])
              rw [h1] at h4
              have h5 := (World.cells?_some h4).2.2 (k % P.cellsOf e) (Nat.mod_lt _ h3)
              rw [add_add, show k / P.cellsOf e * P.cellsOf e + k % P.cellsOf e = k by rw [Nat.mul_comm]; exact Nat.div_add_mod ..] at h5
              rw [h5, h2]
            by_cases h0 : as = []
            · subst h0
              simp at e1
              subst e1
              exact .fz0 _ _
            · have hpos : 0 < len := by rw [← e1]; exact List.length_pos_iff.2 h0
              have hlen : (as.map E).length = len := by simp [e1]
              rw [← hlen]
              refine .fz _ (P.cellsOf e) A cap css.flatten ?_ (fun h => h) ?_ (by rw [hlen]; exact hc.2.1) hseg e6
              · have h4 := e5 0 0 (by rw [List.getElem?_range hpos])
                cases hcs : css[0]? with
                | none => rw [List.getElem?_eq_none_iff] at hcs; omega
                | some c =>
                  rw [hcs] at h4
                  have h4' := World.cells?_block h4 hz
                  rwa [add_block] at h4'
              · intro c hc
                obtain ⟨a, ha, rfl⟩ := List.mem_map.1 hc
                exact (e3 a ha).2
      · simp at hx
    all_goals simp_all
end HK
