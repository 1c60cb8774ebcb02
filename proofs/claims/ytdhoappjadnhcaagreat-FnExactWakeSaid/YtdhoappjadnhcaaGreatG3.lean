import Derived.Test.YtdhoappjadnhcaaGreatG1
import Derived.RowKit
import Derived.OpenShut
import Derived.ShutString
import Derived.Carry
import Derived.WideShapes
import Derived.DataReads
import Derived.WalkKit
import Derived.ProofKit
import Derived.ChangeOld
import Derived.SizedLaws
/-
  My own texts (road H): HB1 HB2.
-/
set_option maxHeartbeats 8000000
namespace HK
open Go
def Reads (P : Program) (t : TypeId) {α : Type} (E : α → List AV) (ok : α → Prop) : Prop :=
  ∀ (H : Type) (enc : TypeId × Value → H) (w : World) (sp : Nat → Bool) (n : Nat) (cs : List Value) (x : DataW H × List MemPlace), DataW.trod enc P w 0 sp true n t cs = some x →
    ∃ a, ok a ∧ CR w (fun _ => False) nof (E a) cs []
theorem Reads.map {P : Program} {t : TypeId} {α β : Type} {E : α → List AV} {ok : α → Prop} {E' : β → List AV} {ok' : β → Prop} (h : Reads P t E ok) (g : α → β) (he : ∀ a, E' (g a) = E a) (hk : ∀ a, ok a → ok' (g a)) : Reads P t E' ok' := by
  intro H enc w sp n cs x hx; obtain ⟨a, h1, h2⟩ := h H enc w sp n cs x hx; exact ⟨g a, hk a h1, by rw [he]; exact h2⟩
theorem Reads.bool {P : Program} {t : TypeId} (ht : P.underlying t = some .bool) : Reads P t (fun b : Bool => [.bool b]) (fun _ => True) := by
  intro H enc w sp n cs x hx
  cases n with
  | zero => simp [DataW.trod] at hx
  | succ n =>
    unfold DataW.trod at hx; rw [ht] at hx; split at hx
    case h_1 b _ => exact ⟨b, trivial, CR.one (.bool _)⟩
    all_goals simp_all
theorem Reads.int {P : Program} {t : TypeId} {k : IntKind} (ht : P.underlying t = some (.int k)) : Reads P t (fun b : Int => [.int k b]) (fun b => (Lit.int k b).wf = true) := by
  intro H enc w sp n cs x hx
  cases n with
  | zero => simp [DataW.trod] at hx
  | succ n =>
    unfold DataW.trod at hx; rw [ht] at hx; split at hx <;> simp_all
    exact ⟨_, hx.1.2, CR.one (.int _ _)⟩
theorem Reads.str {P : Program} {t : TypeId} (ht : P.underlying t = some .string) : Reads P t (fun b : ByteArray => [.str b]) (fun b => b.size ≤ maxLen) := by
  intro H enc w sp n cs x hx
  cases n with
  | zero => simp [DataW.trod] at hx
  | succ n =>
    unfold DataW.trod at hx; rw [ht] at hx; split at hx <;> simp_all
    exact ⟨_, hx.1, CR.one (.str _)⟩
theorem mapM_reads {α : Type} {w : World} {E : α → List AV} {ok : α → Prop} {sz : Nat} {D : Type} (f : Nat → Option D) (g : Nat → Option (List Value))
    (hf : ∀ i d, f i = some d → ∃ cs a, g i = some cs ∧ cs.length = sz ∧ ok a ∧ CR w (fun _ => False) nof (E a) cs []) :
    ∀ (l : List Nat) (r : List D), l.mapM f = some r → ∃ (as : List α) (css : List (List Value)), as.length = l.length ∧ css.length = l.length ∧ (∀ a ∈ as, ok a ∧ (E a).length = sz) ∧ (∀ cs ∈ css, cs.length = sz) ∧
      (∀ (i x : Nat), l[i]? = some x → g x = css[i]?) ∧ CR w (fun _ => False) nof (as.map E).flatten css.flatten []
  | [], r, h => ⟨[], [], by simp, by simp, by simp, by simp, by simp, .nil⟩
  | i :: l, r, h => by
    rw [List.mapM_cons] at h
    cases h1 : f i with
    | none => simp [h1] at h
    | some d =>
      cases h2 : l.mapM f with
      | none => simp [h1, h2] at h
      | some ds =>
        obtain ⟨cs, a, g1, g2, g3, g4⟩ := hf i d h1; obtain ⟨as, css, e1, e2, e3, e4, e5, e6⟩ := mapM_reads f g hf l ds h2; refine ⟨a :: as, cs :: css, by simp [e1], by simp [e2], ?_, ?_, ?_, ?_⟩
        · intro b hb
          rcases List.mem_cons.1 hb with rfl | hb
          · exact ⟨g3, by rw [g4.length, g2]⟩
          · exact e3 b hb
        · intro c hc
          rcases List.mem_cons.1 hc with rfl | hc
          · exact g2
          · exact e4 c hc
        · intro j x hx
          cases j with
          | zero => simp at hx; subst hx; simp [g1]
          | succ j => simp at hx; simpa using e5 j x hx
        · simpa using g4.app e6
theorem flatV_get {sz : Nat} : ∀ {css : List (List Value)}, (∀ c ∈ css, c.length = sz) → ∀ {k : Nat} {v : Value}, css.flatten[k]? = some v → ∃ cs, css[k / sz]? = some cs ∧ cs[k % sz]? = some v ∧ 0 < sz
  | [], _, k, v, h => by simp at h
  | c :: css, hu, k, v, h => by
    have hc := hu c (List.mem_cons_self ..)
    rw [List.flatten_cons] at h; rcases Nat.lt_or_ge k sz with hk | hk
    · rw [List.getElem?_append_left (by omega)] at h
      refine ⟨c, ?_, ?_, by omega⟩
      · rw [Nat.div_eq_of_lt hk]; rfl
      · rw [Nat.mod_eq_of_lt hk]; exact h
    · rw [List.getElem?_append_right (by omega), hc] at h
      obtain ⟨cs, h1, h2, h3⟩ := flatV_get (fun c hc => hu c (List.mem_cons_of_mem _ hc)) h; refine ⟨cs, ?_, ?_, h3⟩
      · rw [Nat.div_eq_sub_div h3 hk]; simpa using h1
      · rw [Nat.mod_eq_sub_mod hk]; exact h2
theorem Reads.slice {P : Program} {t e : TypeId} {α : Type} {E : α → List AV} {ok : α → Prop} (ht : P.underlying t = some (.slice e)) (he : Reads P e E ok) (hz : 0 < P.cellsOf e) :
    Reads P t (fun l : List α => [.fz (l.map E)]) (fun l => (∀ a ∈ l, ok a) ∧ l.length ≤ maxLen) := by
  intro H enc w sp n cs x hx
  cases n with
  | zero => simp [DataW.trod] at hx
  | succ n =>
    unfold DataW.trod at hx; rw [ht] at hx; dsimp only at hx; split at hx
    case h_7 => exact ⟨[], by simp, CR.one (.fz0 _ _)⟩
    case h_8 e' A len cap heq =>
      cases heq
      split at hx
      · rename_i hc
        cases hm : (List.range len).mapM fun i => (w.cells? 0 (A.add (i * P.cellsOf e)) (P.cellsOf e)).bind (DataW.trod enc P w 0 sp true n e) with
        | none => rw [hm] at hx; simp at hx
        | some els =>
          obtain ⟨as, css, e1, e2, e3, e4, e5, e6⟩ := mapM_reads (w := w) (E := E) (ok := ok) (sz := P.cellsOf e) _ (fun i => w.cells? 0 (A.add (i * P.cellsOf e)) (P.cellsOf e)) (fun i d hd => by
            cases hg : w.cells? 0 (A.add (i * P.cellsOf e)) (P.cellsOf e) with
            | none => rw [hg] at hd; simp at hd
            | some cs =>
              rw [hg] at hd; obtain ⟨a, k1, k2⟩ := he H enc w sp n cs d hd
              exact ⟨cs, a, rfl, (World.cells?_some hg).2.1, k1, k2⟩) _ _ hm
          simp only [List.length_range] at e1 e2; refine ⟨as, ⟨fun a ha => (e3 a ha).1, ?_⟩, CR.one ?_⟩
          · rw [e1]; exact Nat.le_trans hc.2.1 hc.2.2
          · have hseg : Seg w A css.flatten := by
              intro k v hk; obtain ⟨c, h1, h2, h3⟩ := flatV_get e4 hk; have hl := (List.getElem?_eq_some_iff.1 h1).1
              have h4 := e5 (k / P.cellsOf e) (k / P.cellsOf e) (by rw [e2] at hl; rw [List.getElem?_range hl])
              rw [h1] at h4; have h5 := (World.cells?_some h4).2.2 (k % P.cellsOf e) (Nat.mod_lt _ h3)
              rw [add_add, show k / P.cellsOf e * P.cellsOf e + k % P.cellsOf e = k by rw [Nat.mul_comm]; exact Nat.div_add_mod ..] at h5; rw [h5, h2]
            by_cases h0 : as = []
            · subst h0
              simp at e1; subst e1; exact .fz0 _ _
            · have hpos : 0 < len := by rw [← e1]; exact List.length_pos_iff.2 h0
              have hlen : (as.map E).length = len := by simp [e1]
              rw [← hlen]; refine .fz _ (P.cellsOf e) A cap css.flatten ?_ (fun h => h) ?_ (by rw [hlen]; exact hc.2.1) hseg e6
              · have h4 := e5 0 0 (by rw [List.getElem?_range hpos])
                cases hcs : css[0]? with
                | none => rw [List.getElem?_eq_none_iff] at hcs; omega
                | some c =>
                  rw [hcs] at h4; have h4' := World.cells?_block h4 hz
                  rwa [add_block] at h4'
              · intro c hc
                obtain ⟨a, ha, rfl⟩ := List.mem_map.1 hc; exact (e3 a ha).2
      · simp at hx
    all_goals simp_all
end HK
namespace HK
open Go Go.RowKit Go.ChangeShapes
def sflds (P : Program) (t : TypeId) : Option (List (TypeId × Nat) × Nat) := match P.underlying t with
  | some (.struct fs) => some (fs.toList.map fun f => (f.type, f.offset), P.cellsOf t)
  | _ => none
def ReadsF (P : Program) (fs : List (TypeId × Nat)) (off tot : Nat) {α : Type} (E : α → List AV) (ok : α → Prop) : Prop :=
  ∀ (H : Type) (enc : TypeId × Value → H) (w : World) (sp : Nat → Bool) (n : Nat) (cs : List Value) (r : List (DataW H × List MemPlace)), cs.length = tot →
    (fs.mapM fun f => DataW.trod enc P w 0 sp true n f.1 ((cs.drop f.2).take (P.cellsOf f.1))) = some r → ∃ a, ok a ∧ CR w (fun _ => False) nof (E a) (cs.drop off) []
theorem ReadsF.nil {P : Program} {tot : Nat} : ReadsF P [] tot tot (fun _ : Unit => []) (fun _ => True) := by
  intro H enc w sp n cs r hc _; refine ⟨(), trivial, ?_⟩; rw [List.drop_eq_nil_of_le (by omega)]; exact .nil
theorem ReadsF.cons {P : Program} {t : TypeId} {fs : List (TypeId × Nat)} {off tot : Nat} (c : Nat) {α β : Type} {E : α → List AV} {ok : α → Prop} {E' : β → List AV} {ok' : β → Prop} (hc : P.cellsOf t = c)
    (h : Reads P t E ok) (h' : ReadsF P fs (off + c) tot E' ok') : ReadsF P ((t, off) :: fs) off tot (fun x : α × β => E x.1 ++ E' x.2) (fun x => ok x.1 ∧ ok' x.2) := by
  intro H enc w sp n cs r hcs hr; rw [List.mapM_cons] at hr
  cases h1 : DataW.trod enc P w 0 sp true n t ((cs.drop off).take (P.cellsOf t)) with
  | none => rw [h1] at hr; simp at hr
  | some x =>
    cases h2 : (fs.mapM fun f => DataW.trod enc P w 0 sp true n f.1 ((cs.drop f.2).take (P.cellsOf f.1))) with
    | none => rw [h1, h2] at hr; simp at hr
    | some xs =>
      obtain ⟨a, k1, k2⟩ := h H enc w sp n _ _ h1; obtain ⟨b, k3, k4⟩ := h' H enc w sp n cs xs hcs h2; refine ⟨(a, b), ⟨k1, k3⟩, ?_⟩; rw [hc] at k2; have := k2.app k4
      rw [← List.drop_drop, List.take_append_drop] at this; exact this
theorem mapM_map' {α β γ : Type} (g : α → β) (f : β → Option γ) : ∀ (l : List α), (l.map g).mapM f = l.mapM fun x => f (g x)
  | [] => by simp
  | a :: l => by rw [List.map_cons, List.mapM_cons, List.mapM_cons, mapM_map' g f l]
theorem Reads.struct {P : Program} {t : TypeId} {l : List (TypeId × Nat)} {tot : Nat} {α : Type} {E : α → List AV} {ok : α → Prop} (ht : sflds P t = some (l, tot))
    (h : ReadsF P l 0 tot E ok) : Reads P t E ok := by
  intro H enc w sp n cs x hx; unfold sflds at ht; split at ht
  · rename_i fs hu
    cases n with
    | zero => simp [DataW.trod] at hx
    | succ n =>
      unfold DataW.trod at hx; rw [hu] at hx; dsimp only at hx; simp only [Option.some.injEq, Prod.mk.injEq] at ht; split at hx
      · rename_i h1
        cases h2 : (fs.toList.mapM fun f => DataW.trod enc P w 0 sp true n f.type ((cs.drop f.offset).take (P.cellsOf f.type))) with
        | none => rw [h2] at hx; simp at hx
        | some xs =>
          have h3 := h H enc w sp n cs xs (h1.trans ht.2)
          rw [← ht.1, mapM_map'] at h3
          simpa using h3 h2
      · simp at hx
  · cases ht
def VReads (P : Program) (t : TypeId) {α : Type} (V : α → AV) (ok : α → Prop) : Prop :=
  ∀ (H : Type) (enc : TypeId × Value → H) (w : World) (base : Nat) (v : Value) (d : DataW H) (p : List MemPlace), Value.okWide P w .any base t v → DataW.Trod enc P w 0 (fun _ => true) true t v d p →
    ∃ a, ok a ∧ VR w (fun _ => False) nof (V a) v []
theorem Reads.agg {P : Program} {t : TypeId} {fs : Array Field} {α : Type} {E : α → List AV} {ok : α → Prop} (h : Reads P t E ok) (ht : P.underlying t = some (.struct fs)) : VReads P t (fun a => .agg (E a)) ok := by
  intro H enc w base v d p hv hd; obtain ⟨cs, rfl, _⟩ := WideShapes.okWide_struct ht hv; obtain ⟨n, hn⟩ := hd; obtain ⟨a, h1, h2⟩ := h H enc w _ n _ _ hn; refine ⟨a, h1, ?_⟩; exact .agg _ cs.toList _ h2
theorem Reads.one {P : Program} {t : TypeId} {α : Type} {V : α → AV} {ok : α → Prop} (h : Reads P t (fun a => [V a]) ok)
    (ht : P.underlying t = some .bool ∨ (∃ k, P.underlying t = some (.int k)) ∨ P.underlying t = some .string ∨ (∃ e, P.underlying t = some (.slice e))) : VReads P t V ok := by
  intro H enc w base v d p hv hd
  have hc : v.cells.toList = [v] := by
    rcases ht with ht | ⟨k, ht⟩ | ht | ⟨e, ht⟩
    · obtain ⟨_, rfl⟩ := WideShapes.okWide_bool ht hv; rfl
    · obtain ⟨_, rfl⟩ := WideShapes.okWide_int ht hv; rfl
    · obtain ⟨_, rfl⟩ := WideShapes.okWide_string ht hv; rfl
    · obtain ⟨_, _, _, rfl⟩ := WideShapes.okWide_slice ht hv; rfl
  obtain ⟨n, hn⟩ := hd; rw [hc] at hn; obtain ⟨a, h1, h2⟩ := h H enc w _ n _ _ hn; obtain ⟨u, h3, h4⟩ := CR.head h2; cases h3
  exact ⟨a, h1, h4⟩
def AReads (P : Program) (ts : List TypeId) {α : Type} (A : α → List AV) (ok : α → Prop) : Prop :=
  ∀ (H : Type) (enc : TypeId × Value → H) (w : World) (base : Nat) (vs : List Value) (ds : List (DataW H)) (p : List MemPlace), (∀ (j : Nat) t v, ts[j]? = some t → vs[j]? = some v → Value.okWide P w .any base t v) →
    DataW.TrodAll enc P w 0 (fun _ => true) true ts vs ds p → ∃ a, ok a ∧ CR w (fun _ => False) nof (A a) vs []
def isAgg (P : Program) (t : TypeId) : Bool := match P.underlying t with | some (.struct _) => true | _ => false
def isFlat (P : Program) (t : TypeId) : Bool := match P.underlying t with | some .bool | some (.int _) | some .string | some (.slice _) => true | _ => false
theorem Reads.aggV {P : Program} {t : TypeId} {α : Type} {E : α → List AV} {ok : α → Prop} (h : Reads P t E ok) (ht : isAgg P t = true) : VReads P t (fun a => .agg (E a)) ok := by
  unfold isAgg at ht; split at ht
  · rename_i e; exact h.agg e
  · cases ht
theorem Reads.oneV {P : Program} {t : TypeId} {α : Type} {V : α → AV} {ok : α → Prop} (h : Reads P t (fun a => [V a]) ok) (ht : isFlat P t = true) : VReads P t V ok := by
  unfold isFlat at ht; split at ht
  · rename_i e; exact h.one (Or.inl e)
  · rename_i e; exact h.one (Or.inr (Or.inl ⟨_, e⟩))
  · rename_i e; exact h.one (Or.inr (Or.inr (Or.inl e)))
  · rename_i e; exact h.one (Or.inr (Or.inr (Or.inr ⟨_, e⟩)))
  · cases ht
theorem AReads.nil {P : Program} : AReads P [] (fun _ : Unit => []) (fun _ => True) := by
  intro H enc w base vs ds p _ h; cases vs <;> cases ds <;> simp [DataW.TrodAll] at h
  exact ⟨(), trivial, .nil⟩
theorem AReads.cons {P : Program} {t : TypeId} {ts : List TypeId} {α β : Type} {V : α → AV} {ok : α → Prop} {A : β → List AV} {ok' : β → Prop} (h : VReads P t V ok) (h' : AReads P ts A ok') :
    AReads P (t :: ts) (fun x : α × β => V x.1 :: A x.2) (fun x => ok x.1 ∧ ok' x.2) := by
  intro H enc w base vs ds p hv hd; obtain ⟨v, vs', d, ds', q, q', rfl, rfl, rfl, h1, h2⟩ := trodAll_cons hd; obtain ⟨a, k1, k2⟩ := h H enc w base v d q (hv 0 t v rfl rfl) h1
  obtain ⟨b, k3, k4⟩ := h' H enc w base vs' ds' q' (fun j t v e1 e2 => hv (j + 1) t v e1 e2) h2; exact ⟨(a, b), ⟨k1, k3⟩, by simpa using CR.cons _ _ _ _ _ _ k2 k4⟩
theorem trodAll_below {H : Type} {enc : TypeId × Value → H} {P : Program} (hl : laidOutB P = true) {W W' : World} (hb : Below W.heap.size W W') : ∀ {ts : List TypeId} {vs : List Value} {ds : List (DataW H)} {p : List MemPlace},
    (∀ t ∈ ts, P.readableRec t = true ∧ t < P.types.size) → DataW.TrodAll enc P W 0 (fun _ => true) true ts vs ds p → (∀ x ∈ p, x.block < W.heap.size) →
    DataW.TrodAll enc P W' 0 (fun b => decide (b < W.heap.size)) true ts vs ds p ∧ vs.length = ts.length ∧ ds.length = ts.length
  | [], vs, ds, p, _, h, _ => by cases vs <;> cases ds <;> simp [DataW.TrodAll] at h ⊢; exact h
  | t :: ts, vs, ds, p, ht, h, hlt => by
    obtain ⟨v, vs', d, ds', q, q', rfl, rfl, rfl, h1, h2⟩ := trodAll_cons h; obtain ⟨k1, k2, k3⟩ := trodAll_below hl hb (fun t h => ht t (List.mem_cons_of_mem _ h)) h2 (fun x hx => hlt x (List.mem_append_right _ hx))
    have h0 := ht t (List.mem_cons_self ..)
    exact ⟨trodAll_cons_mk (Below.trod hl h0.1 h0.2 h1 hb (fun x hx => hlt x (List.mem_append_left _ hx))) k1, by simp [k2], by simp [k3]⟩
theorem Fr.below {W W' : World} (h : Fr W [] W') : Below W.heap.size W W' := ⟨h.os, h.tape, h.output, h.size, fun b hb => h.block b hb (by simp)⟩
theorem law {C : Checked} {os : Os} {f : FuncId} {fn : Func} {s : ChangeSpec} {conds : List PathCond} {H : Type} {enc : TypeId × Value → H} {α : Type} {A : α → List AV} {ok : α → Prop} {ts : List TypeId} {tb : TypeId}
    (own : ownKnob C.prog.godebug = none) (started : os.Started) (noInit : C.prog.inits.idxOf? f = none) (hfn : C.prog.funcs[f]? = some fn)
    (witness : ∃ (w : World) (tape : Tape) (i : Input), w.os = os ∧ (w.forCall tape i).Shaped C.prog ∧ i.vars = [] ∧ Input.okWide C.prog (w.forCall tape i) .any w.heap.size f i ∧
      s.pre6 enc C.prog fn conds false (w.forCall tape i).memory i.args ∧ ({} : Assume).holds C.prog (lone (Frame.enter C.prog f i.args .normal) [] (w.forCall tape i)))
    (hts : fn.params.toList = ts) (hA : AReads C.prog ts A ok) (hv : s.vars = []) (hl : laidOutB C.prog = true) (hr : (ts.all fun t => C.prog.readableRec t && decide (t < C.prog.types.size)) = true)
    (hs : ∀ (H : Type) (ds : List (DataW H)), ds.length = ts.length → s.fn H ds = { results := [.lit (.bool true)], args := ds })
    (hres : fn.resultTypes = #[tb]) (htb : C.prog.underlying tb = some .bool) (hf : ∀ a, ok a → Fn C.prog f (A a) (.bool true)) :
    ReturnsInHanded {} C os f .any (s.pre6 enc C.prog fn conds false) (s.post enc C.prog fn false true false false) := by
  refine returnsInHanded_of_change_sized own started noInit hfn witness ?_; intro W base args ds gs before hval hW hcnd hsz _; have hW' := hW
  obtain ⟨p, q, hA0, hV, rfl, hfz, hnd⟩ := hW; rw [hts] at hA0; rw [hv] at hV; have hg : gs = [] ∧ q = [] := by cases gs <;> simp [DataW.TrodVars] at hV; exact ⟨rfl, hV⟩
  obtain ⟨rfl, rfl⟩ := hg; obtain ⟨a, k1, k2⟩ := hA H enc W base args.toList ds p (fun j t v e1 e2 => hval j t v (by rw [← hts] at e1; simpa using e1) (by simpa using e2)) hA0
  refine ((hf a k1).2 W args.toList k2).mono fun e W' ⟨v, S, he, hvr, _, _, hfr⟩ => ?_; cases hvr
  have hb : Below W.heap.size W W' := hfr.below
  have hlt : ∀ x ∈ p, x.block < W.heap.size := fun x hx => by simpa using hW'.lt x (by simpa using hx)
  have hr' : ∀ t ∈ ts, C.prog.readableRec t = true ∧ t < C.prog.types.size := fun t ht => by simpa using List.all_eq_true.1 hr t ht
  obtain ⟨m1, m2, m3⟩ := trodAll_below hl hb hr' hA0 hlt; refine ⟨_, he, ds, [], p ++ [], [], p, [], hW', ?_, ?_, ?_, hb.frame _, fun h => by cases h⟩
  · rw [List.append_nil, hs H ds m3, hres]
    exact trodAll_mk1 (shut_bool htb _)
  · rw [List.append_nil, hs H ds m3, hts]
    exact m1
  · rw [List.append_nil, hs H ds m3, hv]
    rfl
end HK
