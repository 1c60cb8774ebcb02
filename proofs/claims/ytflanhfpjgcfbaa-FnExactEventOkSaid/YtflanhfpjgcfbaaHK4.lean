/-
  My own text (road H): HK4.
-/
import Derived.Test.YtflanhfpjgcfbaaHK3
import Derived.Laws.CopyRow
import Derived.Laws.Strings
namespace HK
open Go

section
variable {P : Program} {w : World} {own : Nat → Prop} {φ : Refs}

theorem run_isAgg {t : TypeId} {g : Bool} {n : Nat} (h : tk P t = some (g, n)) : (isAgg t).run P w = .ok g w := by
  unfold tk at h
  unfold isAgg
  cases hu : P.underlying t with
  | none => simp [hu] at h
  | some d =>
    cases hi : P.info? t with
    | none => cases d <;> simp [hu, hi] at h
    | some i => cases d <;> simp [hu, hi] at h <;> simp [run_underlying hu, ← h.1]
theorem run_size {t : TypeId} {g : Bool} {n : Nat} (h : tk P t = some (g, n)) : (Go.sizeOf t).run P w = .ok n w := by
  unfold tk at h
  unfold Go.sizeOf typeInfo
  cases hu : P.underlying t with
  | none => simp [hu] at h
  | some d =>
    cases hi : P.info? t with
    | none => cases d <;> simp [hu, hi] at h
    | some i => cases d <;> simp [hu, hi] at h <;> simp [hi, h.2]
theorem run_info {t : TypeId} {i : TypeInfo} (h : P.info? t = some i) : (typeInfo t).run P w = .ok i w := by simp [typeInfo, h]
theorem run_sizeI {t : TypeId} {i : TypeInfo} (h : P.info? t = some i) : (Go.sizeOf t).run P w = .ok i.size w := by simp [Go.sizeOf, run_info h]

theorem plain_nil {v : AV} {x : Value} {S : List Nat} (h : VR w own φ v x S) (hp : plain v = true) : S = [] := by
  cases h <;> first | rfl | simp [plain] at hp
theorem plain_nils : ∀ {cs : List AV} {vs : List Value} {S : List Nat}, CR w own φ cs vs S → cs.all plain = true → S = []
  | _, _, _, .nil, _ => rfl
  | _, _, _, .cons a v S as vs T h h', hp => by
    simp only [List.all_cons, Bool.and_eq_true] at hp
    rw [plain_nil h hp.1, plain_nils h' hp.2]; rfl

theorem add_add (A : Addr) (m n : Nat) : (A.add m).add n = A.add (m + n) := by
  unfold Addr.add
  by_cases h1 : m = 0
  · subst h1; simp
  · by_cases h2 : n = 0
    · subst h2; simp
    · simp [h1, h2, Nat.add_assoc]
theorem add_row (rb o n : Nat) : (⟨rb, o, none⟩ : Addr).add n = ⟨rb, o + n, none⟩ := by unfold Addr.add; split <;> simp_all
theorem Seg.split {A : Addr} {v1 v2 v3 : List Value} (h : Seg w A (v1 ++ (v2 ++ v3))) : Seg w (A.add v1.length) v2 := by
  intro n v hv
  rw [add_add]
  refine h _ _ ?_
  rw [List.getElem?_append_right (by omega), Nat.add_sub_cancel_left]
  rw [List.getElem?_append_left (by have := (List.getElem?_eq_some_iff.1 hv).1; omega)]
  exact hv

/-- Reading cells out of a uniform row. -/
theorem row_read {es : List (List AV)} {sz i j n : Nat} {A : Addr} {vs : List Value} {S : List Nat} (hu : ∀ e ∈ es, e.length = sz) (hs : Seg w A vs) (h : CR w own φ es.flatten vs S) (hi : i < es.length) (hj : j + n ≤ sz) :
    ∃ v2 S2, Seg w (A.add (i * sz + j)) v2 ∧ v2.length = n ∧ CR w own φ (cellsAt (es.getD i []) j n) v2 S2 ∧ ∀ b ∈ S2, b ∈ S := by
  obtain ⟨e, hl, hn⟩ := flat_cells hu hi hj
  rw [e] at h
  obtain ⟨v1, v2', S1, S2', rfl, rfl, h1, h2⟩ := h.split
  obtain ⟨v2, v3, S2, S3, rfl, rfl, h2, h3⟩ := h2.split
  refine ⟨v2, S2, ?_, ?_, h2, ?_⟩
  · rw [← hl, h1.length]; exact hs.split
  · rw [← h2.length]; exact hn
  · intro b hb; simp [hb]

theorem load_cells {t : TypeId} {g : Bool} {n : Nat} (ht : tk P t = some (g, n)) (hg : g = false → n = 1) {A : Addr} {vs : List Value} (hs : Seg w A vs) (hn : vs.length = n) {cs : List AV} (h : CR w own φ cs vs []) :
    ∃ y, (loadVar t A).run P w = .ok y w ∧ VR w own φ (asV g cs) y [] := by
  cases g with
  | true =>
    refine ⟨.agg vs.toArray, ?_, ?_⟩
    · simp only [loadVar, Sem.run_bind, run_isAgg ht, Result.andThen_ok, if_true, run_size ht]
      rw [← hn, run_loadCells_list w A vs hs]; rfl
    · exact .agg _ _ _ h
  | false =>
    have := hg rfl
    obtain ⟨y, rfl⟩ : ∃ y, vs = [y] := by
      match vs, hn.trans this with
      | [y], _ => exact ⟨y, rfl⟩
    obtain ⟨c, rfl⟩ : ∃ c, cs = [c] := by
      match cs, h.length with
      | [c], _ => exact ⟨c, rfl⟩
    refine ⟨y, ?_, ?_⟩
    · have hc := hs 0 y rfl
      have : A.add 0 = A := rfl
      rw [this] at hc
      simp [loadVar, run_isAgg ht, hc]
    · obtain ⟨v, e, h⟩ := h.head
      cases e; exact h

theorem loadV_sound {h : Heap} {Ss : List (List Nat)} (hh : HR w own φ h Ss) {t : TypeId} {g : Bool} {n : Nat} (ht : tk P t = some (g, n)) {v : AV} {x : Value} (hv : VR w own φ v x []) (ok : (loadV h g n v).1) :
    ∃ y, (Instr.loadAt t x).run P w = .ok y w ∧ VR w own φ (loadV h g n v).2 y [] := by
  cases hv with
  | ptr id i j r hr =>
    simp only [loadV] at ok ⊢
    cases hb' : hb h id with
    | none => simp [hb'] at ok
    | some b =>
      simp only [hb'] at ok ⊢
      obtain ⟨hi, hj, hp, hg⟩ := ok
      have hid : h[id]? = some (some b) := by
        unfold hb at hb'; split at hb' <;> simp_all
      obtain ⟨S, hS, hB⟩ := hh id b hid
      rcases hB with ⟨h1, h2, h3⟩ | ⟨r', vs, T, h1, h2, h3, h4, h5, h6, h7, rfl⟩
      · rw [h2] at hi; simp at hi
      · rw [hr] at h1; cases h1
        obtain ⟨v2, S2, hs2, hl2, hc2, _⟩ := row_read h4 h6 h7 hi hj
        have := plain_nils hc2 hp
        subst this
        rw [add_row] at hs2
        obtain ⟨y, hy, hvr⟩ := load_cells ht hg hs2 hl2 hc2
        refine ⟨y, ?_, hvr⟩
        rw [h2, Nat.add_assoc]
        simpa [Instr.loadAt, Instr.sureAddr] using hy
  | fptr es sz A vs i j hlt ho hu hs hc =>
    simp only [loadV] at ok ⊢
    obtain ⟨hi, hj, hg⟩ := ok
    rw [(flat_split hu hi).2.2] at hj
    obtain ⟨v2, S2, hs2, hl2, hc2, hsub⟩ := row_read hu hs hc hi hj
    have : S2 = [] := by
      cases S2 with
      | nil => rfl
      | cons b _ => have := hsub b (List.mem_cons_self ..); simp at this
    subst this
    obtain ⟨y, hy, hvr⟩ := load_cells ht hg hs2 hl2 hc2
    exact ⟨y, by simpa [Instr.loadAt, Instr.sureAddr] using hy, hvr.up⟩
  | _ => simp [loadV] at ok

theorem toff_run {s : TypeId} {f off : Nat} (h : toff P s f = some off) (a : Addr) : (Instr.fieldAt s (.pointer (some a)) f).run P w = .ok (.pointer (some (a.add off))) w := by
  unfold toff at h
  split at h
  · rename_i fs hu
    split at h
    · rename_i d hd
      split at h
      · rename_i i hi
        split at h
        · cases h
        · cases h
          rename_i hsz
          simp [Instr.fieldAt, run_underlying hu, hd, Instr.sureAddr, fieldPlace, run_sizeI hi, hsz]
      · cases h
    · cases h
  · cases h
theorem fieldV_sound {s : TypeId} {f off : Nat} (ht : toff P s f = some off) {v : AV} {x : Value} (hv : VR w own φ v x []) (ok : (fieldV off v).1) :
    ∃ y, (Instr.fieldAt s x f).run P w = .ok y w ∧ VR w own φ (fieldV off v).2 y [] := by
  cases hv with
  | ptr id i j r hr =>
    refine ⟨_, toff_run ht _, ?_⟩
    rw [add_row, Nat.add_assoc]
    exact .ptr id i (j + off) r hr
  | fptr es sz A vs i j hlt ho hu hs hc =>
    refine ⟨_, toff_run ht _, ?_⟩
    rw [add_add, Nat.add_assoc]
    exact .fptr es sz A vs i (j + off) hlt ho hu hs hc
  | _ => simp [fieldV] at ok

theorem tel_spec {t : TypeId} {sz bytes : Nat} (h : tel P t = some (sz, bytes)) : ∃ e i, P.underlying t = some (.slice e) ∧ P.info? e = some i ∧ i.size = sz ∧ i.bytes = bytes := by
  unfold tel at h
  split at h
  · rename_i e hu
    split at h
    · rename_i i hi; cases h; exact ⟨e, i, hu, hi, rfl, rfl⟩
    · cases h
  · cases h
theorem indexV_sound {h : Heap} {Ss : List (List Nat)} (hh : HR w own φ h Ss) {t : TypeId} {sz bytes : Nat} (ht : tel P t = some (sz, bytes)) {v : AV} {x : Value} {k : IntKind} {n : Int} (hv : VR w own φ v x []) (ok : (indexV h sz n v).1) :
    ∃ y, (Instr.indexAt t x (.int k n)).run P w = .ok y w ∧ VR w own φ (indexV h sz n v).2 y [] := by
  obtain ⟨e, i, hu, hi, hsz, -⟩ := tel_spec ht
  cases hv with
  | sl id off len cap r hr hcap hlim =>
    simp only [indexV] at ok ⊢
    cases hb' : hb h id with
    | none => simp [hb'] at ok
    | some b =>
      simp only [hb'] at ok ⊢
      obtain ⟨h0, h1, h2⟩ := ok
      have hid : h[id]? = some (some b) := by
        unfold hb at hb'; split at hb' <;> simp_all
      obtain ⟨S, hS, hB⟩ := hh id b hid
      have hrs : r.sz = sz := by
        rcases hB with ⟨h1, _, _⟩ | ⟨r', vs, T, h1, h3, _⟩
        · rw [hr] at h1; cases h1
        · rw [hr] at h1; cases h1; rw [h3, h2]
      refine ⟨.pointer (some (Addr.add ⟨r.rb, r.base + off * r.sz, none⟩ (n.toNat * sz))), ?_, ?_⟩
      · simp [Instr.indexAt, asIntOf, run_underlying hu, run_sizeI hi, hsz, h0, h1]
      · rw [add_row]
        have := VR.ptr (w := w) (own := own) (φ := φ) id (off + n.toNat) 0 r hr
        rw [hrs] at this ⊢
        rw [Nat.add_zero, Nat.add_mul, ← Nat.add_assoc] at this
        exact this
  | sl0 id off r A hr =>
    simp only [indexV] at ok
    split at ok
    · obtain ⟨h0, h1, _⟩ := ok; simp at h1; omega
    · exact ok.elim
  | fz es sz' A cap vs hlt ho hu' hcap hs hc =>
    simp only [indexV] at ok ⊢
    obtain ⟨h0, h1, h2⟩ := ok
    have hlt' : n.toNat < es.length := by omega
    rw [(flat_split hu' hlt').2.2] at h2
    subst h2
    refine ⟨.pointer (some (A.add (n.toNat * sz'))), ?_, ?_⟩
    · simp [Instr.indexAt, asIntOf, run_underlying hu, run_sizeI hi, hsz, h0, h1]
    · exact .fptr es sz' A vs n.toNat 0 hlt ho hu' hs hc
  | fz0 A cap =>
    simp only [indexV] at ok
    obtain ⟨h0, h1, h2⟩ := ok
    simp at h1; omega
  | _ => simp [indexV] at ok

/-! ### numbers, texts, Bools -/
theorem binI_sound {op : BinOp} {k : IntKind} {a b : Int} {t : TypeId} (ok : (binI op k a b).1) (hne1 : op ≠ .shl) (hne2 : op ≠ .shr) : ∃ y, (binOp op t (.int k a) (.int k b)).run P w = .ok y w ∧ VR w own φ (binI op k a b).2 y [] := by
  cases op
  case shl => exact absurd rfl hne1
  case shr => exact absurd rfl hne2
  case add => exact ⟨_, (by simp [binOp, Op.intArith]), VR.int _ _⟩
  case sub => exact ⟨_, (by simp [binOp, Op.intArith]), VR.int _ _⟩
  case mul => exact ⟨_, (by simp [binOp, Op.intArith]), VR.int _ _⟩
  case quo => exact ⟨_, (by simp only [binI] at ok; simp [binOp, Op.intDiv, ok]), VR.int _ _⟩
  case rem => exact ⟨_, (by simp only [binI] at ok; simp [binOp, Op.intDiv, ok]), VR.int _ _⟩
  case and => exact ⟨_, (by simp only [binOp, ne_eq, not_true_eq_false, ite_false]; rfl), VR.int _ _⟩
  case or => exact ⟨_, (by simp only [binOp, ne_eq, not_true_eq_false, ite_false]; rfl), VR.int _ _⟩
  case xor => exact ⟨_, (by simp only [binOp, ne_eq, not_true_eq_false, ite_false]; rfl), VR.int _ _⟩
  case andNot => exact ⟨_, (by simp only [binOp, ne_eq, not_true_eq_false, ite_false]; rfl), VR.int _ _⟩
  case eql => exact ⟨.bool (a == b), (by simp [binOp, Op.intCmp]), VR.bool _⟩
  case neq => exact ⟨.bool (a != b), (by simp [binOp, Op.intCmp]), VR.bool _⟩
  case lss => exact ⟨.bool (decide (a < b)), (by simp [binOp, Op.intCmp]), VR.bool _⟩
  case leq => exact ⟨.bool (decide (a ≤ b)), (by simp [binOp, Op.intCmp]), VR.bool _⟩
  case gtr => exact ⟨.bool (decide (b < a)), (by simp [binOp, Op.intCmp]), VR.bool _⟩
  case geq => exact ⟨.bool (decide (b ≤ a)), (by simp [binOp, Op.intCmp]), VR.bool _⟩
theorem data_eq (x y : ByteArray) : (x.toList == y.toList) = decide (x = y) := by
  have h : ∀ z : ByteArray, z.toList = z.data.toList := fun z => ByteArray.toList_eq z
  rw [h, h, Bool.eq_iff_iff]
  simp only [beq_iff_eq, decide_eq_true_eq]
  exact ⟨fun e => ByteArray.ext (Array.ext' e), fun e => by rw [e]⟩
end
end HK
