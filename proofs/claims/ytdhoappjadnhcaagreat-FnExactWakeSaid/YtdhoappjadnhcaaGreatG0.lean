import Derived.Below
import Derived.Tactics
import Derived.Orders
import Derived.Still
import Derived.Laws.CopyRow
import Derived.Laws.Strings
import Derived.Laws.StructEq
import Derived.Laws.BytesString
/-
  My own texts (road H): HK1 HK2 HK3 HK4 HK5 HK6 HK7 HK8.
-/
set_option maxHeartbeats 8000000
namespace HK
open Go
inductive AV where
  | undef
  | nil
  | bool (b : Bool)
  | int (k : IntKind) (n : Int)
  | str (s : ByteArray)
  | con (v : Value)
  | fz (es : List (List AV))
  | own (sz : Nat) (es : List (List AV))
  | sl (id off len : Nat)
  | ptr (id i j : Nat)
  | fptr (es : List (List AV)) (i j : Nat)
  | agg (cs : List AV)
  | tup (vs : List AV)
  | fn (f : Go.Fn) (first cap : List AV)
  | cond (g : Bool) (v : AV)
structure Ref where
  rb : Nat
  base : Nat
  lim : Nat
  sz : Nat
abbrev Refs := Nat → Option (Option Ref)
def RowAt (w : World) (rb lim : Nat) : Prop := ∃ c T, w.heap[rb]? = some (.cells c T (0, 0)) ∧ c.size = lim
def Seg (w : World) (A : Addr) (vs : List Value) : Prop := ∀ n v, vs[n]? = some v → w.cell? (A.add n) = some v
theorem RowAt.of {w w' : World} {rb lim : Nat} (h : RowAt w rb lim) (e : w'.heap[rb]? = w.heap[rb]?) : RowAt w' rb lim := by
  obtain ⟨c, T, h1, h2⟩ := h; exact ⟨c, T, e.trans h1, h2⟩
theorem cell_of {w w' : World} {A : Addr} (e : w'.heap[A.block]? = w.heap[A.block]?) : w'.cell? A = w.cell? A := by
  unfold World.cell?; rw [e]
theorem add_block (A : Addr) (n : Nat) : (A.add n).block = A.block := by unfold Addr.add; split <;> rfl
theorem Seg.of {w w' : World} {A : Addr} {vs : List Value} (h : Seg w A vs) (e : w'.heap[A.block]? = w.heap[A.block]?) : Seg w' A vs :=
  fun n v hv => (cell_of (by rw [add_block]; exact e)).trans (h n v hv)
abbrev nof : Refs := fun _ => none
mutual
inductive VR (w : World) (own : Nat → Prop) : Refs → AV → Value → List Nat → Prop
  | undef {φ} (v : Value) : VR w own φ .undef v []
  | nil {φ} (A : Option Addr) : VR w own φ .nil (.slice A 0 0) []
  | bool {φ} (b : Bool) : VR w own φ (.bool b) (.bool b) []
  | int {φ} (k : IntKind) (n : Int) : VR w own φ (.int k n) (.int k n) []
  | str {φ} (s : ByteArray) : VR w own φ (.str s) (.string s) []
  | con {φ} (v : Value) : VR w own φ (.con v) v []
  | fz0 {φ} (A : Option Addr) (cap : Nat) : VR w own φ (.fz []) (.slice A 0 cap) []
  | fz {φ} (es : List (List AV)) (sz : Nat) (A : Addr) (cap : Nat) (vs : List Value) (hlt : A.block < w.heap.size) (ho : ¬ own A.block) (hu : ∀ e ∈ es, e.length = sz)
      (hcap : es.length ≤ cap) (hs : Seg w A vs) (h : CR w own nof es.flatten vs []) : VR w own φ (.fz es) (.slice (some A) es.length cap) []
  | own0 {φ} (sz : Nat) (A : Option Addr) : VR w own φ (.own sz []) (.slice A 0 0) []
  | own {φ} (es : List (List AV)) (sz rb o cap lim : Nat) (vs : List Value) (S : List Nat) (hr : RowAt w rb lim) (hu : ∀ e ∈ es, e.length = sz) (hcap : es.length ≤ cap)
      (hlim : o + cap * sz ≤ lim) (hs : Seg w ⟨rb, o, none⟩ vs) (h : CR w own nof es.flatten vs S) : VR w own φ (.own sz es) (.slice (some ⟨rb, o, none⟩) es.length cap) (rb :: S)
  | sl0 {φ} (id off : Nat) (r : Option Ref) (A : Option Addr) (h : φ id = some r) : VR w own φ (.sl id off 0) (.slice A 0 0) []
  | sl {φ} (id off len cap : Nat) (r : Ref) (h : φ id = some (some r)) (hcap : len ≤ cap) (hlim : r.base + (off + cap) * r.sz ≤ r.lim) :
      VR w own φ (.sl id off len) (.slice (some ⟨r.rb, r.base + off * r.sz, none⟩) len cap) []
  | ptr {φ} (id i j : Nat) (r : Ref) (h : φ id = some (some r)) : VR w own φ (.ptr id i j) (.pointer (some ⟨r.rb, r.base + i * r.sz + j, none⟩)) []
  | fptr {φ} (es : List (List AV)) (sz : Nat) (A : Addr) (vs : List Value) (i j : Nat) (hlt : A.block < w.heap.size) (ho : ¬ own A.block) (hu : ∀ e ∈ es, e.length = sz)
      (hs : Seg w A vs) (h : CR w own nof es.flatten vs []) : VR w own φ (.fptr es i j) (.pointer (some (A.add (i * sz + j)))) []
  | agg {φ} (cs : List AV) (vs : List Value) (S : List Nat) (h : CR w own φ cs vs S) : VR w own φ (.agg cs) (.agg vs.toArray) S
  | tup {φ} (cs : List AV) (vs : List Value) (S : List Nat) (h : CR w own φ cs vs S) : VR w own φ (.tup cs) (.tuple vs.toArray) S
  | fn {φ} (f : Go.Fn) (first cap : List AV) (fs cs : List Value) (h : CR w own φ first fs []) (h' : CR w own φ cap cs []) : VR w own φ (.fn f first cap) (.func f fs.toArray cs.toArray) []
  | condT {φ} (v : AV) (x : Value) (S : List Nat) (h : VR w own φ v x S) : VR w own φ (.cond true v) x S
  | condF {φ} (v : AV) : VR w own φ (.cond false v) Go.undef []
inductive CR (w : World) (own : Nat → Prop) : Refs → List AV → List Value → List Nat → Prop
  | nil {φ} : CR w own φ [] [] []
  | cons {φ} (a : AV) (v : Value) (S : List Nat) (as : List AV) (vs : List Value) (T : List Nat) (h : VR w own φ a v S) (h' : CR w own φ as vs T) : CR w own φ (a :: as) (v :: vs) (S ++ T)
end
section tr
variable {w w' : World} {own own' : Nat → Prop}
mutual
theorem VR.tr (hfz : ∀ b, b < w.heap.size → ¬ own b → ¬ own' b ∧ w'.heap[b]? = w.heap[b]?) (hsz : w.heap.size ≤ w'.heap.size) :
    ∀ {φ φ' : Refs} {v : AV} {x : Value} {S : List Nat}, (∀ id r, φ id = some r → φ' id = some r) → VR w own φ v x S → (∀ b ∈ S, w'.heap[b]? = w.heap[b]?) → VR w' own' φ' v x S
  | _, _, _, _, _, _, .undef v, _ => .undef v
  | _, _, _, _, _, _, .nil A, _ => .nil A
  | _, _, _, _, _, _, .bool b, _ => .bool b
  | _, _, _, _, _, _, .int k n, _ => .int k n
  | _, _, _, _, _, _, .str s, _ => .str s
  | _, _, _, _, _, _, .con v, _ => .con v
  | _, _, _, _, _, _, .fz0 A cap, _ => .fz0 A cap
  | _, _, _, _, _, _, .fz es sz A cap vs hlt ho hu hcap hs h, _ =>
    .fz es sz A cap vs (Nat.lt_of_lt_of_le hlt hsz) (hfz _ hlt ho).1 hu hcap (hs.of (hfz _ hlt ho).2) (CR.tr hfz hsz (fun _ _ e => e) h (fun _ hb => by cases hb))
  | _, _, _, _, _, _, .own0 sz A, _ => .own0 sz A
  | _, _, _, _, _, _, .own es sz rb o cap lim vs S hr hu hcap hlim hs h, hS =>
    .own es sz rb o cap lim vs S (hr.of (hS _ (List.mem_cons_self ..))) hu hcap hlim (hs.of (hS _ (List.mem_cons_self ..))) (CR.tr hfz hsz (fun _ _ e => e) h (fun b hb => hS b (List.mem_cons_of_mem _ hb)))
  | _, _, _, _, _, hφ, .sl0 id off r A h, _ => .sl0 id off r A (hφ _ _ h)
  | _, _, _, _, _, hφ, .sl id off len cap r h hcap hlim, _ => .sl id off len cap r (hφ _ _ h) hcap hlim
  | _, _, _, _, _, hφ, .ptr id i j r h, _ => .ptr id i j r (hφ _ _ h)
  | _, _, _, _, _, _, .fptr es sz A vs i j hlt ho hu hs h, _ =>
    .fptr es sz A vs i j (Nat.lt_of_lt_of_le hlt hsz) (hfz _ hlt ho).1 hu (hs.of (hfz _ hlt ho).2) (CR.tr hfz hsz (fun _ _ e => e) h (fun _ hb => by cases hb))
  | _, _, _, _, _, hφ, .agg cs vs S h, hS => .agg cs vs S (CR.tr hfz hsz hφ h hS)
  | _, _, _, _, _, hφ, .tup cs vs S h, hS => .tup cs vs S (CR.tr hfz hsz hφ h hS)
  | _, _, _, _, _, hφ, .fn f first cap fs cs h h', _ => .fn f first cap fs cs (CR.tr hfz hsz hφ h (fun _ hb => by cases hb)) (CR.tr hfz hsz hφ h' (fun _ hb => by cases hb))
  | _, _, _, _, _, hφ, .condT v x S h, hS => .condT v x S (VR.tr hfz hsz hφ h hS)
  | _, _, _, _, _, _, .condF v, _ => .condF v
theorem CR.tr (hfz : ∀ b, b < w.heap.size → ¬ own b → ¬ own' b ∧ w'.heap[b]? = w.heap[b]?) (hsz : w.heap.size ≤ w'.heap.size) :
    ∀ {φ φ' : Refs} {v : List AV} {x : List Value} {S : List Nat}, (∀ id r, φ id = some r → φ' id = some r) → CR w own φ v x S → (∀ b ∈ S, w'.heap[b]? = w.heap[b]?) → CR w' own' φ' v x S
  | _, _, _, _, _, _, .nil, _ => .nil
  | _, _, _, _, _, hφ, .cons a v S as vs T h h', hS =>
    .cons a v S as vs T (VR.tr hfz hsz hφ h (fun b hb => hS b (List.mem_append_left _ hb))) (CR.tr hfz hsz hφ h' (fun b hb => hS b (List.mem_append_right _ hb)))
end
theorem VR.up {φ : Refs} {v : AV} {x : Value} {S : List Nat} (h : VR w own nof v x S) : VR w own φ v x S := VR.tr (fun _ _ ho => ⟨ho, rfl⟩) (Nat.le_refl _) (fun _ _ e => by cases e) h (fun _ _ => rfl)
theorem CR.up {φ : Refs} {v : List AV} {x : List Value} {S : List Nat} (h : CR w own nof v x S) : CR w own φ v x S := CR.tr (fun _ _ ho => ⟨ho, rfl⟩) (Nat.le_refl _) (fun _ _ e => by cases e) h (fun _ _ => rfl)
end tr
end HK
namespace HK
open Go
theorem CR.app {w : World} {own : Nat → Prop} {φ : Refs} : ∀ {as bs : List AV} {vs us : List Value} {S T : List Nat}, CR w own φ as vs S → CR w own φ bs us T → CR w own φ (as ++ bs) (vs ++ us) (S ++ T)
  | _, _, _, _, _, _, .nil, k => k
  | _, _, _, _, _, _, .cons a v S as vs T h h', k => by
    rw [List.append_assoc]; exact .cons a v S _ _ _ h (CR.app h' k)
theorem CR.split {w : World} {own : Nat → Prop} {φ : Refs} : ∀ {as bs : List AV} {vs : List Value} {S : List Nat}, CR w own φ (as ++ bs) vs S →
    ∃ v1 v2 S1 S2, vs = v1 ++ v2 ∧ S = S1 ++ S2 ∧ CR w own φ as v1 S1 ∧ CR w own φ bs v2 S2
  | [], _, vs, S, h => ⟨[], vs, [], S, rfl, rfl, .nil, h⟩
  | a :: as, bs, _, _, .cons _ v S _ vs T h h' => by
    obtain ⟨v1, v2, S1, S2, rfl, rfl, h1, h2⟩ := CR.split (as := as) h'; exact ⟨v :: v1, v2, S ++ S1, S2, rfl, by rw [List.append_assoc], .cons _ _ _ _ _ _ h h1, h2⟩
theorem CR.length {w : World} {own : Nat → Prop} {φ : Refs} : ∀ {as : List AV} {vs : List Value} {S : List Nat}, CR w own φ as vs S → as.length = vs.length
  | _, _, _, .nil => rfl
  | _, _, _, .cons _ _ _ _ _ _ _ h' => congrArg (· + 1) (CR.length h')
theorem CR.one {w : World} {own : Nat → Prop} {φ : Refs} {a : AV} {v : Value} {S : List Nat} (h : VR w own φ a v S) : CR w own φ [a] [v] S := by
  have := CR.cons a v S [] [] [] h .nil
  rwa [List.append_nil] at this
theorem CR.head {w : World} {own : Nat → Prop} {φ : Refs} {a : AV} {vs : List Value} {S : List Nat} (h : CR w own φ [a] vs S) : ∃ v, vs = [v] ∧ VR w own φ a v S := by
  cases h with
  | cons _ v S _ _ T h h' => cases h'; exact ⟨v, rfl, by rwa [List.append_nil]⟩
theorem CR.uncons {w : World} {own : Nat → Prop} {φ : Refs} {a : AV} {as : List AV} {vs : List Value} {S : List Nat} (h : CR w own φ (a :: as) vs S) :
    ∃ v us S1 S2, vs = v :: us ∧ S = S1 ++ S2 ∧ VR w own φ a v S1 ∧ CR w own φ as us S2 := by
  cases h with
  | cons _ v S _ us T h h' => exact ⟨v, us, S, T, rfl, rfl, h, h'⟩
theorem CR.get {w : World} {own : Nat → Prop} {φ : Refs} {a : AV} : ∀ {as : List AV} {vs : List Value} {S : List Nat} {k : Nat}, CR w own φ as vs S → as[k]? = some a → ∃ v S', vs[k]? = some v ∧ VR w own φ a v S' ∧ ∀ b ∈ S', b ∈ S
  | _, _, _, _, .nil, h => by simp at h
  | _, _, _, 0, .cons _ v S _ _ T h _, e => by
    simp at e; subst e; exact ⟨v, S, rfl, h, fun b hb => List.mem_append_left _ hb⟩
  | _, _, _, k + 1, .cons _ v S _ vs T h h', e => by
    obtain ⟨v, S', h1, h2, h3⟩ := CR.get (k := k) h' (by simpa using e); exact ⟨v, S', by simpa using h1, h2, fun b hb => List.mem_append_right _ (h3 b hb)⟩
theorem flat_length {sz : Nat} : ∀ {es : List (List AV)}, (∀ e ∈ es, e.length = sz) → es.flatten.length = es.length * sz
  | [], _ => by simp
  | e :: es, h => by
    have := flat_length (es := es) fun x hx => h x (List.mem_cons_of_mem _ hx)
    simp only [List.flatten_cons, List.length_append, this, h e (List.mem_cons_self ..), List.length_cons]; rw [Nat.add_mul]; omega
theorem flat_split {sz : Nat} {es : List (List AV)} (hu : ∀ e ∈ es, e.length = sz) {i : Nat} (hi : i < es.length) :
    es.flatten = (es.take i).flatten ++ (es.getD i [] ++ (es.drop (i + 1)).flatten) ∧ (es.take i).flatten.length = i * sz ∧ (es.getD i []).length = sz := by
  refine ⟨?_, ?_, ?_⟩
  · rw [← List.flatten_cons, ← List.flatten_append]
    congr 1
    rw [List.getD_eq_getElem?_getD, List.getElem?_eq_getElem hi, Option.getD_some, List.getElem_cons_drop, List.take_append_drop]
  · rw [flat_length (sz := sz) fun e he => hu e (List.mem_of_mem_take he), List.length_take, Nat.min_eq_left (by omega)]
  · rw [List.getD_eq_getElem?_getD, List.getElem?_eq_getElem hi, Option.getD_some]; exact hu _ (List.getElem_mem hi)
theorem flat_set {es : List (List AV)} {i : Nat} (hi : i < es.length) (e : List AV) :
    (es.set i e).flatten = (es.take i).flatten ++ (e ++ (es.drop (i + 1)).flatten) := by
  rw [← List.flatten_cons, ← List.flatten_append]
  congr 1
  rw [List.set_eq_take_append_cons_drop, if_pos hi]
theorem flat_cells {sz : Nat} {es : List (List AV)} (hu : ∀ e ∈ es, e.length = sz) {i j m : Nat} (hi : i < es.length) (hj : j + m ≤ sz) :
    es.flatten = ((es.take i).flatten ++ (es.getD i []).take j) ++ ((((es.getD i []).drop j).take m) ++ (((es.getD i []).drop (j + m)) ++ (es.drop (i + 1)).flatten)) ∧
      ((es.take i).flatten ++ (es.getD i []).take j).length = i * sz + j ∧ (((es.getD i []).drop j).take m).length = m := by
  obtain ⟨h1, h2, h3⟩ := flat_split hu hi; refine ⟨?_, ?_, ?_⟩
  · rw [h1]
    simp only [List.append_assoc]
    congr 1
    rw [← List.append_assoc, ← List.append_assoc]
    congr 1
    rw [List.append_assoc]
    conv => lhs; rw [← List.take_append_drop j (es.getD i [])]
    congr 1
    conv => lhs; rw [← List.take_append_drop m ((es.getD i []).drop j)]
    rw [List.drop_drop]
  · rw [List.length_append, h2, List.length_take, h3, Nat.min_eq_left (by omega)]
  · rw [List.length_take, List.length_drop, h3, Nat.min_eq_left (by omega)]
def splice (l : List AV) (j : Nat) (xs : List AV) : List AV := l.take j ++ (xs ++ l.drop (j + xs.length))
theorem flat_splice {es : List (List AV)} {i j : Nat} (hi : i < es.length) (xs : List AV) :
    (es.set i (splice (es.getD i []) j xs)).flatten = ((es.take i).flatten ++ (es.getD i []).take j) ++ (xs ++ (((es.getD i []).drop (j + xs.length)) ++ (es.drop (i + 1)).flatten)) := by
  rw [flat_set hi]; simp [splice, List.append_assoc]
theorem splice_length {l : List AV} {j : Nat} {xs : List AV} (h : j + xs.length ≤ l.length) : (splice l j xs).length = l.length := by
  simp [splice]; omega
structure Blk where
  sz : Nat
  es : List (List AV)
abbrev Heap := List (Option Blk)
def BR (w : World) (own : Nat → Prop) (φ : Refs) (id : Nat) (b : Blk) (S : List Nat) : Prop :=
  (φ id = some none ∧ b.es = [] ∧ S = []) ∨
  ∃ r vs T, φ id = some (some r) ∧ r.sz = b.sz ∧ RowAt w r.rb r.lim ∧ (∀ e ∈ b.es, e.length = b.sz) ∧ r.base + b.es.length * b.sz ≤ r.lim ∧
    Seg w ⟨r.rb, r.base, none⟩ vs ∧ CR w own φ b.es.flatten vs T ∧ S = r.rb :: T
def HR (w : World) (own : Nat → Prop) (φ : Refs) (h : Heap) (Ss : List (List Nat)) : Prop :=
  ∀ id b, h[id]? = some (some b) → ∃ S, Ss[id]? = some S ∧ BR w own φ id b S
theorem BR.tr {w w' : World} {own own' : Nat → Prop} {φ φ' : Refs} {id : Nat} {b : Blk} {S : List Nat}
    (hfz : ∀ b, b < w.heap.size → ¬ own b → ¬ own' b ∧ w'.heap[b]? = w.heap[b]?) (hsz : w.heap.size ≤ w'.heap.size) (hφ : ∀ id r, φ id = some r → φ' id = some r)
    (h : BR w own φ id b S) (hS : ∀ b ∈ S, w'.heap[b]? = w.heap[b]?) : BR w' own' φ' id b S := by
  rcases h with ⟨h1, h2, h3⟩ | ⟨r, vs, T, h1, h2, h3, h4, h5, h6, h7, rfl⟩
  · exact .inl ⟨hφ _ _ h1, h2, h3⟩
  · exact .inr ⟨r, vs, T, hφ _ _ h1, h2, h3.of (hS _ (List.mem_cons_self ..)), h4, h5, h6.of (hS _ (List.mem_cons_self ..)),
      CR.tr hfz hsz hφ h7 (fun b hb => hS b (List.mem_cons_of_mem _ hb)), rfl⟩
end HK
namespace HK
open Go
def tk (P : Program) (t : TypeId) : Option (Bool × Nat) :=
  match P.underlying t, P.info? t with
  | some (.struct _), some i | some (.array _ _), some i => some (true, i.size)
  | some _, some i => some (false, i.size)
  | _, _ => none
def toff (P : Program) (s : TypeId) (f : Nat) : Option Nat :=
  match P.underlying s with
  | some (.struct fs) => match fs[f]? with
    | some d => match P.info? d.type with
      | some i => if i.size = 0 then none else some d.offset
      | none => none
    | none => none
  | _ => none
def tfld (P : Program) (s : TypeId) (f : Nat) : Option (Nat × Bool × Nat) :=
  match P.underlying s with
  | some (.struct fs) => match fs[f]? with
    | some d => match tk P d.type with
      | some (g, n) => some (d.offset, g, n)
      | none => none
    | none => none
  | _ => none
def tel (P : Program) (t : TypeId) : Option (Nat × Nat) :=
  match P.underlying t with
  | some (.slice e) => match P.info? e with
    | some i => some (i.size, i.bytes)
    | none => none
  | _ => none
def tint (P : Program) (t : TypeId) : Option IntKind :=
  match P.underlying t with
  | some (.int k) => some k
  | _ => none
def tstr (P : Program) (t : TypeId) : Bool := match P.underlying t with | some .string => true | _ => false
abbrev Env := List (Nat × AV)
def lk : Env → Nat → AV
  | [], _ => .undef
  | (k, v) :: e, t => if t = k then v else lk e t
def absC : Value → AV
  | .bool b => .bool b
  | .int k n => .int k n
  | .string s => .str s
  | .slice _ 0 0 => .nil
  | v => .con v
def absV : Value → AV
  | .agg cs => .agg (cs.toList.map absC)
  | v => absC v
def ev (env : Env) : Operand → AV
  | .tmp t => lk env t
  | .const v => absV v
  | .global g => .con (.pointer (some ⟨g, 0, none⟩))
  | .func f => .fn (.func f) [] []
def st1 : AV → AV
  | .cond _ v => v
  | v => v
def gk : AV → Prop
  | .cond g _ => g = true
  | _ => True
section
variable {w : World} {own : Nat → Prop} {φ : Refs}
theorem VR.absC (v : Value) : VR w own φ (absC v) v [] := by
  unfold HK.absC; split
  · exact .bool _
  · exact .int _ _
  · exact .str _
  · exact .nil _
  · exact .con _
theorem CR.absC : ∀ (l : List Value), CR w own φ (l.map HK.absC) l []
  | [] => .nil
  | v :: l => by have := CR.cons _ _ _ _ _ _ (VR.absC (w := w) (own := own) (φ := φ) v) (CR.absC l); simpa using this
theorem VR.absV (v : Value) : VR w own φ (absV v) v [] := by
  unfold HK.absV; split
  · rename_i cs; exact .agg _ cs.toList _ (CR.absC _)
  · exact VR.absC _
theorem VR.strip {v : AV} {x : Value} {S : List Nat} (h : VR w own φ v x S) (hg : gk v) : VR w own φ (st1 v) x S := by
  cases h <;> first
    | assumption
    | (simp [gk] at hg; done)
    | (simp only [st1]; constructor <;> assumption)
end
def bitv (op : BinOp) (k : IntKind) (x y : Int) : Int :=
  k.wrap (((match op with
    | .and => BitVec.ofInt k.bits x &&& BitVec.ofInt k.bits y
    | .or => BitVec.ofInt k.bits x ||| BitVec.ofInt k.bits y
    | .xor => BitVec.ofInt k.bits x ^^^ BitVec.ofInt k.bits y
    | _ => BitVec.ofInt k.bits x &&& ~~~(BitVec.ofInt k.bits y) : BitVec k.bits)).toNat : Nat)
def binI (op : BinOp) (k : IntKind) (x y : Int) : Prop × AV :=
  match op with
  | .add => (True, .int k (k.wrap (x + y)))
  | .sub => (True, .int k (k.wrap (x - y)))
  | .mul => (True, .int k (k.wrap (x * y)))
  | .quo => (y ≠ 0, .int k (k.wrap (x.tdiv y)))
  | .rem => (y ≠ 0, .int k (x.tmod y))
  | .and | .or | .xor | .andNot => (True, .int k (bitv op k x y))
  | .eql => (True, .bool (x == y))
  | .neq => (True, .bool (x != y))
  | .lss => (True, .bool (decide (x < y)))
  | .leq => (True, .bool (decide (x ≤ y)))
  | .gtr => (True, .bool (decide (y < x)))
  | .geq => (True, .bool (decide (y ≤ x)))
  | _ => (False, .undef)
def binS (op : BinOp) (x y : ByteArray) : Prop × AV :=
  match op with
  | .add => (((x.size + y.size : Nat) : Int) ≤ 9223372036854775807, .str (x ++ y))
  | .eql => (True, .bool (decide (x = y)))
  | .neq => (True, .bool (!decide (x = y)))
  | _ => (False, .undef)
def eqc : List AV → List AV → Bool
  | [], [] => true
  | .int _ a :: as, .int _ b :: bs => a == b && eqc as bs
  | .bool a :: as, .bool b :: bs => a == b && eqc as bs
  | .str a :: as, .str b :: bs => decide (a = b) && eqc as bs
  | _, _ => false
def eqk : List AV → List AV → Prop
  | [], [] => True
  | .int k _ :: as, .int k' _ :: bs => k = k' ∧ eqk as bs
  | .bool _ :: as, .bool _ :: bs => eqk as bs
  | .str _ :: as, .str _ :: bs => eqk as bs
  | _, _ => False
def fkindsG (g : TypeId → Option (List Nat)) : List Field → Nat → Option (List Nat)
  | [], _ => some []
  | f :: fs, j => if f.name ≠ "_" ∧ f.offset = j then match g f.type with
    | some a => match fkindsG g fs (j + a.length) with
      | some l => some (a ++ l)
      | none => none
    | none => none
   else none
def tkinds (P : Program) : Nat → TypeId → Option (List Nat)
  | 0, _ => none
  | d + 1, t => match P.underlying t with
    | some (.int _) => some [0]
    | some .bool => some [1]
    | some .string => some [2]
    | some (.struct fs) => if P.stoodInHeld t = false then match fkindsG (tkinds P d) fs.toList 0 with
        | some l => if tk P t = some (true, l.length) then some l else none
        | none => none
      else none
    | _ => none
def tsh (P : Program) (t : TypeId) : Option (List Nat) := match P.underlying t with
  | some (.struct _) => if P.eqGuardType P.depth t = false then tkinds P 4 t else none
  | _ => none
def avk : AV → Nat
  | .int _ _ => 0
  | .bool _ => 1
  | .str _ => 2
  | _ => 9
def binV (P : Program) (op : BinOp) (t : TypeId) : AV → AV → Prop × AV
  | .int k x, .int k' y => match op with
    | .shl => (0 ≤ y, .int k (k.wrap (x * 2 ^ (min y.toNat k.bits))))
    | .shr => (0 ≤ y, .int k (x.fdiv (2 ^ (min y.toNat k.bits))))
    | _ => (k = k' ∧ (binI op k x y).1, (binI op k x y).2)
  | .str x, .str y => binS op x y
  | .bool x, .bool y => match op with
    | .eql => (P.underlying t = some .bool, .bool (x == y))
    | .neq => (P.underlying t = some .bool, .bool (!(x == y)))
    | _ => (False, .undef)
  | .agg xs, .agg ys => match op with
    | .eql => (tsh P t = some (xs.map avk) ∧ eqk xs ys, .bool (eqc xs ys))
    | .neq => (tsh P t = some (xs.map avk) ∧ eqk xs ys, .bool (!eqc xs ys))
    | _ => (False, .undef)
  | _, _ => (False, .undef)
def unV (op : UnOp) : AV → Prop × AV
  | .int k n => match op with
    | .neg => (True, .int k (k.wrap (0 - n)))
    | _ => (False, .undef)
  | .bool b => match op with
    | .not => (True, .bool !b)
    | _ => (False, .undef)
  | _ => (False, .undef)
def pb (t x y : Bool) : Bool := if t then x else y
def pickV (t : Bool) : AV → AV → AV
  | .bool x, .bool y => .bool (pb t x y)
  | a, b => if t then a else b
def bt (s : ByteArray) (i : Nat) : Int := ((s.data.toList.getD i 0).toNat : Int)
def byt : List AV → Option (List UInt8)
  | [] => some []
  | .int .u8 n :: l => (byt l).map (UInt8.ofNat n.toNat :: ·)
  | _ => none
def cvV (P : Program) (src dst : TypeId) : AV → Prop × AV
  | .int _ n => match tint P dst with
    | some k => ((P.underlying src).isSome = true, .int k (k.wrap n))
    | none => match tstr P dst, P.underlying src with
      | true, some (.int _) => (True, .str (Utf8.encode n))
      | _, _ => (False, .undef)
  | .str s => match tstr P dst with
    | true => ((P.underlying src).isSome = true, .str s)
    | false => (False, .undef)
  | _ => (False, .undef)
def tarr (P : Program) (t : TypeId) : Option (Nat × Nat) := match P.underlying t with
  | some (.array n e) => match P.info? e with | some i => some (n, i.size) | none => none
  | _ => none
def tarrZ (P : Program) (t : TypeId) : Option (List AV) := match P.underlying t, P.info? t with
  | some (.array _ e), some i => match P.info? e, i.zero with
    | some _, some z => some (z.cells.toList.map absC)
    | _, _ => none
  | _, _ => none
def tbyt (P : Program) (t : TypeId) : Bool := match P.underlying t with
  | some (.slice e) => match P.underlying e with
    | some (.int .u8) => true
    | _ => false
  | _ => false
def bytC : List (List AV) → Option (List Int)
  | [] => some []
  | [.int .u8 n] :: l => (bytC l).map (n :: ·)
  | _ => none
def strB (ns : List Int) : ByteArray := ns.foldl (fun r n => r.push (UInt8.ofNat n.toNat)) ByteArray.empty
def elemV (n sz : Nat) (k : Int) : AV → Prop × AV
  | .ptr id i j => (0 ≤ k ∧ k < n, .ptr id i (j + k.toNat * sz))
  | .fptr es i j => (0 ≤ k ∧ k < n, .fptr es i (j + k.toNat * sz))
  | _ => (False, .undef)
def plain : AV → Bool
  | .own _ _ | .agg _ | .tup _ | .cond _ _ => false
  | _ => true
def cellsAt (e : List AV) (j n : Nat) : List AV := (e.drop j).take n
def asV (g : Bool) (cs : List AV) : AV := if g then .agg cs else cs.getD 0 .undef
def hb (h : Heap) (id : Nat) : Option Blk := match h[id]? with | some (some b) => some b | _ => none
def loadV (h : Heap) (g : Bool) (n : Nat) : AV → Prop × AV
  | .ptr id i j => match hb h id with
    | some b => (i < b.es.length ∧ j + n ≤ b.sz ∧ (cellsAt (b.es.getD i []) j n).all plain = true ∧ (g = false → n = 1), asV g (cellsAt (b.es.getD i []) j n))
    | none => (False, .undef)
  | .fptr es i j => (i < es.length ∧ j + n ≤ (es.getD i []).length ∧ (g = false → n = 1), asV g (cellsAt (es.getD i []) j n))
  | _ => (False, .undef)
def fieldV (off : Nat) : AV → Prop × AV
  | .ptr id i j => (True, .ptr id i (j + off))
  | .fptr es i j => (True, .fptr es i (j + off))
  | _ => (False, .undef)
def indexV (h : Heap) (sz : Nat) (n : Int) : AV → Prop × AV
  | .sl id off len => match hb h id with
    | some b => (0 ≤ n ∧ n < len ∧ b.sz = sz, .ptr id (off + n.toNat) 0)
    | none => (False, .undef)
  | .fz es => (0 ≤ n ∧ n < es.length ∧ (es.getD n.toNat []).length = sz, .fptr es n.toNat 0)
  | _ => (False, .undef)
def bnd (d : Nat) : Option AV → Option Int
  | none => some d
  | some (.int _ n) => some n
  | _ => none
def sliceV (h : Heap) (sz : Nat) (lo hi : Option AV) : AV → Prop × AV
  | .str s => match bnd 0 lo, bnd s.size hi with
    | some l, some u => (0 ≤ l ∧ l ≤ u ∧ u ≤ s.size, .str (s.extract l.toNat u.toNat))
    | _, _ => (False, .undef)
  | .sl id off len => match bnd 0 lo, bnd len hi, hb h id with
    | some l, some u, some b => (0 ≤ l ∧ l ≤ u ∧ u ≤ len ∧ b.sz = sz, .sl id (off + l.toNat) (u - l).toNat)
    | _, _, _ => (False, .undef)
  | .fz es => match bnd 0 lo, bnd es.length hi with
    | some l, some u => (0 ≤ l ∧ l ≤ u ∧ u ≤ es.length ∧ (l < u → (es.getD l.toNat []).length = sz), .fz ((es.drop l.toNat).take (u - l).toNat))
    | _, _ => (False, .undef)
  | .nil => match bnd 0 lo, bnd 0 hi with
    | some l, some u => (l = 0 ∧ u = 0, .nil)
    | _, _ => (False, .undef)
  | _ => (False, .undef)
def lenV (P : Program) (t : TypeId) : AV → Prop × AV
  | .str s => (P.underlying t = some .string, .int .i64 s.size)
  | .sl _ _ len => ((tel P t).isSome = true, .int .i64 len)
  | .fz es => ((tel P t).isSome = true, .int .i64 es.length)
  | .nil => ((tel P t).isSome = true, .int .i64 0)
  | _ => (False, .undef)
def minV : List AV → Prop × AV
  | [.int k x, .int _ y] => (True, .int k (if y < x then y else x))
  | _ => (False, .undef)
def maxV : List AV → Prop × AV
  | [.int k x, .int _ y] => (True, .int k (if y > x then y else x))
  | _ => (False, .undef)
def partE (h : Heap) : AV → Option (List (List AV))
  | .nil => some []
  | .fz es => some es
  | .sl id off len => match hb h id with
    | some b => if b.sz = 1 ∧ off + len ≤ b.es.length then some ((b.es.drop off).take len) else none
    | none => none
  | _ => none
def cvH (P : Program) (h : Heap) (src dst : TypeId) (v : AV) : Prop × AV := match tbyt P src with
  | true => match tstr P dst, partE h v with
    | true, some es => match bytC es with
      | some s => (True, .str (strB s))
      | none => (False, .undef)
    | _, _ => (False, .undef)
  | false => cvV P src dst v
def allGk (ρ : Operand → AV) : List Operand → Prop
  | [] => True
  | x :: l => gk (ρ x) ∧ allGk ρ l
def oc : AV → Bool
  | .undef | .con _ | .agg _ | .tup _ | .cond _ _ => false
  | _ => true
def cellsA : AV → Option (List AV)
  | .agg l => some l
  | v => if oc v then some [v] else none
def fillV (places : Nat → Option (Nat × Nat)) : List AV → List (Nat × AV) → Option (List AV)
  | cs, [] => some cs
  | cs, (i, v) :: rest => match places i, cellsA v with
    | some (off, n), some xs => if xs.length = n ∧ off + n ≤ cs.length then fillV places (splice cs off xs) rest else none
    | _, _ => none
def tplaces (P : Program) (t : TypeId) : Option (List (Nat × Nat) × List AV) :=
  match P.underlying t, P.info? t with
  | some (.struct fs), some i => match i.zero with
    | some z => if fs.toList.all (fun f => (P.info? f.type).isSome) then some (fs.toList.map (fun f => (f.offset, P.cellsOf f.type)), z.cells.toList.map absC) else none
    | none => none
  | _, _ => none
def evP (P : Program) (h : Heap) (ρ : Operand → AV) : Op → Prop × AV
  | .move x | .assign x => (gk (ρ x), st1 (ρ x))
  | .pick c a b => match st1 (ρ c) with
    | .bool t => (gk (ρ c) ∧ (t = true → gk (ρ a)) ∧ (t = false → gk (ρ b)), pickV t (st1 (ρ a)) (st1 (ρ b)))
    | _ => (False, .undef)
  | .load t a => match tk P t with
    | some (g, n) => (gk (ρ a) ∧ (loadV h g n (st1 (ρ a))).1, (loadV h g n (st1 (ρ a))).2)
    | none => (False, .undef)
  | .fieldAddr s x f => match toff P s f with
    | some off => (gk (ρ x) ∧ (fieldV off (st1 (ρ x))).1, (fieldV off (st1 (ρ x))).2)
    | none => (False, .undef)
  | .field s x f => match tfld P s f, st1 (ρ x) with
    | some (off, g, n), .agg cs => (gk (ρ x) ∧ off + n ≤ cs.length ∧ (g = false → n = 1), asV g (cellsAt cs off n))
    | _, _ => (False, .undef)
  | .indexAddr t x i => match tel P t, st1 (ρ i) with
    | some (sz, _), .int _ n => (gk (ρ x) ∧ gk (ρ i) ∧ (indexV h sz n (st1 (ρ x))).1, (indexV h sz n (st1 (ρ x))).2)
    | none, .int _ n => match tarr P t with
      | some (m, sz) => (gk (ρ x) ∧ gk (ρ i) ∧ (elemV m sz n (st1 (ρ x))).1, (elemV m sz n (st1 (ρ x))).2)
      | none => (False, .undef)
    | _, _ => (False, .undef)
  | .index t x i => match tstr P t, st1 (ρ x), st1 (ρ i) with
    | true, .str s, .int _ n => (gk (ρ x) ∧ gk (ρ i) ∧ 0 ≤ n ∧ n < s.size, .int .u8 (bt s n.toNat))
    | _, _, _ => (False, .undef)
  | .slice t x lo hi none => match tstr P t, tel P t with
    | true, _ => (gk (ρ x) ∧ allGk ρ lo.toList ∧ allGk ρ hi.toList ∧ (∃ s, st1 (ρ x) = .str s) ∧ (sliceV h 0 (lo.map (st1 <| ρ ·)) (hi.map (st1 <| ρ ·)) (st1 (ρ x))).1, (sliceV h 0 (lo.map (st1 <| ρ ·)) (hi.map (st1 <| ρ ·)) (st1 (ρ x))).2)
    | false, some (sz, _) => (gk (ρ x) ∧ allGk ρ lo.toList ∧ allGk ρ hi.toList ∧ (¬ ∃ s, st1 (ρ x) = .str s) ∧ (sliceV h sz (lo.map (st1 <| ρ ·)) (hi.map (st1 <| ρ ·)) (st1 (ρ x))).1, (sliceV h sz (lo.map (st1 <| ρ ·)) (hi.map (st1 <| ρ ·)) (st1 (ρ x))).2)
    | _, _ => (False, .undef)
  | .extract x i => match st1 (ρ x) with
    | .tup vs => (gk (ρ x) ∧ i < vs.length, vs.getD i .undef)
    | _ => (False, .undef)
  | .binOp op t x y _ => (gk (ρ x) ∧ gk (ρ y) ∧ (binV P op t (st1 (ρ x)) (st1 (ρ y))).1, (binV P op t (st1 (ρ x)) (st1 (ρ y))).2)
  | .unOp op _ x => (gk (ρ x) ∧ (unV op (st1 (ρ x))).1, (unV op (st1 (ρ x))).2)
  | .convert src dst x => (gk (ρ x) ∧ (cvH P h src dst (st1 (ρ x))).1, (cvH P h src dst (st1 (ρ x))).2)
  | .nilCheck x => match st1 (ρ x) with
    | .ptr id i j => (gk (ρ x), .ptr id i j)
    | .fptr es i j => (gk (ρ x), .fptr es i j)
    | _ => (False, .undef)
  | .build t parts => match tplaces P t with
    | some (pl, z) => match fillV (fun i => pl[i]?) z (parts.toList.map fun p => (p.1, st1 (ρ p.2))) with
      | some cs => (allGk ρ (parts.toList.map (·.2)), .agg cs)
      | none => (False, .undef)
    | none => match tarrZ P t, parts.toList with
      | some z, [] => (True, .agg z)
      | _, _ => (False, .undef)
  | .makeFunc fn first cap => (allGk ρ first.toList ∧ allGk ρ cap.toList, .fn fn (first.toList.map fun x => st1 (ρ x)) (cap.toList.map fun x => st1 (ρ x)))
  | .call { callee := .builtin b, args, argTypes } => match b, args.toList, argTypes.toList with
    | .len, [x], [t] => (gk (ρ x) ∧ (lenV P t (st1 (ρ x))).1, (lenV P t (st1 (ρ x))).2)
    | .min, [x, y], _ => (gk (ρ x) ∧ gk (ρ y) ∧ (minV [st1 (ρ x), st1 (ρ y)]).1, (minV [st1 (ρ x), st1 (ρ y)]).2)
    | .max, [x, y], _ => (gk (ρ x) ∧ gk (ρ y) ∧ (maxV [st1 (ρ x), st1 (ρ y)]).1, (maxV [st1 (ρ x), st1 (ρ y)]).2)
    | _, _, _ => (False, .undef)
  | _ => (False, .undef)
end HK
namespace HK
open Go
section
variable {P : Program} {w : World} {own : Nat → Prop} {φ : Refs}
theorem run_isAgg {t : TypeId} {g : Bool} {n : Nat} (h : tk P t = some (g, n)) : (isAgg t).run P w = .ok g w := by
  unfold tk at h; unfold isAgg
  cases hu : P.underlying t with
  | none => simp [hu] at h
  | some d =>
    cases hi : P.info? t with
    | none => cases d <;> simp [hu, hi] at h
    | some i => cases d <;> simp [hu, hi] at h <;> simp [run_underlying hu, ← h.1]
theorem run_size {t : TypeId} {g : Bool} {n : Nat} (h : tk P t = some (g, n)) : (Go.sizeOf t).run P w = .ok n w := by
  unfold tk at h; unfold Go.sizeOf typeInfo
  cases hu : P.underlying t with
  | none => simp [hu] at h
  | some d =>
    cases hi : P.info? t with
    | none => cases d <;> simp [hu, hi] at h
    | some i => cases d <;> simp [hu, hi] at h <;> simp [hi, h.2]
theorem run_info {t : TypeId} {i : TypeInfo} (h : P.info? t = some i) : (typeInfo t).run P w = .ok i w := by simp [typeInfo, h]
theorem run_sizeI {t : TypeId} {i : TypeInfo} (h : P.info? t = some i) : (Go.sizeOf t).run P w = .ok i.size w := by simp [Go.sizeOf, run_info h]
theorem plain_nil {v : AV} {x : Value} {S : List Nat} (h : VR w own φ v x S) (hp : plain v = true) : S = [] := by
  cases h <;> first | rfl | simp [plain] at hp
theorem plain_nils : ∀ {cs : List AV} {vs : List Value} {S : List Nat}, CR w own φ cs vs S → cs.all plain = true → S = []
  | _, _, _, .nil, _ => rfl
  | _, _, _, .cons a v S as vs T h h', hp => by
    simp only [List.all_cons, Bool.and_eq_true] at hp; rw [plain_nil h hp.1, plain_nils h' hp.2]; rfl
theorem add_add (A : Addr) (m n : Nat) : (A.add m).add n = A.add (m + n) := by
  unfold Addr.add; by_cases h1 : m = 0
  · subst h1; simp
  · by_cases h2 : n = 0
    · subst h2; simp
    · simp [h1, h2, Nat.add_assoc]
theorem add_row (rb o n : Nat) : (⟨rb, o, none⟩ : Addr).add n = ⟨rb, o + n, none⟩ := by unfold Addr.add; split <;> simp_all
theorem Seg.split {A : Addr} {v1 v2 v3 : List Value} (h : Seg w A (v1 ++ (v2 ++ v3))) : Seg w (A.add v1.length) v2 := by
  intro n v hv; rw [add_add]; refine h _ _ ?_; rw [List.getElem?_append_right (by omega), Nat.add_sub_cancel_left]; rw [List.getElem?_append_left (by have := (List.getElem?_eq_some_iff.1 hv).1; omega)]; exact hv
theorem row_read {es : List (List AV)} {sz i j n : Nat} {A : Addr} {vs : List Value} {S : List Nat} (hu : ∀ e ∈ es, e.length = sz) (hs : Seg w A vs) (h : CR w own φ es.flatten vs S) (hi : i < es.length) (hj : j + n ≤ sz) :
    ∃ v2 S2, Seg w (A.add (i * sz + j)) v2 ∧ v2.length = n ∧ CR w own φ (cellsAt (es.getD i []) j n) v2 S2 ∧ ∀ b ∈ S2, b ∈ S := by
  obtain ⟨e, hl, hn⟩ := flat_cells hu hi hj; rw [e] at h; obtain ⟨v1, v2', S1, S2', rfl, rfl, h1, h2⟩ := h.split; obtain ⟨v2, v3, S2, S3, rfl, rfl, h2, h3⟩ := h2.split; refine ⟨v2, S2, ?_, ?_, h2, ?_⟩
  · rw [← hl, h1.length]; exact hs.split
  · rw [← h2.length]; exact hn
  · intro b hb; simp [hb]
theorem load_cells {t : TypeId} {g : Bool} {n : Nat} (ht : tk P t = some (g, n)) (hg : g = false → n = 1) {A : Addr} {vs : List Value} (hs : Seg w A vs) (hn : vs.length = n) {cs : List AV} (h : CR w own φ cs vs []) :
    ∃ y, (loadVar t A).run P w = .ok y w ∧ VR w own φ (asV g cs) y [] := by
  cases g with
  | true =>
    refine ⟨.agg vs.toArray, ?_, ?_⟩
    · simp only [loadVar, Sem.run_bind, run_isAgg ht, Result.andThen_ok, if_true, run_size ht]
      rw [← hn, run_loadCells_list w A vs hs]; rfl
    · exact .agg _ _ _ h
  | false =>
    have := hg rfl
    obtain ⟨y, rfl⟩ : ∃ y, vs = [y] := by
      match vs, hn.trans this with
      | [y], _ => exact ⟨y, rfl⟩
    obtain ⟨c, rfl⟩ : ∃ c, cs = [c] := by
      match cs, h.length with
      | [c], _ => exact ⟨c, rfl⟩
    refine ⟨y, ?_, ?_⟩
    · have hc := hs 0 y rfl
      have : A.add 0 = A := rfl
      rw [this] at hc; simp [loadVar, run_isAgg ht, hc]
    · obtain ⟨v, e, h⟩ := h.head
      cases e; exact h
theorem loadV_sound {h : Heap} {Ss : List (List Nat)} (hh : HR w own φ h Ss) {t : TypeId} {g : Bool} {n : Nat} (ht : tk P t = some (g, n)) {v : AV} {x : Value} (hv : VR w own φ v x []) (ok : (loadV h g n v).1) :
    ∃ y, (Instr.loadAt t x).run P w = .ok y w ∧ VR w own φ (loadV h g n v).2 y [] := by
  cases hv with
  | ptr id i j r hr =>
    simp only [loadV] at ok ⊢
    cases hb' : hb h id with
    | none => simp [hb'] at ok
    | some b =>
      simp only [hb'] at ok ⊢; obtain ⟨hi, hj, hp, hg⟩ := ok
      have hid : h[id]? = some (some b) := by
        unfold hb at hb'; split at hb' <;> simp_all
      obtain ⟨S, hS, hB⟩ := hh id b hid; rcases hB with ⟨h1, h2, h3⟩ | ⟨r', vs, T, h1, h2, h3, h4, h5, h6, h7, rfl⟩
      · rw [h2] at hi; simp at hi
      · rw [hr] at h1; cases h1
        obtain ⟨v2, S2, hs2, hl2, hc2, _⟩ := row_read h4 h6 h7 hi hj; have := plain_nils hc2 hp
        subst this; rw [add_row] at hs2; obtain ⟨y, hy, hvr⟩ := load_cells ht hg hs2 hl2 hc2; refine ⟨y, ?_, hvr⟩; rw [h2, Nat.add_assoc]
        simpa [Instr.loadAt, Instr.sureAddr] using hy
  | fptr es sz A vs i j hlt ho hu hs hc =>
    simp only [loadV] at ok ⊢; obtain ⟨hi, hj, hg⟩ := ok; rw [(flat_split hu hi).2.2] at hj; obtain ⟨v2, S2, hs2, hl2, hc2, hsub⟩ := row_read hu hs hc hi hj
    have : S2 = [] := by
      cases S2 with
      | nil => rfl
      | cons b _ => have := hsub b (List.mem_cons_self ..); simp at this
    subst this; obtain ⟨y, hy, hvr⟩ := load_cells ht hg hs2 hl2 hc2
    exact ⟨y, by simpa [Instr.loadAt, Instr.sureAddr] using hy, hvr.up⟩
  | _ => simp [loadV] at ok
theorem toff_run {s : TypeId} {f off : Nat} (h : toff P s f = some off) (a : Addr) : (Instr.fieldAt s (.pointer (some a)) f).run P w = .ok (.pointer (some (a.add off))) w := by
  unfold toff at h; split at h
  · rename_i fs hu
    split at h
    · rename_i d hd
      split at h
      · rename_i i hi
        split at h
        · cases h
        · cases h
          rename_i hsz
          simp [Instr.fieldAt, run_underlying hu, hd, Instr.sureAddr, fieldPlace, run_sizeI hi, hsz]
      · cases h
    · cases h
  · cases h
theorem fieldV_sound {s : TypeId} {f off : Nat} (ht : toff P s f = some off) {v : AV} {x : Value} (hv : VR w own φ v x []) (ok : (fieldV off v).1) :
    ∃ y, (Instr.fieldAt s x f).run P w = .ok y w ∧ VR w own φ (fieldV off v).2 y [] := by
  cases hv with
  | ptr id i j r hr =>
    refine ⟨_, toff_run ht _, ?_⟩; rw [add_row, Nat.add_assoc]
    exact .ptr id i (j + off) r hr
  | fptr es sz A vs i j hlt ho hu hs hc =>
    refine ⟨_, toff_run ht _, ?_⟩; rw [add_add, Nat.add_assoc]
    exact .fptr es sz A vs i (j + off) hlt ho hu hs hc
  | _ => simp [fieldV] at ok
theorem tel_spec {t : TypeId} {sz bytes : Nat} (h : tel P t = some (sz, bytes)) : ∃ e i, P.underlying t = some (.slice e) ∧ P.info? e = some i ∧ i.size = sz ∧ i.bytes = bytes := by
  unfold tel at h; split at h
  · rename_i e hu
    split at h
    · rename_i i hi; cases h; exact ⟨e, i, hu, hi, rfl, rfl⟩
    · cases h
  · cases h
theorem indexV_sound {h : Heap} {Ss : List (List Nat)} (hh : HR w own φ h Ss) {t : TypeId} {sz bytes : Nat} (ht : tel P t = some (sz, bytes)) {v : AV} {x : Value} {k : IntKind} {n : Int} (hv : VR w own φ v x []) (ok : (indexV h sz n v).1) :
    ∃ y, (Instr.indexAt t x (.int k n)).run P w = .ok y w ∧ VR w own φ (indexV h sz n v).2 y [] := by
  obtain ⟨e, i, hu, hi, hsz, -⟩ := tel_spec ht
  cases hv with
  | sl id off len cap r hr hcap hlim =>
    simp only [indexV] at ok ⊢
    cases hb' : hb h id with
    | none => simp [hb'] at ok
    | some b =>
      simp only [hb'] at ok ⊢; obtain ⟨h0, h1, h2⟩ := ok
      have hid : h[id]? = some (some b) := by
        unfold hb at hb'; split at hb' <;> simp_all
      obtain ⟨S, hS, hB⟩ := hh id b hid
      have hrs : r.sz = sz := by
        rcases hB with ⟨h1, _, _⟩ | ⟨r', vs, T, h1, h3, _⟩
        · rw [hr] at h1; cases h1
        · rw [hr] at h1; cases h1; rw [h3, h2]
      refine ⟨.pointer (some (Addr.add ⟨r.rb, r.base + off * r.sz, none⟩ (n.toNat * sz))), ?_, ?_⟩
      · simp [Instr.indexAt, asIntOf, run_underlying hu, run_sizeI hi, hsz, h0, h1]
      · rw [add_row]
        have := VR.ptr (w := w) (own := own) (φ := φ) id (off + n.toNat) 0 r hr
        rw [hrs] at this ⊢; rw [Nat.add_zero, Nat.add_mul, ← Nat.add_assoc] at this
        exact this
  | sl0 id off r A hr =>
    simp only [indexV] at ok; split at ok
    · obtain ⟨h0, h1, _⟩ := ok; simp at h1; omega
    · exact ok.elim
  | fz es sz' A cap vs hlt ho hu' hcap hs hc =>
    simp only [indexV] at ok ⊢; obtain ⟨h0, h1, h2⟩ := ok; have hlt' : n.toNat < es.length := by omega
    rw [(flat_split hu' hlt').2.2] at h2; subst h2; refine ⟨.pointer (some (A.add (n.toNat * sz'))), ?_, ?_⟩
    · simp [Instr.indexAt, asIntOf, run_underlying hu, run_sizeI hi, hsz, h0, h1]
    · exact .fptr es sz' A vs n.toNat 0 hlt ho hu' hs hc
  | fz0 A cap =>
    simp only [indexV] at ok; obtain ⟨h0, h1, h2⟩ := ok
    simp at h1; omega
  | _ => simp [indexV] at ok
theorem binI_sound {op : BinOp} {k : IntKind} {a b : Int} {t : TypeId} (ok : (binI op k a b).1) (hne1 : op ≠ .shl) (hne2 : op ≠ .shr) : ∃ y, (binOp op t (.int k a) (.int k b)).run P w = .ok y w ∧ VR w own φ (binI op k a b).2 y [] := by
  cases op
  case shl => exact absurd rfl hne1
  case shr => exact absurd rfl hne2
  case add => exact ⟨_, (by simp [binOp, Op.intArith]), VR.int _ _⟩
  case sub => exact ⟨_, (by simp [binOp, Op.intArith]), VR.int _ _⟩
  case mul => exact ⟨_, (by simp [binOp, Op.intArith]), VR.int _ _⟩
  case quo => exact ⟨_, (by simp only [binI] at ok; simp [binOp, Op.intDiv, ok]), VR.int _ _⟩
  case rem => exact ⟨_, (by simp only [binI] at ok; simp [binOp, Op.intDiv, ok]), VR.int _ _⟩
  case and => exact ⟨_, (by simp only [binOp, ne_eq, not_true_eq_false, ite_false]; rfl), VR.int _ _⟩
  case or => exact ⟨_, (by simp only [binOp, ne_eq, not_true_eq_false, ite_false]; rfl), VR.int _ _⟩
  case xor => exact ⟨_, (by simp only [binOp, ne_eq, not_true_eq_false, ite_false]; rfl), VR.int _ _⟩
  case andNot => exact ⟨_, (by simp only [binOp, ne_eq, not_true_eq_false, ite_false]; rfl), VR.int _ _⟩
  case eql => exact ⟨.bool (a == b), (by simp [binOp, Op.intCmp]), VR.bool _⟩
  case neq => exact ⟨.bool (a != b), (by simp [binOp, Op.intCmp]), VR.bool _⟩
  case lss => exact ⟨.bool (decide (a < b)), (by simp [binOp, Op.intCmp]), VR.bool _⟩
  case leq => exact ⟨.bool (decide (a ≤ b)), (by simp [binOp, Op.intCmp]), VR.bool _⟩
  case gtr => exact ⟨.bool (decide (b < a)), (by simp [binOp, Op.intCmp]), VR.bool _⟩
  case geq => exact ⟨.bool (decide (b ≤ a)), (by simp [binOp, Op.intCmp]), VR.bool _⟩
theorem data_eq (x y : ByteArray) : (x.toList == y.toList) = decide (x = y) := by
  have h : ∀ z : ByteArray, z.toList = z.data.toList := fun z => ByteArray.toList_eq z
  rw [h, h, Bool.eq_iff_iff]; simp only [beq_iff_eq, decide_eq_true_eq]; exact ⟨fun e => ByteArray.ext (Array.ext' e), fun e => by rw [e]⟩
end
end HK
set_option linter.unusedVariables false
set_option linter.unusedSimpArgs false
namespace HK
open Go
section
variable {P : Program} {w : World} {own : Nat → Prop} {φ : Refs}
theorem run_eq_bool {t : TypeId} (h : P.underlying t = some .bool) (p q : Bool) : (Op.equal t (.bool p) (.bool q)).run P w = .ok (p == q) w := by
  have : Op.equal t (.bool p) (.bool q) = Op.equalIn (9999 + 1) t (.bool p) (.bool q) := rfl
  rw [this]; unfold Op.equalIn; rw [Sem.run_bind, run_underlying h]; rfl
theorem part_cell {t : TypeId} (h : P.underlying t = some (.int .i64) ∨ (∃ k, P.underlying t = some (.int k)) ∨ P.underlying t = some .bool ∨ P.underlying t = some .string) {cs : Array Value} {j : Nat} {v : Value} (hv : cs[j]? = some v) : (part t cs j).run P w = .ok v w := by
  unfold part isAgg; rcases h with h | ⟨k, h⟩ | h | h <;> simp [run_underlying h, hv]
theorem eqk_split : ∀ {xs1 xs2 ys : List AV}, eqk (xs1 ++ xs2) ys → ∃ ys1 ys2, ys = ys1 ++ ys2 ∧ eqk xs1 ys1 ∧ eqk xs2 ys2 ∧ eqc (xs1 ++ xs2) ys = (eqc xs1 ys1 && eqc xs2 ys2)
  | [], xs2, ys, h => ⟨[], ys, rfl, trivial, h, by simp [eqc]⟩
  | x :: xs1, xs2, [], h => by cases x <;> simp [eqk] at h
  | x :: xs1, xs2, y :: ys, h => by
    cases x with
    | int k a =>
      cases y with
      | int k' b =>
        simp only [List.cons_append, eqk] at h; obtain ⟨ys1, ys2, rfl, h1, h2, h3⟩ := eqk_split h.2
        exact ⟨.int k' b :: ys1, ys2, rfl, ⟨h.1, h1⟩, h2, by simp [eqc, h3, Bool.and_assoc]⟩
      | _ => simp [eqk] at h
    | bool a =>
      cases y with
      | bool b =>
        simp only [List.cons_append, eqk] at h; obtain ⟨ys1, ys2, rfl, h1, h2, h3⟩ := eqk_split h
        exact ⟨.bool b :: ys1, ys2, rfl, h1, h2, by simp [eqc, h3, Bool.and_assoc]⟩
      | _ => simp [eqk] at h
    | str a =>
      cases y with
      | str b =>
        simp only [List.cons_append, eqk] at h; obtain ⟨ys1, ys2, rfl, h1, h2, h3⟩ := eqk_split h
        exact ⟨.str b :: ys1, ys2, rfl, h1, h2, by simp [eqc, h3, Bool.and_assoc]⟩
      | _ => simp [eqk] at h
    | _ => simp [eqk] at h
theorem eqk_len : ∀ {xs ys : List AV}, eqk xs ys → xs.length = ys.length
  | [], [], _ => rfl
  | [], _ :: _, h => by simp [eqk] at h
  | x :: xs, [], h => by cases x <;> simp [eqk] at h
  | x :: xs, y :: ys, h => by
    cases x <;> cases y <;> simp [eqk] at h
    · simp [eqk_len h]
    · simp [eqk_len h.2]
    · simp [eqk_len h]
theorem map_app {xs : List AV} {a l : List Nat} (h : xs.map avk = a ++ l) : ∃ xs1 xs2, xs = xs1 ++ xs2 ∧ xs1.map avk = a ∧ xs2.map avk = l := by
  rw [List.map_eq_append_iff] at h; obtain ⟨l1, l2, h1, h2, h3⟩ := h; exact ⟨l1, l2, h1, h2, h3⟩
theorem one_of {xs : List AV} {n : Nat} (h : xs.map avk = [n]) : ∃ x, xs = [x] ∧ avk x = n := by
  cases xs with
  | nil => cases h
  | cons x xs =>
    cases xs with
    | nil => exact ⟨x, rfl, by simpa using h⟩
    | cons _ _ => simp at h
theorem part_agg {t : TypeId} {n : Nat} {fs : Array Field} (hu : P.underlying t = some (.struct fs)) (h : tk P t = some (true, n)) (cs : Array Value) (j : Nat) : (part t cs j).run P w = .ok (.agg (cs.extract j (j + n))) w := by
  unfold part isAgg; simp [run_underlying hu, run_size h]
theorem seg_ext {us : List Value} {cu : Array Value} {j n : Nat} (hl : us.length = n) (hu : ∀ n v, us[n]? = some v → cu[j + n]? = some v) : ∀ n' v, us[n']? = some v → (cu.extract j (j + n))[0 + n']? = some v := by
  intro n' v h; have h1 := hu n' v h
  have h2 := (List.getElem?_eq_some_iff.1 h).1
  have h3 := (Array.getElem?_eq_some_iff.1 h1).1
  rw [Array.getElem?_extract, Nat.zero_add, if_pos (by omega), h1]
theorem eqF (g : TypeId → Option (List Nat)) (D : Nat)
    (ih : ∀ (t : TypeId) (xs ys : List AV) (us vs : List Value) (cu cv : Array Value) (j : Nat), g t = some (xs.map avk) → eqk xs ys → CR w own φ xs us [] → CR w own φ ys vs [] → (∀ n v, us[n]? = some v → cu[j + n]? = some v) → (∀ n v, vs[n]? = some v → cv[j + n]? = some v) →
      (do let a ← part t cu j; let b ← part t cv j; Op.equalIn D t a b : Sem Bool).run P w = .ok (eqc xs ys) w) :
    ∀ (fs : List Field) (j : Nat) (xs ys : List AV) (us vs : List Value) (cu cv : Array Value), fkindsG g fs j = some (xs.map avk) → eqk xs ys → CR w own φ xs us [] → CR w own φ ys vs [] →
    (∀ n v, us[n]? = some v → cu[j + n]? = some v) → (∀ n v, vs[n]? = some v → cv[j + n]? = some v) → (Op.eqFields D cu cv fs).run P w = .ok (eqc xs ys) w
  | [], j, xs, ys, us, vs, cu, cv, hf, hk, hx, hy, hu, hv => by
    simp [fkindsG] at hf; subst hf
    cases ys with
    | nil => simp [Op.eqFields, eqc]
    | cons _ _ => simp [eqk] at hk
  | f :: fs, j, xs, ys, us, vs, cu, cv, hf, hk, hx, hy, hu, hv => by
    unfold fkindsG at hf; split at hf
    · rename_i hn
      split at hf
      · rename_i a ha
        split at hf
        · rename_i l hl
          obtain ⟨xs1, xs2, rfl, rfl, rfl⟩ := map_app (Option.some.inj hf).symm; obtain ⟨ys1, ys2, rfl, hk1, hk2, hc⟩ := eqk_split hk; obtain ⟨us1, us2, S1, S2, rfl, hS, x1, x2⟩ := hx.split
          obtain ⟨vs1, vs2, T1, T2, rfl, hT, y1, y2⟩ := hy.split; have eS : S1 = [] ∧ S2 = [] := by simpa using hS.symm
          have eT : T1 = [] ∧ T2 = [] := by simpa using hT.symm
          obtain ⟨rfl, rfl⟩ := eS; obtain ⟨rfl, rfl⟩ := eT; have lx := x1.length
          have ly := y1.length
          have lk := eqk_len hk1
          have h1 := ih f.type xs1 ys1 us1 vs1 cu cv j ha hk1 x1 y1 (fun n v h => hu n v (by rw [List.getElem?_append_left (List.getElem?_eq_some_iff.1 h).1]; exact h)) (fun n v h => hv n v (by rw [List.getElem?_append_left (List.getElem?_eq_some_iff.1 h).1]; exact h))
          have h2 := eqF g D ih fs (j + (xs1.map avk).length) xs2 ys2 us2 vs2 cu cv hl hk2 x2 y2
            (fun n v h => by
              rw [List.length_map, lx, Nat.add_assoc]
              exact hu (us1.length + n) v (by rw [List.getElem?_append_right (by omega), Nat.add_sub_cancel_left]; exact h))
            (fun n v h => by
              rw [List.length_map, lk, ly, Nat.add_assoc]
              exact hv (vs1.length + n) v (by rw [List.getElem?_append_right (by omega), Nat.add_sub_cancel_left]; exact h))
          simp only [Op.eqFields]; rw [if_pos hn.1, hn.2, hc]; simp only [Sem.run_bind] at h1 ⊢
          generalize (part f.type cu j).run P w = r1 at h1 ⊢
          cases r1 with
          | ok a1 w1 =>
            simp only [Result.andThen_ok] at h1 ⊢
            generalize (part f.type cv j).run P w1 = r2 at h1 ⊢
            cases r2 with
            | ok a2 w2 =>
              simp only [Result.andThen_ok] at h1 ⊢; rw [h1]; simp only [Result.andThen_ok, Sem.run_ite, Sem.run_pure, h2]
              cases eqc xs1 ys1 <;> simp
            | _ => cases h1
          | _ => cases h1
        · cases hf
      · cases hf
    · cases hf
theorem eqT : ∀ (d D : Nat), d ≤ D → ∀ (t : TypeId) (xs ys : List AV) (us vs : List Value) (cu cv : Array Value) (j : Nat), tkinds P d t = some (xs.map avk) → eqk xs ys → CR w own φ xs us [] → CR w own φ ys vs [] →
    (∀ n v, us[n]? = some v → cu[j + n]? = some v) → (∀ n v, vs[n]? = some v → cv[j + n]? = some v) → (do let a ← part t cu j; let b ← part t cv j; Op.equalIn D t a b : Sem Bool).run P w = .ok (eqc xs ys) w
  | 0, _, _, _, _, _, _, _, _, _, _, hf, _, _, _, _, _ => by simp [tkinds] at hf
  | d + 1, 0, h, _, _, _, _, _, _, _, _, _, _, _, _, _, _ => by omega
  | d + 1, D + 1, hD, t, xs, ys, us, vs, cu, cv, j, hf, hk, hx, hy, hu, hv => by
    unfold tkinds at hf; split at hf
    · rename_i k hk0
      obtain ⟨x, rfl, hx0⟩ := one_of (Option.some.inj hf).symm; cases x <;> simp [avk] at hx0
      obtain ⟨u, rfl, hxv⟩ := hx.head
      cases ys with
      | nil => simp [eqk] at hk
      | cons y ys =>
        cases y <;> simp [eqk] at hk
        obtain ⟨rfl, hk⟩ := hk
        cases ys with
        | cons _ _ => simp [eqk] at hk
        | nil =>
          obtain ⟨v, rfl, hyv⟩ := hy.head; have hu0 := hu 0 u (by simp)
          have hv0 := hv 0 v (by simp)
          simp only [Nat.add_zero] at hu0 hv0; cases hxv; cases hyv
          simp only [Sem.run_bind, part_cell (.inr (.inl ⟨_, hk0⟩)) hu0, part_cell (.inr (.inl ⟨_, hk0⟩)) hv0, Result.andThen_ok, run_equalIn_int w D t _ _ _ _ hk0, eqc, Bool.and_true]
    · rename_i hk0
      obtain ⟨x, rfl, hx0⟩ := one_of (Option.some.inj hf).symm; cases x <;> simp [avk] at hx0
      obtain ⟨u, rfl, hxv⟩ := hx.head
      cases ys with
      | nil => simp [eqk] at hk
      | cons y ys =>
        cases y <;> simp [eqk] at hk
        cases ys with
        | cons _ _ => simp [eqk] at hk
        | nil =>
          obtain ⟨v, rfl, hyv⟩ := hy.head; have hu0 := hu 0 u (by simp)
          have hv0 := hv 0 v (by simp)
          simp only [Nat.add_zero] at hu0 hv0; cases hxv; cases hyv
          simp only [Sem.run_bind, part_cell (.inr (.inr (.inl hk0))) hu0, part_cell (.inr (.inr (.inl hk0))) hv0, Result.andThen_ok, run_equalIn_bool' w D t _ _ hk0, eqc, Bool.and_true]
    · rename_i hk0
      obtain ⟨x, rfl, hx0⟩ := one_of (Option.some.inj hf).symm; cases x <;> simp [avk] at hx0
      obtain ⟨u, rfl, hxv⟩ := hx.head
      cases ys with
      | nil => simp [eqk] at hk
      | cons y ys =>
        cases y <;> simp [eqk] at hk
        cases ys with
        | cons _ _ => simp [eqk] at hk
        | nil =>
          obtain ⟨v, rfl, hyv⟩ := hy.head; have hu0 := hu 0 u (by simp)
          have hv0 := hv 0 v (by simp)
          simp only [Nat.add_zero] at hu0 hv0; cases hxv; cases hyv
          simp only [Sem.run_bind, part_cell (.inr (.inr (.inr hk0))) hu0, part_cell (.inr (.inr (.inr hk0))) hv0, Result.andThen_ok, run_equalIn_string w D t _ _ hk0, eqc, Bool.and_true, data_eq]
    · rename_i fs hk0
      split at hf
      · rename_i hst
        split at hf
        · rename_i l hl
          split at hf
          · rename_i htk
            have e := Option.some.inj hf
            subst e; have hfo : P.fieldsOf t = fs := by unfold Program.fieldsOf; rw [hk0]
            have lx := hx.length
            have ly := hy.length
            have lk := eqk_len hk
            rw [List.length_map] at htk; simp only [Sem.run_bind, part_agg hk0 htk, Result.andThen_ok]; rw [run_equalIn_struct w D t _ _ (by rw [hfo]; exact hk0) hst, hfo]
            exact eqF (tkinds P d) D (eqT d D (by omega)) fs.toList 0 xs ys us vs _ _ hl hk hx hy (seg_ext (by omega) hu) (seg_ext (by omega) hv)
          · cases hf
        · cases hf
      · cases hf
    · cases hf
theorem eqS {t : TypeId} {d D : Nat} {xs ys : List AV} {us vs : List Value} {fs : Array Field} (hD : d ≤ D) (hu : P.underlying t = some (.struct fs)) (ht : tkinds P d t = some (xs.map avk)) (hk : eqk xs ys) (hx : CR w own φ xs us []) (hy : CR w own φ ys vs []) :
    (Op.equalIn D t (.agg us.toArray) (.agg vs.toArray)).run P w = .ok (eqc xs ys) w := by
  have h := eqT d D hD t xs ys us vs us.toArray vs.toArray 0 ht hk hx hy (fun n v h => by simpa using h) (fun n v h => by simpa using h)
  have lx := hx.length
  have ly := hy.length
  have lk := eqk_len hk
  have htk : tk P t = some (true, xs.length) := by
    cases d with
    | zero => simp [tkinds] at ht
    | succ d =>
      unfold tkinds at ht; rw [hu] at ht; simp only at ht; split at ht
      · split at ht
        · split at ht
          · rename_i l _ h1
            rw [Option.some.inj ht, List.length_map] at h1; exact h1
          · cases ht
        · cases ht
      · cases ht
  simp only [Sem.run_bind, part_agg hu htk, Result.andThen_ok] at h; have e1 : us.toArray.extract 0 (0 + xs.length) = us.toArray := by simp [lx]
  have e2 : vs.toArray.extract 0 (0 + xs.length) = vs.toArray := by simp [lk, ly]
  rwa [e1, e2] at h
theorem eqs_sound {t : TypeId} {xs ys : List AV} {us vs : List Value} (ht : tsh P t = some (xs.map avk)) (hk : eqk xs ys) (hx : CR w own φ xs us []) (hy : CR w own φ ys vs []) :
    (do eqGuard .eql t (.tmp 0) (.tmp 0) (.agg us.toArray) (.agg vs.toArray); Op.equal t (.agg us.toArray) (.agg vs.toArray) : Sem Bool).run P w = .ok (eqc xs ys) w := by
  unfold tsh at ht; split at ht
  · rename_i fs hu
    split at ht
    · rename_i hg
      have e : Op.equal t (.agg us.toArray) (.agg vs.toArray) = Op.equalIn (9999 + 1) t (.agg us.toArray) (.agg vs.toArray) := rfl
      rw [Sem.run_bind, run_eqGuard_agg w .eql t _ _ _ _ hg, Result.andThen_ok, e]; exact eqS (by omega) hu ht hk hx hy
    · cases ht
  · cases ht
theorem binV_sound {op : BinOp} {t : TypeId} {x y : Operand} {a b : AV} {u v : Value} (ha : VR w own φ a u []) (hb' : VR w own φ b v []) (ok : (binV P op t a b).1) :
    ∃ z, (do eqGuard op t x y u v; binOp op t u v : Sem Value).run P w = .ok z w ∧ VR w own φ (binV P op t a b).2 z [] := by
  cases ha with
  | int k n =>
    cases hb' with
    | int k' m =>
      have hg : (eqGuard op t x y (.int k n) (.int k' m)).run P w = .ok () w := by
        unfold eqGuard; split <;> simp
      simp only [Sem.run_bind, hg, Result.andThen_ok]; by_cases h1 : op = .shl
      · subst h1
        simp only [binV] at ok ⊢; exact ⟨.int k (k.wrap (n * 2 ^ (min m.toNat k.bits))), by simp [binOp, Op.shift]; omega, VR.int _ _⟩
      · by_cases h2 : op = .shr
        · subst h2
          simp only [binV] at ok ⊢; exact ⟨.int k (n.fdiv (2 ^ (min m.toNat k.bits))), by simp [binOp, Op.shift]; omega, VR.int _ _⟩
        · have e : binV P op t (.int k n) (.int k' m) = (k = k' ∧ (binI op k n m).1, (binI op k n m).2) := by cases op <;> first | rfl | exact absurd rfl h1 | exact absurd rfl h2
          rw [e] at ok ⊢; obtain ⟨rfl, ok⟩ := ok
          exact binI_sound ok h1 h2
    | _ => simp [binV] at ok
  | str s =>
    cases hb' with
    | str s' =>
      have hg : (eqGuard op t x y (.string s) (.string s')).run P w = .ok () w := by
        unfold eqGuard; split <;> simp
      simp only [Sem.run_bind, hg, Result.andThen_ok, binV]; cases op <;> simp only [binV, binS] at ok ⊢
      case add =>
        refine ⟨_, ?_, VR.str _⟩; have : ¬ (((s.size + s'.size : Nat) : Int) > IntKind.i64.max) := by simpa [IntKind.max, IntKind.signed, IntKind.bits] using ok
        simp only [binOp, Op.stringOp]; rw [if_neg this]; rfl
      case eql => exact ⟨.bool (decide (s = s')), by simp [binOp, Op.stringOp, data_eq], VR.bool _⟩
      case neq => exact ⟨.bool (!decide (s = s')), by simp [binOp, Op.stringOp, data_eq], VR.bool _⟩
    | _ => simp [binV] at ok
  | bool p =>
    cases hb' with
    | bool q =>
      have hg : (eqGuard op t x y (.bool p) (.bool q)).run P w = .ok () w := by
        unfold eqGuard; split <;> simp
      simp only [Sem.run_bind, hg, Result.andThen_ok]; cases op <;> simp only [binV] at ok ⊢ <;> first | exact ok.elim | skip
      · exact ⟨.bool (p == q), by simp [binOp, run_eq_bool ok], VR.bool _⟩
      · exact ⟨.bool (!(p == q)), by simp [binOp, run_eq_bool ok], VR.bool _⟩
    | _ => simp [binV] at ok
  | agg xs us S h =>
    cases hb' with
    | agg ys vs S' h' =>
      cases op <;> simp only [binV] at ok ⊢ <;> first | exact ok.elim | skip
      · obtain ⟨h1, h2⟩ := ok
        have := eqs_sound h1 h2 h h'
        refine ⟨.bool (eqc xs ys), ?_, VR.bool _⟩; simp only [Sem.run_bind] at this
        have e : (eqGuard .eql t x y (.agg us.toArray) (.agg vs.toArray)).run P w = (eqGuard .eql t (.tmp 0) (.tmp 0) (.agg us.toArray) (.agg vs.toArray)).run P w := by simp [eqGuard]
        have e2 : binOp .eql t (.agg us.toArray) (.agg vs.toArray) = (do pure (.bool (← Op.equal t (.agg us.toArray) (.agg vs.toArray)))) := rfl
        simp only [Sem.run_bind, e, e2]
        revert this
        cases (eqGuard .eql t (.tmp 0) (.tmp 0) (.agg us.toArray) (.agg vs.toArray)).run P w with
        | ok _ w1 =>
          simp only [Result.andThen_ok]; intro this
          rw [this]; rfl
        | halt _ _ => intro this; cases this
      · obtain ⟨h1, h2⟩ := ok
        have := eqs_sound h1 h2 h h'
        refine ⟨.bool (!eqc xs ys), ?_, VR.bool _⟩; simp only [Sem.run_bind] at this
        have e : (eqGuard .neq t x y (.agg us.toArray) (.agg vs.toArray)).run P w = (eqGuard .eql t (.tmp 0) (.tmp 0) (.agg us.toArray) (.agg vs.toArray)).run P w := by simp [eqGuard]
        have e2 : binOp .neq t (.agg us.toArray) (.agg vs.toArray) = (do pure (.bool (!(← Op.equal t (.agg us.toArray) (.agg vs.toArray))))) := rfl
        simp only [Sem.run_bind, e, e2]
        revert this
        cases (eqGuard .eql t (.tmp 0) (.tmp 0) (.agg us.toArray) (.agg vs.toArray)).run P w with
        | ok _ w1 =>
          simp only [Result.andThen_ok]; intro this
          rw [this]; rfl
        | halt _ _ => intro this; cases this
    | _ => simp [binV] at ok
  | _ => simp [binV] at ok
theorem unV_sound {op : UnOp} {a : AV} {u : Value} (ha : VR w own φ a u []) (ok : (unV op a).1) : ∃ z, (Op.unary op u).run P w = .ok z w ∧ VR w own φ (unV op a).2 z [] := by
  cases ha with
  | int k n => cases op <;> simp only [unV] at ok ⊢ <;> first | exact ok.elim | exact ⟨_, by simp [Op.unary, Op.intArith], VR.int _ _⟩
  | bool b => cases op <;> simp only [unV] at ok ⊢ <;> first | exact ok.elim | exact ⟨_, by simp [Op.unary], VR.bool _⟩
  | _ => simp [unV] at ok
theorem pickV_sound {t : Bool} {a b : AV} {u v : Value} (ha : t = true → VR w own φ a u []) (hb' : t = false → VR w own φ b v []) : VR w own φ (pickV t a b) (if t then u else v) [] := by
  unfold pickV; split
  · rename_i x y
    cases t with
    | true => simp only [pb, if_true]; exact ha rfl
    | false => simp only [pb, Bool.false_eq_true, if_false]; exact hb' rfl
  · cases t with
    | true => simpa using ha rfl
    | false => simpa using hb' rfl
theorem tint_spec {t : TypeId} {k : IntKind} (h : tint P t = some k) : P.underlying t = some (.int k) := by
  unfold tint at h; split at h
  · rename_i k' hu; cases h; exact hu
  · cases h
theorem tstr_spec {t : TypeId} (h : tstr P t = true) : P.underlying t = some .string := by
  unfold tstr at h; split at h
  · assumption
  · cases h
theorem cvV_sound {src dst : TypeId} {a : AV} {u : Value} (ha : VR w own φ a u []) (ok : (cvV P src dst a).1) : ∃ z, (convert src dst u).run P w = .ok z w ∧ VR w own φ (cvV P src dst a).2 z [] := by
  cases ha with
  | int k n =>
    simp only [cvV] at ok ⊢
    cases hd : tint P dst with
    | some k' =>
      simp only [hd] at ok ⊢; obtain ⟨d, hs⟩ := Option.isSome_iff_exists.mp ok
      exact ⟨_, by simp [convert, run_underlying hs, run_underlying (tint_spec hd), Conv.intToInt], VR.int _ _⟩
    | none =>
      simp only [hd] at ok ⊢; split at ok
      · rename_i k' h1 h2
        refine ⟨.string (Utf8.encode n), ?_, ?_⟩
        · simp [convert, run_underlying h2, run_underlying (tstr_spec h1), Conv.intToString]
        · exact VR.str _
      · exact ok.elim
  | str s =>
    simp only [cvV] at ok ⊢
    cases hd : tstr P dst with
    | true =>
      simp only [hd] at ok ⊢; obtain ⟨d, hs⟩ := Option.isSome_iff_exists.mp ok
      exact ⟨.string s, by simp [convert, run_underlying hs, run_underlying (tstr_spec hd)], VR.str _⟩
    | false => simp [hd] at ok
  | _ => simp [cvV] at ok
theorem lenV_sound {t ty : TypeId} {a : AV} {u : Value} (ha : VR w own φ a u []) (ok : (lenV P t a).1) : ∃ z, (Builtin.len_ #[t] ty #[u]).run P w = .ok z w ∧ VR w own φ (lenV P t a).2 z [] := by
  have sl : ∀ {A : Option Addr} {n c : Nat}, (tel P t).isSome = true → (Builtin.len_ #[t] ty #[.slice A n c]).run P w = .ok (goInt n) w := by
    intro A n c h; obtain ⟨x, hx⟩ := Option.isSome_iff_exists.mp h; obtain ⟨e, i, hu, _⟩ := tel_spec (sz := x.1) (bytes := x.2) hx; simp [Builtin.len_, run_underlying hu]
  cases ha with
  | str s =>
    simp only [lenV] at ok ⊢
    exact ⟨_, by simp [Builtin.len_, run_underlying ok, goInt], VR.int _ _⟩
  | sl0 id off r A h => simp only [lenV] at ok ⊢; exact ⟨_, sl ok, VR.int _ _⟩
  | sl id off len cap r h hcap hlim => simp only [lenV] at ok ⊢; exact ⟨_, sl ok, VR.int _ _⟩
  | fz0 A cap => simp only [lenV] at ok ⊢; exact ⟨_, sl ok, VR.int _ _⟩
  | fz es sz A cap vs hlt ho hu hcap hs hc => simp only [lenV] at ok ⊢; exact ⟨_, sl ok, VR.int _ _⟩
  | nil A => simp only [lenV] at ok ⊢; exact ⟨_, sl ok, VR.int _ _⟩
  | _ => simp [lenV] at ok
theorem minV_sound {ts : Array TypeId} {ty : TypeId} {a b : AV} {u v : Value} (ha : VR w own φ a u []) (hb' : VR w own φ b v []) (ok : (minV [a, b]).1) : ∃ z, (Builtin.min_ ts ty #[u, v]).run P w = .ok z w ∧ VR w own φ (minV [a, b]).2 z [] := by
  cases ha with
  | int k n =>
    cases hb' with
    | int k' m => exact ⟨_, by simp [Builtin.min_, Builtin.min2], VR.int _ _⟩
    | _ => simp [minV] at ok
  | _ => simp [minV] at ok
theorem maxV_sound {ts : Array TypeId} {ty : TypeId} {a b : AV} {u v : Value} (ha : VR w own φ a u []) (hb' : VR w own φ b v []) (ok : (maxV [a, b]).1) : ∃ z, (Builtin.max_ ts ty #[u, v]).run P w = .ok z w ∧ VR w own φ (maxV [a, b]).2 z [] := by
  cases ha with
  | int k n =>
    cases hb' with
    | int k' m => exact ⟨_, by simp [Builtin.max_, Builtin.max2], VR.int _ _⟩
    | _ => simp [maxV] at ok
  | _ => simp [maxV] at ok
end
end HK
namespace HK
open Go
section
variable {P : Program} {w : World} {own : Nat → Prop} {φ : Refs}
inductive OR (w : World) (own : Nat → Prop) (φ : Refs) : Option AV → Option Value → Prop
  | none : OR w own φ none none
  | some (a : AV) (v : Value) (h : VR w own φ a v []) : OR w own φ (some a) (some v)
theorem bnd_sound {d : Nat} {a : Option AV} {v : Option Value} {l : Int} (h : OR w own φ a v) (e : bnd d a = some l) :
    (v = none ∧ l = d) ∨ ∃ k, v = some (.int k l) := by
  cases h with
  | none => simp [bnd] at e; exact .inl ⟨rfl, e.symm⟩
  | some a v h =>
    cases h <;> simp [bnd] at e
    subst e; exact .inr ⟨_, rfl⟩
theorem run_sliceBounds {b : Bool} {len cap : Nat} {la ha : Option AV} {lv hv : Option Value} {l u : Int} (hl : OR w own φ la lv) (hh : OR w own φ ha hv) (el : bnd 0 la = some l) (eh : bnd len ha = some u)
    (h0 : 0 ≤ l) (h1 : l ≤ u) (h2 : u ≤ cap) : (Instr.sliceBounds b len cap lv hv none).run P w = .ok (l.toNat, u.toNat, cap) w := by
  unfold Instr.sliceBounds; rcases bnd_sound hh eh with ⟨rfl, rfl⟩ | ⟨k, rfl⟩
  · rcases bnd_sound hl el with ⟨rfl, rfl⟩ | ⟨k, rfl⟩
    · simp
    · simp [Instr.sliceBound, asIntOf, h0, h1]
  · have : 0 ≤ u := by omega
    rcases bnd_sound hl el with ⟨rfl, rfl⟩ | ⟨k, rfl⟩
    · simp [Instr.sliceBound, asIntOf, h2, this]
    · have hlu : l ≤ (u.toNat : Int) := by omega
      simp only [Instr.sliceBound, asIntOf, Sem.run_bind, Sem.run_pure, Result.andThen_ok]; rw [if_pos ⟨this, h2⟩]; simp only [Sem.run_pure, Result.andThen_ok]; rw [if_pos ⟨h0, hlu⟩]; rfl
theorem Seg.take {A : Addr} {vs : List Value} (h : Seg w A vs) (n : Nat) : Seg w A (vs.take n) := by
  intro k v hv; rw [List.getElem?_take] at hv; split at hv
  · exact h k v hv
  · cases hv
theorem Seg.drop {A : Addr} {vs : List Value} (h : Seg w A vs) (n : Nat) : Seg w (A.add n) (vs.drop n) := by
  intro k v hv; rw [List.getElem?_drop] at hv; rw [add_add]; exact h _ v hv
theorem sliceS_sound {t : TypeId} (ht : P.underlying t = some .string) {h : Heap} {sz : Nat} {s : ByteArray} {la ha : Option AV} {lv hv : Option Value} (hl : OR w own φ la lv) (hh : OR w own φ ha hv) (ok : (sliceV h sz la ha (.str s)).1) :
    ∃ z, (Instr.sliceAt t (.string s) lv hv none).run P w = .ok z w ∧ VR w own φ (sliceV h sz la ha (.str s)).2 z [] := by
  simp only [sliceV] at ok ⊢
  cases el : bnd 0 la with
  | none => simp [el] at ok
  | some l =>
    cases eh : bnd s.size ha with
    | none => simp [el, eh] at ok
    | some u =>
      simp only [el, eh] at ok ⊢; obtain ⟨h0, h1, h2⟩ := ok; refine ⟨_, ?_, VR.str _⟩; simp [Instr.sliceAt, Instr.slice, run_underlying ht, run_sliceBounds hl hh el eh h0 h1 h2]
theorem slice_sound {h : Heap} {Ss : List (List Nat)} (hheap : HR w own φ h Ss) {t : TypeId} {sz bytes : Nat} (ht : tel P t = some (sz, bytes)) {a : AV} {x : Value} {la ha : Option AV} {lv hv : Option Value} (hx : VR w own φ a x []) (hns : ¬ ∃ s, a = .str s)
    (hl : OR w own φ la lv) (hh : OR w own φ ha hv) (ok : (sliceV h sz la ha a).1) :
    ∃ z, (Instr.sliceAt t x lv hv none).run P w = .ok z w ∧ VR w own φ (sliceV h sz la ha a).2 z [] := by
  obtain ⟨e, i, hu, hi, hsz, -⟩ := tel_spec ht
  have go : ∀ {A : Option Addr} {len cap : Nat} {l u : Int}, bnd 0 la = some l → bnd len ha = some u → 0 ≤ l → l ≤ u → u ≤ cap →
      (Instr.sliceAt t (.slice A len cap) lv hv none).run P w = .ok (.slice (if cap = l.toNat then A else A.map (·.add (l.toNat * sz))) (u.toNat - l.toNat) (cap - l.toNat)) w := by
    intro A len cap l u el eh h0 h1 h2; simp [Instr.sliceAt, Instr.slice, run_underlying hu, run_sliceBounds hl hh el eh h0 h1 h2, run_sizeI hi, hsz]
  cases hx with
  | str s => exact absurd ⟨s, rfl⟩ hns
  | nil A =>
    simp only [sliceV] at ok ⊢
    cases el : bnd 0 la with
    | none => simp [el] at ok
    | some l =>
      cases eh : bnd 0 ha with
      | none => simp [el, eh] at ok
      | some u =>
        simp only [el, eh] at ok ⊢; obtain ⟨rfl, rfl⟩ := ok
        exact ⟨_, go el eh (Int.le_refl _) (Int.le_refl _) (Int.le_refl _), .nil _⟩
  | sl0 id off r A hr =>
    simp only [sliceV] at ok ⊢
    cases el : bnd 0 la with
    | none => simp [el] at ok
    | some l =>
      cases eh : bnd 0 ha with
      | none => simp [el, eh] at ok
      | some u =>
        simp only [el, eh] at ok ⊢; split at ok
        · rename_i l' u' b e1 e2 hb'
          cases e1; cases e2
          obtain ⟨h0, h1, h2, h3⟩ := ok; have hu0 : u = 0 := by simp at h2; omega
          have hl0 : l = 0 := by omega
          subst hu0; subst hl0; exact ⟨_, go el eh (Int.le_refl _) (Int.le_refl _) (Int.le_refl _), .sl0 _ _ r _ hr⟩
        · exact ok.elim
  | sl id off len cap r hr hcap hlim =>
    simp only [sliceV] at ok ⊢
    cases el : bnd 0 la with
    | none => simp [el] at ok
    | some l =>
      cases eh : bnd len ha with
      | none => simp [el, eh] at ok
      | some u =>
        cases hb' : hb h id with
        | none => simp [el, eh, hb'] at ok
        | some b =>
          simp only [el, eh, hb'] at ok ⊢; obtain ⟨h0, h1, h2, h3⟩ := ok; refine ⟨_, go el eh h0 h1 (by omega), ?_⟩
          have hid : h[id]? = some (some b) := by
            unfold hb at hb'; split at hb' <;> simp_all
          have hrs : r.sz = sz := by
            obtain ⟨S, hS, hB⟩ := hheap id b hid; rcases hB with ⟨h1, _, _⟩ | ⟨r', vs, T, h1, h4, _⟩
            · rw [hr] at h1; cases h1
            · rw [hr] at h1; cases h1; rw [h4, h3]
          by_cases hc : cap = l.toNat
          · have h4 : u.toNat - l.toNat = 0 := by omega
            have h5 : cap - l.toNat = 0 := by omega
            have h6 : (u - l).toNat = 0 := by omega
            rw [h4, h5, h6]; exact .sl0 _ _ _ _ hr
          · rw [if_neg hc]
            have e1 : (u - l).toNat = u.toNat - l.toNat := by omega
            rw [e1, Option.map_some, add_row, ← hrs]
            have := VR.sl (w := w) (own := own) (φ := φ) id (off + l.toNat) (u.toNat - l.toNat) (cap - l.toNat) r hr (by omega) (by
              have : off + l.toNat + (cap - l.toNat) = off + cap := by omega
              rw [this]; exact hlim)
            rwa [Nat.add_mul, ← Nat.add_assoc] at this
  | fz0 A cap =>
    simp only [sliceV] at ok ⊢
    cases el : bnd 0 la with
    | none => simp [el] at ok
    | some l =>
      cases eh : bnd 0 ha with
      | none => simp [el, eh] at ok
      | some u =>
        simp only [List.length_nil, el, eh] at ok ⊢; obtain ⟨h0, h1, h2, h3⟩ := ok; have hu0 : u = 0 := by simp at h2; omega
        have hl0 : l = 0 := by omega
        subst hu0; subst hl0; refine ⟨_, go el eh (Int.le_refl _) (Int.le_refl _) (by omega), ?_⟩; simp only [Int.toNat_zero, List.drop_zero, Int.sub_zero, List.take_zero]
        exact .fz0 _ _
  | fz es sz' A cap vs hlt ho hu' hcap hs hc =>
    simp only [sliceV] at ok ⊢
    cases el : bnd 0 la with
    | none => simp [el] at ok
    | some l =>
      cases eh : bnd es.length ha with
      | none => simp [el, eh] at ok
      | some u =>
        simp only [el, eh] at ok ⊢; obtain ⟨h0, h1, h2, h3⟩ := ok; refine ⟨_, go el eh h0 h1 (by omega), ?_⟩; by_cases hlu : l = u
        · subst hlu
          have h4 : l.toNat - l.toNat = 0 := by omega
          have h6 : (l - l).toNat = 0 := by omega
          rw [h4, h6, List.take_zero]; exact .fz0 _ _
        · have hlt' : l.toNat < es.length := by omega
          have hsz' : sz' = sz := by
            have := h3 (by omega)
            rw [(flat_split hu' hlt').2.2] at this; exact this
          subst hsz'; rw [if_neg (by omega), Option.map_some]; have e1 : (u - l).toNat = u.toNat - l.toNat := by omega
          have hln : ((es.drop l.toNat).take (u.toNat - l.toNat)).length = u.toNat - l.toNat := by simp; omega
          have := VR.fz (w := w) (own := own) (φ := φ) ((es.drop l.toNat).take (u.toNat - l.toNat)) sz' (A.add (l.toNat * sz')) (cap - l.toNat) (((vs.drop (l.toNat * sz'))).take ((u.toNat - l.toNat) * sz'))
            (by rw [add_block]; exact hlt) (by rw [add_block]; exact ho) (fun e he => hu' e (List.mem_of_mem_drop (List.mem_of_mem_take he))) (by rw [hln]; omega) ((hs.drop _).take _) ?_
          · rw [hln] at this; rw [e1]; exact this
          · have e2 : es.flatten = (es.take l.toNat).flatten ++ (((es.drop l.toNat).take (u.toNat - l.toNat)).flatten ++ ((es.drop l.toNat).drop (u.toNat - l.toNat)).flatten) := by
              rw [← List.flatten_append, ← List.flatten_append, List.take_append_drop, List.take_append_drop]
            rw [e2] at hc; obtain ⟨v1, v23, S1, S23, rfl, hS, hc1, hc23⟩ := hc.split; obtain ⟨v2, v3, S2, S3, rfl, rfl, hc2, hc3⟩ := hc23.split
            have l1 : v1.length = l.toNat * sz' := by
              rw [← hc1.length, flat_length (sz := sz') fun e he => hu' e (List.mem_of_mem_take he)]; rw [List.length_take, Nat.min_eq_left (by omega)]
            have l2 : v2.length = (u.toNat - l.toNat) * sz' := by
              rw [← hc2.length, flat_length (sz := sz') fun e he => hu' e (List.mem_of_mem_drop (List.mem_of_mem_take he)), hln]
            rw [← l1, List.drop_left, ← l2, List.take_left]
            have : S2 = [] := by
              have := (List.append_eq_nil_iff.1 (List.append_eq_nil_iff.1 hS.symm).2).1; exact this
            subst this; exact hc2
  | _ => simp [sliceV] at ok
end
end HK
namespace HK
open Go
section
variable {P : Program} {w : World} {own : Nat → Prop} {φ : Refs}
theorem cellsA_sound {v : AV} {x : Value} {S : List Nat} {l : List AV} (h : VR w own φ v x S) (e : cellsA v = some l) : CR w own φ l x.cells.toList S := by
  cases h with
  | agg cs vs S h => simp [cellsA] at e; subst e; simpa [Value.cells] using h
  | undef _ | con _ | tup _ _ _ _ | condT _ _ _ _ | condF _ => simp [cellsA, oc] at e
  | bool _ => simp [cellsA, oc] at e; subst e; exact CR.one (.bool _)
  | int _ _ => simp [cellsA, oc] at e; subst e; exact CR.one (.int _ _)
  | str _ => simp [cellsA, oc] at e; subst e; exact CR.one (.str _)
  | nil _ => simp [cellsA, oc] at e; subst e; exact CR.one (.nil _)
  | fz0 _ _ => simp [cellsA, oc] at e; subst e; exact CR.one (.fz0 _ _)
  | fz es sz A cap vs hlt ho hu hcap hs hc => simp [cellsA, oc] at e; subst e; exact CR.one (.fz es sz A cap vs hlt ho hu hcap hs hc)
  | own0 _ _ => simp [cellsA, oc] at e; subst e; exact CR.one (.own0 _ _)
  | own es sz rb o cap lim vs S hr hu hcap hlim hs hc => simp [cellsA, oc] at e; subst e; exact CR.one (.own es sz rb o cap lim vs S hr hu hcap hlim hs hc)
  | sl0 _ _ r _ hr => simp [cellsA, oc] at e; subst e; exact CR.one (.sl0 _ _ r _ hr)
  | sl _ _ _ _ r hr h1 h2 => simp [cellsA, oc] at e; subst e; exact CR.one (.sl _ _ _ _ r hr h1 h2)
  | ptr _ _ _ r hr => simp [cellsA, oc] at e; subst e; exact CR.one (.ptr _ _ _ r hr)
  | fptr es sz A vs i j hlt ho hu hs hc => simp [cellsA, oc] at e; subst e; exact CR.one (.fptr es sz A vs i j hlt ho hu hs hc)
  | fn f first cap fs cs h h' => simp [cellsA, oc] at e; subst e; exact CR.one (.fn f first cap fs cs h h')
theorem fold_cells (off : Nat) : ∀ (xs : List Value) (k : Nat) (cells : Array Value), off + k + xs.length ≤ cells.size →
    ((xs.zipIdx k).foldl (fun cs (cj : Value × Nat) => cs.setIfInBounds (off + cj.2) cj.1) cells).toList = cells.toList.take (off + k) ++ (xs ++ cells.toList.drop (off + k + xs.length))
  | [], k, cells, _ => by simp
  | x :: xs, k, cells, h => by
    simp only [List.length_cons] at h; simp only [List.zipIdx_cons, List.foldl_cons]; rw [fold_cells off xs (k + 1) _ (by simp; omega)]; have hl : off + k < cells.toList.length := by simp; omega
    have e1 : (cells.setIfInBounds (off + k) x).toList = cells.toList.take (off + k) ++ (x :: cells.toList.drop (off + k + 1)) := by
      rw [Array.toList_setIfInBounds, List.set_eq_take_append_cons_drop, if_pos hl]
    have hlt : (cells.toList.take (off + k)).length = off + k := by rw [List.length_take, Nat.min_eq_left (by omega)]
    rw [e1]; have e2 : off + (k + 1) = (cells.toList.take (off + k)).length + 1 := by omega
    have e3 : off + (k + 1) + xs.length = (cells.toList.take (off + k)).length + (1 + xs.length) := by omega
    rw [e3, e2, List.take_append, List.drop_append]; simp only [Nat.add_sub_cancel_left, List.length_cons]; rw [List.take_of_length_le (by omega), List.drop_of_length_le (l := List.take (off + k) cells.toList) (by omega)]
    simp only [List.take_succ_cons, List.take_zero, Nat.add_comm 1 xs.length, List.drop_succ_cons, List.drop_drop, List.nil_append, List.append_assoc, List.cons_append]
    congr 4
    omega
theorem cr_splice {cs xs : List AV} {us ys : List Value} {off : Nat} (h : CR w own φ cs us []) (k : CR w own φ xs ys []) (hl : off + xs.length ≤ cs.length) :
    CR w own φ (splice cs off xs) (us.take off ++ (ys ++ us.drop (off + ys.length))) [] := by
  have e : cs = cs.take off ++ (cs.drop off) := (List.take_append_drop ..).symm
  have e' : cs = cs.take (off + xs.length) ++ (cs.drop (off + xs.length)) := (List.take_append_drop ..).symm
  have h1 := h; rw [e] at h1
  have h2 := h; rw [e'] at h2
  obtain ⟨a1, a2, S1, S2, ea, eS, c1, _⟩ := h1.split; obtain ⟨b1, b2, T1, T2, eb, eT, _, c2⟩ := h2.split; have hS1 : S1 = [] := (List.append_eq_nil_iff.1 eS.symm).1
  have hT2 : T2 = [] := (List.append_eq_nil_iff.1 eT.symm).2
  subst hS1; subst hT2; have l1 : a1.length = off := by rw [← c1.length, List.length_take, Nat.min_eq_left (by omega)]
  have l2 : b1.length = off + xs.length := by
    have := h.length
    have h3 := c2.length
    rw [List.length_drop] at h3; rw [eb, List.length_append] at this; omega
  have t1 : us.take off = a1 := by rw [ea, ← l1, List.take_left]
  have t2 : us.drop (off + ys.length) = b2 := by rw [eb, ← k.length, ← l2, List.drop_left]
  rw [t1, t2]; exact c1.app (k.app c2)
theorem fill_sound (pl : Nat → Option (Nat × Nat)) : ∀ (ps : List (Nat × AV)) (qs : List (Nat × Value)) (cs : List AV) (cells : Array Value) (out : List AV),
    ps.length = qs.length → (∀ (k : Nat) p q, ps[k]? = some p → qs[k]? = some q → p.1 = q.1 ∧ VR w own φ p.2 q.2 []) → CR w own φ cs cells.toList [] → fillV pl cs ps = some out →
    ∃ r, Instr.fill pl cells qs = some r ∧ CR w own φ out r.toList []
  | [], [], cs, cells, out, _, _, h, e => by simp [fillV] at e; subst e; exact ⟨cells, rfl, h⟩
  | (i, v) :: ps, (i', x) :: qs, cs, cells, out, hl, hp, h, e => by
    obtain ⟨hi, hv⟩ := hp 0 _ _ rfl rfl; simp only at hi hv; subst hi; simp only [fillV] at e
    cases hpl : pl i with
    | none => simp [hpl] at e
    | some on =>
      obtain ⟨off, n⟩ := on
      cases hca : cellsA v with
      | none => simp [hpl, hca] at e
      | some xs =>
        simp only [hpl, hca] at e; split at e
        · rename_i hc
          obtain ⟨hc1, hc2⟩ := hc; have hx := cellsA_sound hv hca
          have hxl := hx.length
          have hcl := h.length
          simp only [Array.length_toList] at hxl hcl; simp only [Instr.fill, hpl]; rw [if_neg (by simp; omega)]
          refine fill_sound pl ps qs _ _ out (by simpa using hl) (fun k p q h1 h2 => hp (k + 1) p q (by simpa using h1) (by simpa using h2)) ?_ e; have := fold_cells off x.cells.toList 0 cells (by simp; omega)
          rw [← Array.toList_zipIdx] at this; rw [← Array.foldl_toList, this]; simp only [Nat.add_zero]; exact cr_splice h hx (by omega)
        · cases e
  | [], _ :: _, _, _, _, hl, _, _, _ => by simp at hl
  | _ :: _, [], _, _, _, hl, _, _, _ => by simp at hl
end
end HK
namespace HK
open Go
section
variable {P : Program} {w : World} {own : Nat → Prop} {φ : Refs}
theorem allGk_mem {ρ : Operand → AV} : ∀ {l : List Operand}, allGk ρ l → ∀ x ∈ l, gk (ρ x)
  | [], _, _, hx => by cases hx
  | y :: l, h, x, hx => by
    rcases List.mem_cons.1 hx with rfl | hx
    · exact h.1
    · exact allGk_mem h.2 x hx
theorem cr_map {ρ : Operand → AV} {r : Operand → Value} : ∀ {l : List Operand}, (∀ x ∈ l, VR w own φ (ρ x) (r x) []) → allGk ρ l → CR w own φ (l.map fun x => st1 (ρ x)) (l.map r) []
  | [], _, _ => .nil
  | x :: l, h, g => by
    have := CR.cons _ _ _ _ _ _ ((h x (List.mem_cons_self ..)).strip g.1) (cr_map (l := l) (fun y hy => h y (List.mem_cons_of_mem _ hy)) g.2)
    simpa using this
theorem or_map {ρ : Operand → AV} {r : Operand → Value} {o : Option Operand} (h : ∀ x ∈ o.toList, VR w own φ (ρ x) (r x) []) (g : allGk ρ o.toList) : OR w own φ (o.map (st1 <| ρ ·)) (o.map r) := by
  cases o with
  | none => exact .none
  | some x => exact .some _ _ ((h x (by simp)).strip g.1)
theorem mapM_places (P : Program) (w : World) : ∀ (fs : List Field), (fs.all fun f => (P.info? f.type).isSome) = true →
    (fs.mapM (m := Sem) fun f => do pure (f.offset, ← Go.sizeOf f.type)).run P w = .ok (fs.map fun f => (f.offset, P.cellsOf f.type)) w
  | [], _ => by simp
  | f :: fs, h => by
    simp only [List.all_cons, Bool.and_eq_true] at h; obtain ⟨i, hi⟩ := Option.isSome_iff_exists.1 h.1; have ih := mapM_places P w fs h.2
    simp only [List.mapM_cons, Sem.run_bind, run_sizeI hi, Result.andThen_ok, Sem.run_pure]; rw [ih]; simp [Program.cellsOf, hi]
theorem hb_spec8 {h : Heap} {id : Nat} {b : Blk} (e : hb h id = some b) : h[id]? = some (some b) := by
  unfold hb at e; split at e
  · rename_i q; cases e; exact q
  · cases e
theorem byt_vals : ∀ {es : List (List AV)} {vs : List Value} {S : List Nat} {ns : List Int}, CR w own φ es.flatten vs S → bytC es = some ns → vs = ns.map (Value.int .u8)
  | [], vs, S, ns, h, e => by
    simp [bytC] at e; subst e; simp at h; cases h
    rfl
  | e0 :: es, vs, S, ns, h, e => by
    unfold bytC at e; split at e
    · rename_i heq; cases heq
    · rename_i n l heq
      cases heq
      cases hb' : bytC es with
      | none => simp [hb'] at e
      | some m =>
        simp [hb'] at e; subst e; rw [List.flatten_cons] at h; obtain ⟨v, us, S1, S2, rfl, rfl, k1, k2⟩ := h.uncons; cases k1
        have q := byt_vals (es := es) (vs := us) (by simpa using k2) hb'
        subst q; rfl
    · cases e
theorem bytC_len : ∀ {es : List (List AV)} {ns : List Int}, bytC es = some ns → ns.length = es.length
  | [], ns, e => by simp [bytC] at e; subst e; rfl
  | e0 :: es, ns, e => by
    unfold bytC at e; split at e
    · rename_i heq; cases heq
    · rename_i n l heq
      cases heq
      cases hb' : bytC es with
      | none => simp [hb'] at e
      | some m => simp [hb'] at e; subst e; simp [bytC_len hb']
    · cases e
theorem cvH_sound {h : Heap} {Ss : List (List Nat)} (hh : HR w own φ h Ss) {src dst : TypeId} {a : AV} {u : Value} (ha : VR w own φ a u []) (ok : (cvH P h src dst a).1) : ∃ z, (convert src dst u).run P w = .ok z w ∧ VR w own φ (cvH P h src dst a).2 z [] := by
  unfold cvH at ok ⊢; split at ok
  · rename_i hb'
    split at ok
    · rename_i es hd he
      split at ok
      · rename_i ns hns
        simp only [hd, he, hns]; unfold tbyt at hb'; split at hb'
        · rename_i e hs
          split at hb'
          · rename_i hE
            have key : ∃ A len cap, u = .slice A len cap ∧ len = ns.length ∧ (A = none → ns = []) ∧ ∀ B, A = some B → Seg w B (ns.map (Value.int .u8)) := by
              cases ha with
              | nil A =>
                simp [partE] at he; subst he; simp [bytC] at hns; subst hns
                exact ⟨A, 0, 0, rfl, rfl, fun _ => rfl, fun B _ n v hv => by simp at hv⟩
              | fz0 A cap =>
                simp [partE] at he; subst he; simp [bytC] at hns; subst hns
                exact ⟨A, 0, cap, rfl, rfl, fun _ => rfl, fun B _ n v hv => by simp at hv⟩
              | fz es' sz A cap vs hlt ho hu hcap hsg hc =>
                simp [partE] at he; subst he; have hv := byt_vals hc hns
                subst hv
                exact ⟨some A, _, cap, rfl, (bytC_len hns).symm, (fun e => by cases e), (fun B hB => by cases hB; exact hsg)⟩
              | sl0 id off r A hr =>
                simp only [partE] at he; split at he
                · split at he
                  · simp at he
                    subst he; simp [bytC] at hns; subst hns; exact ⟨A, 0, 0, rfl, rfl, fun _ => rfl, fun B _ n v hv => by simp at hv⟩
                  · cases he
                · cases he
              | sl id off len cap r hr hcap hlim =>
                simp only [partE] at he; split at he
                · rename_i b hbb
                  split at he
                  · rename_i hle
                    simp at he; obtain ⟨S, hS, hB⟩ := hh id b (hb_spec8 hbb); rcases hB with ⟨h1, _, _⟩ | ⟨r', vs, T, h1, h2, h3, h4, h5, h6, h7, rfl⟩
                    · rw [hr] at h1; cases h1
                    · rw [hr] at h1; cases h1
                      have f1 : b.es.flatten = (b.es.take off).flatten ++ (((b.es.drop off).take len).flatten ++ ((b.es.drop off).drop len).flatten) := by
                        rw [← List.flatten_append, ← List.flatten_append, List.take_append_drop, List.take_append_drop]
                      rw [f1] at h7; obtain ⟨v1, v2', S1, S2', rfl, rfl, c1, c2⟩ := h7.split; obtain ⟨v2, v3, S2, S3, rfl, rfl, c2, c3⟩ := c2.split; rw [he] at c2; have hv := byt_vals c2 hns
                      subst hv; have hsg := h6.split
                      have hl1 : v1.length = off := by
                        rw [← c1.length, flat_length (sz := b.sz) fun e he => h4 e (List.mem_of_mem_take he), List.length_take, Nat.min_eq_left (by omega), hle.1, Nat.mul_one]
                      have hl2 : ns.length = len := by rw [bytC_len hns, ← he]; simp; omega
                      rw [add_row, hl1] at hsg; refine ⟨_, len, cap, rfl, hl2.symm, (fun e => by cases e), fun B hB => ?_⟩; cases hB
                      rw [h2, hle.1, Nat.mul_one]; exact hsg
                  · cases he
                · cases he
              | _ => simp [partE] at he
            obtain ⟨A, len, cap, rfl, hlen, hA, hB⟩ := key; refine ⟨.string (strB ns), ?_, VR.str _⟩; rw [run_convert_bytes_string w src dst e A len cap hs hE (tstr_spec hd)]
            cases A with
            | none =>
              have := hA rfl
              subst this
              simp [Conv.bytesToString, strB]
            | some B =>
              refine run_bytesToString w B len cap ns ?_; have := run_loadCells_list (P := P) w B (ns.map (Value.int .u8)) (hB B rfl)
              rw [List.length_map, ← hlen] at this; exact this
          · cases hb'
        · cases hb'
      · exact ok.elim
    · exact ok.elim
  · rename_i hb'
    exact cvV_sound ha ok
theorem elemV_sound {t : TypeId} {m sz : Nat} (hs : tel P t = none) (ht : tarr P t = some (m, sz)) {v : AV} {x : Value} {k : IntKind} {n : Int} (hv : VR w own φ v x []) (ok : (elemV m sz n v).1) :
    ∃ y, (Instr.indexAt t x (.int k n)).run P w = .ok y w ∧ VR w own φ (elemV m sz n v).2 y [] := by
  unfold tarr at ht; split at ht
  · rename_i len e hu
    split at ht
    · rename_i i hi
      cases ht
      have run : ∀ (A : Addr), 0 ≤ n → n < m → (Instr.indexAt t (.pointer (some A)) (.int k n)).run P w = .ok (.pointer (some (A.add (n.toNat * i.size)))) w := fun A h0 h1 => by
        simp [Instr.indexAt, asIntOf, run_underlying hu, Instr.sureAddr, h0, h1, run_sizeI hi]
      cases hv with
      | ptr id i' j r hr =>
        simp only [elemV] at ok ⊢; refine ⟨_, run _ ok.1 ok.2, ?_⟩; rw [add_row, Nat.add_assoc]
        exact .ptr id i' _ r hr
      | fptr es sz A vs i' j hlt ho hu hs hc =>
        simp only [elemV] at ok ⊢; refine ⟨_, run _ ok.1 ok.2, ?_⟩; rw [add_add, Nat.add_assoc]
        exact .fptr es sz A vs i' _ hlt ho hu hs hc
      | _ => simp [elemV] at ok
    · cases ht
  · cases ht
theorem arrZ_sound {t : TypeId} {z : List AV} (ht : tarrZ P t = some z) : ∃ y, (Instr.build t #[]).run P w = .ok y w ∧ VR w own φ (.agg z) y [] := by
  unfold tarrZ at ht; split at ht
  · rename_i m e i hu hi
    split at ht
    · rename_i ie zv he hz
      cases ht
      refine ⟨.agg zv.cells, by simp [Instr.build, zeroValue, run_info hi, hz, run_underlying hu, run_sizeI he, Instr.fill], ?_⟩; have := VR.agg (w := w) (own := own) (φ := φ) _ zv.cells.toList _ (CR.absC _)
      simpa using this
    · cases ht
  · cases ht
theorem build_sound {t : TypeId} {pl : List (Nat × Nat)} {z : List AV} (ht : tplaces P t = some (pl, z)) {ρ : Operand → AV} {r : Operand → Value} {parts : Array (Nat × Operand)} {cs : List AV}
    (e : fillV (fun i => pl[i]?) z (parts.toList.map fun p => (p.1, st1 (ρ p.2))) = some cs) (h : ∀ x ∈ parts.toList.map (·.2), VR w own φ (ρ x) (r x) []) (g : allGk ρ (parts.toList.map (·.2))) :
    ∃ y, (Instr.build t (parts.map fun (i, x) => (i, r x))).run P w = .ok y w ∧ VR w own φ (.agg cs) y [] := by
  unfold tplaces at ht; split at ht
  · rename_i fs i hu hi
    split at ht
    · rename_i zv hz
      split at ht
      · rename_i hall
        cases ht
        have hcz : CR w own φ (zv.cells.toList.map absC) zv.cells.toList [] := CR.absC _
        obtain ⟨rr, hf, hc⟩ := fill_sound (w := w) (own := own) (φ := φ) (fun i => (fs.toList.map (fun f => (f.offset, P.cellsOf f.type)))[i]?) (parts.toList.map fun p => (p.1, st1 (ρ p.2))) (parts.toList.map fun p => (p.1, r p.2)) _ zv.cells cs (by simp)
          (by
            intro k p q h1 h2; rw [List.getElem?_map] at h1 h2
            cases hk : parts.toList[k]? with
            | none => simp [hk] at h1
            | some pq =>
              simp [hk] at h1 h2; subst h1; subst h2; have hm : pq.2 ∈ parts.toList.map (·.2) := List.mem_map.2 ⟨pq, List.mem_of_getElem? hk, rfl⟩
              exact ⟨rfl, (h _ hm).strip (allGk_mem g _ hm)⟩) hcz e
        refine ⟨.agg rr, ?_, ?_⟩
        · have hm := mapM_places P w fs.toList hall
          have hm' : (fs.mapM (m := Sem) fun f => do pure (f.offset, ← Go.sizeOf f.type)).run P w = .ok (fs.toList.map fun f => (f.offset, P.cellsOf f.type)).toArray w := by
            rw [← Array.toList_mapM] at hm
            have : ∀ {α} (s : Sem (Array α)) (l : List α), ((Array.toList <$> s).run P w = .ok l w) → s.run P w = .ok l.toArray w := by
              intro α s l hs; simp only [Sem.run_map] at hs
              cases hs' : s.run P w with
              | ok a w' => rw [hs'] at hs; simp at hs; obtain ⟨rfl, rfl⟩ := hs; simp
              | halt x w' => rw [hs'] at hs; simp at hs
            exact this _ _ hm
          have hzv : (zeroValue t).run P w = .ok zv w := by simp [zeroValue, run_info hi, hz]
          have e2 : (parts.map fun (i, x) => (i, r x)).toList = parts.toList.map fun p => (p.1, r p.2) := by simp
          have e3 : (fun i : Nat => ((fs.toList.map fun f => (f.offset, P.cellsOf f.type)).toArray)[i]?) = (fun i : Nat => (fs.toList.map (fun f => (f.offset, P.cellsOf f.type)))[i]?) := by funext i; simp
          unfold Instr.build; rw [Sem.run_bind, hzv, Result.andThen_ok]; rw [Sem.run_bind, run_underlying hu, Result.andThen_ok]; simp only []; rw [Sem.run_bind, hm', Result.andThen_ok, e2]; simp only [e3, hf]; rfl
        · have := VR.agg (w := w) (own := own) (φ := φ) cs rr.toList [] hc
          simpa using this
      · cases ht
    · cases ht
  · cases ht
theorem bt_eq (s : ByteArray) (n : Nat) (h : n < s.size) : s[n]? = some (s.data.toList.getD n 0) := by
  have : s.size = s.data.toList.length := (Array.length_toList ..).symm
  rw [getElem?_pos s n h]
  congr 1
  have h2 : n < s.data.toList.length := by omega
  rw [List.getD_eq_getElem?_getD, List.getElem?_eq_getElem h2]; rfl
theorem cr_cells {cs : List AV} {vs : List Value} {off n : Nat} (hc : CR w own φ cs vs []) (hl : off + n ≤ cs.length) : CR w own φ (cellsAt cs off n) ((vs.drop off).take n) [] := by
  have e : cs = cs.take off ++ (cellsAt cs off n ++ (cs.drop off).drop n) := by
    unfold cellsAt; rw [List.take_append_drop, List.take_append_drop]
  rw [e] at hc; obtain ⟨v1, v2', S1, S2', rfl, hS, h1, h2⟩ := hc.split; obtain ⟨v2, v3, S2, S3, rfl, rfl, h2, h3⟩ := h2.split
  have hS1 : S2 = [] := by
    have := hS.symm
    simp at this; exact this.2.1
  subst hS1; have l1 : v1.length = off := by rw [← h1.length]; simp; omega
  have l2 : v2.length = n := by rw [← h2.length]; simp [cellsAt]; omega
  have : (List.drop off (v1 ++ (v2 ++ v3))).take n = v2 := by
    rw [← l1, List.drop_left, ← l2, List.take_left]
  rw [this]; exact h2
theorem fieldP_sound {s : TypeId} {f off n : Nat} {g : Bool} {x : Operand} (ht : tfld P s f = some (off, g, n)) {cs : List AV} {vs : List Value} (hl : off + n ≤ cs.length) (hg : g = false → n = 1) (hc : CR w own φ cs vs []) :
    ∃ y, (Instr.field s (.agg vs.toArray) f).run P w = .ok y w ∧ VR w own φ (asV g (cellsAt cs off n)) y [] := by
  unfold tfld at ht; split at ht
  · rename_i fs hu
    split at ht
    · rename_i d hd
      split at ht
      · rename_i g' n' hk
        simp only [Option.some.injEq, Prod.mk.injEq] at ht; obtain ⟨rfl, rfl, rfl⟩ := ht; have hv := cr_cells hc hl
        cases g' with
        | true =>
          refine ⟨.agg (vs.toArray.extract d.offset (d.offset + n')), ?_, ?_⟩
          · simp [Instr.field, run_underlying hu, hd, part, asAgg, run_isAgg hk, run_size hk]
          · have e : vs.toArray.extract d.offset (d.offset + n') = ((vs.drop d.offset).take n').toArray := by
              apply Array.ext'
              simp
            rw [e]
            exact .agg _ _ _ hv
        | false =>
          have h1 := hg rfl
          subst h1; have hlen := hc.length
          obtain ⟨y, hy⟩ : ∃ y, vs[d.offset]? = some y := ⟨_, List.getElem?_eq_getElem (by omega)⟩
          refine ⟨y, ?_, ?_⟩
          · simp [Instr.field, run_underlying hu, hd, part, asAgg, run_isAgg hk, hy]
          · have e : (vs.drop d.offset).take 1 = [y] := by
              rw [List.take_one, List.head?_drop, hy]; rfl
            rw [e] at hv
            obtain ⟨c, hcc⟩ : ∃ c, cellsAt cs d.offset 1 = [c] := by
              have : (cellsAt cs d.offset 1).length = 1 := by simp [cellsAt]; omega
              match hq : cellsAt cs d.offset 1, this with
              | [c], _ => exact ⟨c, rfl⟩
            rw [hcc] at hv ⊢; obtain ⟨y', e1, e2⟩ := hv.head; cases e1
            exact e2
      · cases ht
    · cases ht
  · cases ht
theorem evP_sound {h : Heap} {Ss : List (List Nat)} (hh : HR w own φ h Ss) {ρ : Operand → AV} {r : Operand → Value} {o : Oper} (hops : ∀ x ∈ o.op.operands.toList, VR w own φ (ρ x) (r x) []) (ok : (evP P h ρ o.op).1) :
    ∃ y, (execOp r o).run P w = .ok (.value y) w ∧ VR w own φ (evP P h ρ o.op).2 y [] := by
  have lift : ∀ {s : Sem Value} {y : Value}, s.run P w = .ok y w → (do pure (Next.value (← s)) : Sem Next).run P w = .ok (.value y) w := by
    intro s y hs; simp [hs]
  obtain ⟨dst, op, ty, pos, after, guard⟩ := o; simp only at hops ok ⊢
  cases op with
  | move x =>
    simp only [evP] at ok ⊢
    exact ⟨_, rfl, (hops x (by simp [Op.operands])).strip ok⟩
  | assign x =>
    simp only [evP] at ok ⊢
    exact ⟨_, rfl, (hops x (by simp [Op.operands])).strip ok⟩
  | pick c a b =>
    simp only [evP] at ok ⊢; split at ok
    · rename_i t hc
      obtain ⟨g1, g2, g3⟩ := ok; have hcv := (hops c (by simp [Op.operands])).strip g1
      rw [hc] at hcv
      generalize hrc : r c = rc at hcv
      cases hcv
      refine ⟨_, ?_, pickV_sound (fun e => (hops a (by simp [Op.operands])).strip (g2 e)) (fun e => (hops b (by simp [Op.operands])).strip (g3 e))⟩; simp [execOp, hrc, asBool]
    · exact ok.elim
  | load t a =>
    simp only [evP] at ok ⊢
    cases ht : tk P t with
    | none => simp [ht] at ok
    | some gn =>
      obtain ⟨g, n⟩ := gn; simp only [ht] at ok ⊢; obtain ⟨y, hy, hv⟩ := loadV_sound hh ht ((hops a (by simp [Op.operands])).strip ok.1) ok.2
      exact ⟨y, lift hy, hv⟩
  | fieldAddr s x f =>
    simp only [evP] at ok ⊢
    cases ht : toff P s f with
    | none => simp [ht] at ok
    | some off =>
      simp only [ht] at ok ⊢; obtain ⟨y, hy, hv⟩ := fieldV_sound ht ((hops x (by simp [Op.operands])).strip ok.1) ok.2
      exact ⟨y, lift hy, hv⟩
  | field s x f =>
    simp only [evP] at ok ⊢; split at ok
    · rename_i off g n cs ht hx
      obtain ⟨g1, g2, g3⟩ := ok; have hxv := (hops x (by simp [Op.operands])).strip g1
      rw [hx] at hxv
      generalize hrx : r x = rx at hxv
      cases hxv with
      | agg _ vs _ hc =>
        obtain ⟨y, h1, h2⟩ := fieldP_sound (w := w) (x := x) ht g2 g3 hc; exact ⟨y, lift (by rw [hrx]; exact h1), h2⟩
    · exact ok.elim
  | indexAddr t x i =>
    simp only [evP] at ok ⊢; split at ok
    · rename_i sz by_ k n ht hi
      obtain ⟨g1, g2, g3⟩ := ok; have hiv := (hops i (by simp [Op.operands])).strip g2
      rw [hi] at hiv
      generalize hri : r i = ri at hiv
      cases hiv
      obtain ⟨y, hy, hv⟩ := indexV_sound (k := k) hh ht ((hops x (by simp [Op.operands])).strip g1) g3; exact ⟨y, lift (by rw [hri]; exact hy), hv⟩
    · rename_i k n ht hi
      split at ok
      · rename_i m sz hta
        obtain ⟨g1, g2, g3⟩ := ok; have hiv := (hops i (by simp [Op.operands])).strip g2
        rw [hi] at hiv
        generalize hri : r i = ri at hiv
        cases hiv
        obtain ⟨y, hy, hv⟩ := elemV_sound (k := k) ht hta ((hops x (by simp [Op.operands])).strip g1) g3; exact ⟨y, lift (by rw [hri]; exact hy), by simpa [hta] using hv⟩
      · exact ok.elim
    · exact ok.elim
  | index t x i =>
    simp only [evP] at ok ⊢; split at ok
    · rename_i s k n ht hx hi
      obtain ⟨g1, g2, g3, g4⟩ := ok; have hxv := (hops x (by simp [Op.operands])).strip g1
      have hiv := (hops i (by simp [Op.operands])).strip g2
      rw [hi] at hiv; rw [hx] at hxv
      generalize hri : r i = ri at hiv
      generalize hrx : r x = rx at hxv
      cases hiv
      cases hxv
      refine ⟨.int .u8 (bt s n.toNat), lift ?_, .int _ _⟩; have hb := bt_eq s n.toNat (by omega)
      rw [hri, hrx]; simp [Instr.index, asIntOf, run_underlying (tstr_spec ht), g3, hb, bt]
    · exact ok.elim
  | slice t x lo hi mx =>
    cases mx with
    | some _ => simp [evP] at ok
    | none =>
      simp only [evP] at ok ⊢; split at ok
      · rename_i ht
        obtain ⟨g1, g2, g3, ⟨s, hs⟩, g4⟩ := ok; have hxv := (hops x (by simp [Op.operands])).strip g1
        rw [hs] at hxv g4
        generalize hrx : r x = rx at hxv
        cases hxv
        obtain ⟨y, hy, hv⟩ := sliceS_sound (tstr_spec ht) (or_map (fun y hy => hops y (by simp [Op.operands] at hy ⊢; simp [hy])) g2) (or_map (fun y hy => hops y (by simp [Op.operands] at hy ⊢; simp [hy])) g3) g4
        rw [hs]; exact ⟨y, lift (by rw [hrx]; exact hy), hv⟩
      · rename_i sz by_ ht hsz
        obtain ⟨g1, g2, g3, g4, g5⟩ := ok
        obtain ⟨y, hy, hv⟩ := slice_sound hh hsz ((hops x (by simp [Op.operands])).strip g1) g4 (or_map (fun y hy => hops y (by simp [Op.operands] at hy ⊢; simp [hy])) g2) (or_map (fun y hy => hops y (by simp [Op.operands] at hy ⊢; simp [hy])) g3) g5
        exact ⟨y, lift hy, hv⟩
      · exact ok.elim
  | extract x i =>
    simp only [evP] at ok ⊢; split at ok
    · rename_i vs hx
      obtain ⟨g1, g2⟩ := ok; have hxv := (hops x (by simp [Op.operands])).strip g1
      rw [hx] at hxv
      generalize hrx : r x = rx at hxv
      cases hxv with
      | tup _ us S hc =>
        have : vs[i]? = some (vs.getD i .undef) := by rw [List.getD_eq_getElem?_getD, List.getElem?_eq_getElem g2]; rfl
        obtain ⟨y, S', h1, h2, h3⟩ := hc.get this
        have : S' = [] := by cases S' with
          | nil => rfl
          | cons b _ => exact absurd (h3 b (List.mem_cons_self ..)) (by simp)
        subst this; exact ⟨y, lift (by rw [hrx]; simp [Instr.extract, h1]), h2⟩
    · exact ok.elim
  | binOp op t x y yt =>
    simp only [evP] at ok ⊢; obtain ⟨y, hy, hv⟩ := binV_sound (x := x) (y := y) ((hops x (by simp [Op.operands])).strip ok.1) ((hops y (by simp [Op.operands])).strip ok.2.1) ok.2.2
    exact ⟨y, lift hy, hv⟩
  | unOp op t x =>
    simp only [evP] at ok ⊢; obtain ⟨y, hy, hv⟩ := unV_sound ((hops x (by simp [Op.operands])).strip ok.1) ok.2
    exact ⟨y, lift hy, hv⟩
  | convert src dst x =>
    simp only [evP] at ok ⊢; obtain ⟨y, hy, hv⟩ := cvH_sound hh ((hops x (by simp [Op.operands])).strip ok.1) ok.2
    exact ⟨y, lift hy, hv⟩
  | nilCheck x =>
    simp only [evP] at ok ⊢; split at ok
    · rename_i id i j hx
      have hxv := (hops x (by simp [Op.operands])).strip ok
      rw [hx] at hxv
      generalize hrx : r x = rx at hxv
      cases hxv with
      | ptr _ _ _ rf hr => exact ⟨_, by simp [execOp, hrx], .ptr id i j rf hr⟩
    · rename_i es i j hx
      have hxv := (hops x (by simp [Op.operands])).strip ok
      rw [hx] at hxv
      generalize hrx : r x = rx at hxv
      cases hxv with
      | fptr es sz A vs i j hlt ho hu hs hc => exact ⟨_, by simp [execOp, hrx], .fptr es sz A vs i j hlt ho hu hs hc⟩
    · exact ok.elim
  | build t parts =>
    simp only [evP] at ok ⊢
    cases ht : tplaces P t with
    | none =>
      simp only [ht] at ok ⊢; split at ok
      · rename_i z hz hp
        have ep : parts = #[] := by rw [← Array.toArray_toList (xs := parts), hp]
        subst ep; obtain ⟨y, hy, hv⟩ := arrZ_sound (P := P) (w := w) (own := own) (φ := φ) hz; exact ⟨y, lift (by simpa using hy), by simpa [hz] using hv⟩
      · exact ok.elim
    | some pz =>
      obtain ⟨pl, z⟩ := pz; simp only [ht] at ok ⊢
      cases hf : fillV (fun i => pl[i]?) z (parts.toList.map fun p => (p.1, st1 (ρ p.2))) with
      | none => simp [hf] at ok
      | some cs =>
        simp only [hf] at ok ⊢; obtain ⟨y, hy, hv⟩ := build_sound ht hf (fun x hx => hops x (by simpa [Op.operands] using hx)) ok
        exact ⟨y, lift hy, hv⟩
  | makeFunc fn first cap =>
    simp only [evP] at ok ⊢; refine ⟨.func fn (first.map r) (cap.map r), lift (by simp [Instr.makeFunc]), ?_⟩
    have := VR.fn (w := w) (own := own) (φ := φ) fn _ _ _ _ (cr_map (fun x hx => hops x (by simp only [Op.operands, Array.toList_append, List.mem_append]; exact .inl hx)) ok.1) (cr_map (fun x hx => hops x (by simp only [Op.operands, Array.toList_append, List.mem_append]; exact .inr hx)) ok.2)
    have e : ∀ l : Array Operand, (l.toList.map r).toArray = l.map r := fun l => by rw [← Array.toList_map, Array.toArray_toList]
    rw [e, e] at this; exact this
  | call c =>
    obtain ⟨callee, args, ats⟩ := c
    cases callee with
    | builtin b =>
      simp only [evP] at ok ⊢; split at ok
      · rename_i x t ha ht
        have ea : args = #[x] := by rw [← Array.toArray_toList (xs := args), ha]
        have et : ats = #[t] := by rw [← Array.toArray_toList (xs := ats), ht]
        subst ea; subst et; obtain ⟨y, hy, hv⟩ := lenV_sound (ty := ty) ((hops x (by simp [Op.operands, Call.operands])).strip ok.1) ok.2; exact ⟨y, by simp [execOp, resolve, invoke, builtin, hy], hv⟩
      · rename_i x y ha
        have ea : args = #[x, y] := by rw [← Array.toArray_toList (xs := args), ha]
        subst ea; obtain ⟨z, hy, hv⟩ := minV_sound (P := P) (ty := ty) (ts := ats) ((hops x (by simp [Op.operands, Call.operands])).strip ok.1) ((hops y (by simp [Op.operands, Call.operands])).strip ok.2.1) ok.2.2
        exact ⟨z, by simp [execOp, resolve, invoke, builtin, hy], hv⟩
      · rename_i x y ha
        have ea : args = #[x, y] := by rw [← Array.toArray_toList (xs := args), ha]
        subst ea; obtain ⟨z, hy, hv⟩ := maxV_sound (P := P) (ty := ty) (ts := ats) ((hops x (by simp [Op.operands, Call.operands])).strip ok.1) ((hops y (by simp [Op.operands, Call.operands])).strip ok.2.1) ok.2.2
        exact ⟨z, by simp [execOp, resolve, invoke, builtin, hy], hv⟩
      · exact ok.elim
    | value _ => simp [evP] at ok
    | invoke _ _ => simp [evP] at ok
  | _ => simp [evP] at ok
end
end HK
