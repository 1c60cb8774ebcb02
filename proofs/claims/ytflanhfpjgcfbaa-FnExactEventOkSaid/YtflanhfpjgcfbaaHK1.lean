/-
  My own text (road H): HK1.
-/
import Derived.Below
import Derived.Tactics
import Derived.Orders
import Derived.Still
namespace HK
open Go

/-- Abstract values. `fz`: a slice that is read only; `own`: a slice that nobody else holds; `sl`: a slice of the block `id` of the abstract heap. -/
inductive AV where
  | undef
  | nil
  | bool (b : Bool)
  | int (k : IntKind) (n : Int)
  | str (s : ByteArray)
  | con (v : Value)
  | fz (es : List (List AV))
  | own (sz : Nat) (es : List (List AV))
  | sl (id off len : Nat)
  | ptr (id i j : Nat)
  | fptr (es : List (List AV)) (i j : Nat)
  | agg (cs : List AV)
  | tup (vs : List AV)
  | fn (f : Go.Fn) (first cap : List AV)
  | cond (g : Bool) (v : AV)

structure Ref where
  rb : Nat
  base : Nat
  lim : Nat
  sz : Nat

abbrev Refs := Nat → Option (Option Ref)

/-- Block rb is a row of lim cells, none of them frozen. -/
def RowAt (w : World) (rb lim : Nat) : Prop := ∃ c T, w.heap[rb]? = some (.cells c T (0, 0)) ∧ c.size = lim
def Seg (w : World) (A : Addr) (vs : List Value) : Prop := ∀ n v, vs[n]? = some v → w.cell? (A.add n) = some v

theorem RowAt.of {w w' : World} {rb lim : Nat} (h : RowAt w rb lim) (e : w'.heap[rb]? = w.heap[rb]?) : RowAt w' rb lim := by
  obtain ⟨c, T, h1, h2⟩ := h; exact ⟨c, T, e.trans h1, h2⟩
theorem cell_of {w w' : World} {A : Addr} (e : w'.heap[A.block]? = w.heap[A.block]?) : w'.cell? A = w.cell? A := by
  unfold World.cell?; rw [e]
theorem add_block (A : Addr) (n : Nat) : (A.add n).block = A.block := by unfold Addr.add; split <;> rfl
theorem Seg.of {w w' : World} {A : Addr} {vs : List Value} (h : Seg w A vs) (e : w'.heap[A.block]? = w.heap[A.block]?) : Seg w' A vs :=
  fun n v hv => (cell_of (by rw [add_block]; exact e)).trans (h n v hv)

/-- No names. -/
abbrev nof : Refs := fun _ => none

mutual
/-- The abstract value is the real one; the list names the real blocks that the value alone holds. Inside a slice that is no name there are no names. -/
inductive VR (w : World) (own : Nat → Prop) : Refs → AV → Value → List Nat → Prop
  | undef {φ} (v : Value) : VR w own φ .undef v []
  | nil {φ} (A : Option Addr) : VR w own φ .nil (.slice A 0 0) []
  | bool {φ} (b : Bool) : VR w own φ (.bool b) (.bool b) []
  | int {φ} (k : IntKind) (n : Int) : VR w own φ (.int k n) (.int k n) []
  | str {φ} (s : ByteArray) : VR w own φ (.str s) (.string s) []
  | con {φ} (v : Value) : VR w own φ (.con v) v []
  | fz0 {φ} (A : Option Addr) (cap : Nat) : VR w own φ (.fz []) (.slice A 0 cap) []
  | fz {φ} (es : List (List AV)) (sz : Nat) (A : Addr) (cap : Nat) (vs : List Value) (hlt : A.block < w.heap.size) (ho : ¬ own A.block) (hu : ∀ e ∈ es, e.length = sz)
      (hcap : es.length ≤ cap) (hs : Seg w A vs) (h : CR w own nof es.flatten vs []) : VR w own φ (.fz es) (.slice (some A) es.length cap) []
  | own0 {φ} (sz : Nat) (A : Option Addr) : VR w own φ (.own sz []) (.slice A 0 0) []
  | own {φ} (es : List (List AV)) (sz rb o cap lim : Nat) (vs : List Value) (S : List Nat) (hr : RowAt w rb lim) (hu : ∀ e ∈ es, e.length = sz) (hcap : es.length ≤ cap)
      (hlim : o + cap * sz ≤ lim) (hs : Seg w ⟨rb, o, none⟩ vs) (h : CR w own nof es.flatten vs S) : VR w own φ (.own sz es) (.slice (some ⟨rb, o, none⟩) es.length cap) (rb :: S)
  | sl0 {φ} (id off : Nat) (r : Option Ref) (A : Option Addr) (h : φ id = some r) : VR w own φ (.sl id off 0) (.slice A 0 0) []
  | sl {φ} (id off len cap : Nat) (r : Ref) (h : φ id = some (some r)) (hcap : len ≤ cap) (hlim : r.base + (off + cap) * r.sz ≤ r.lim) :
      VR w own φ (.sl id off len) (.slice (some ⟨r.rb, r.base + off * r.sz, none⟩) len cap) []
  | ptr {φ} (id i j : Nat) (r : Ref) (h : φ id = some (some r)) : VR w own φ (.ptr id i j) (.pointer (some ⟨r.rb, r.base + i * r.sz + j, none⟩)) []
  | fptr {φ} (es : List (List AV)) (sz : Nat) (A : Addr) (vs : List Value) (i j : Nat) (hlt : A.block < w.heap.size) (ho : ¬ own A.block) (hu : ∀ e ∈ es, e.length = sz)
      (hs : Seg w A vs) (h : CR w own nof es.flatten vs []) : VR w own φ (.fptr es i j) (.pointer (some (A.add (i * sz + j)))) []
  | agg {φ} (cs : List AV) (vs : List Value) (S : List Nat) (h : CR w own φ cs vs S) : VR w own φ (.agg cs) (.agg vs.toArray) S
  | tup {φ} (cs : List AV) (vs : List Value) (S : List Nat) (h : CR w own φ cs vs S) : VR w own φ (.tup cs) (.tuple vs.toArray) S
  | fn {φ} (f : Go.Fn) (first cap : List AV) (fs cs : List Value) (h : CR w own φ first fs []) (h' : CR w own φ cap cs []) : VR w own φ (.fn f first cap) (.func f fs.toArray cs.toArray) []
  | condT {φ} (v : AV) (x : Value) (S : List Nat) (h : VR w own φ v x S) : VR w own φ (.cond true v) x S
  | condF {φ} (v : AV) : VR w own φ (.cond false v) Go.undef []
inductive CR (w : World) (own : Nat → Prop) : Refs → List AV → List Value → List Nat → Prop
  | nil {φ} : CR w own φ [] [] []
  | cons {φ} (a : AV) (v : Value) (S : List Nat) (as : List AV) (vs : List Value) (T : List Nat) (h : VR w own φ a v S) (h' : CR w own φ as vs T) : CR w own φ (a :: as) (v :: vs) (S ++ T)
end

section tr
variable {w w' : World} {own own' : Nat → Prop}
mutual
theorem VR.tr (hfz : ∀ b, b < w.heap.size → ¬ own b → ¬ own' b ∧ w'.heap[b]? = w.heap[b]?) (hsz : w.heap.size ≤ w'.heap.size) :
    ∀ {φ φ' : Refs} {v : AV} {x : Value} {S : List Nat}, (∀ id r, φ id = some r → φ' id = some r) → VR w own φ v x S → (∀ b ∈ S, w'.heap[b]? = w.heap[b]?) → VR w' own' φ' v x S
  | _, _, _, _, _, _, .undef v, _ => .undef v
  | _, _, _, _, _, _, .nil A, _ => .nil A
  | _, _, _, _, _, _, .bool b, _ => .bool b
  | _, _, _, _, _, _, .int k n, _ => .int k n
  | _, _, _, _, _, _, .str s, _ => .str s
  | _, _, _, _, _, _, .con v, _ => .con v
  | _, _, _, _, _, _, .fz0 A cap, _ => .fz0 A cap
  | _, _, _, _, _, _, .fz es sz A cap vs hlt ho hu hcap hs h, _ =>
    .fz es sz A cap vs (Nat.lt_of_lt_of_le hlt hsz) (hfz _ hlt ho).1 hu hcap (hs.of (hfz _ hlt ho).2) (CR.tr hfz hsz (fun _ _ e => e) h (fun _ hb => by cases hb))
  | _, _, _, _, _, _, .own0 sz A, _ => .own0 sz A
  | _, _, _, _, _, _, .own es sz rb o cap lim vs S hr hu hcap hlim hs h, hS =>
    .own es sz rb o cap lim vs S (hr.of (hS _ (List.mem_cons_self ..))) hu hcap hlim (hs.of (hS _ (List.mem_cons_self ..))) (CR.tr hfz hsz (fun _ _ e => e) h (fun b hb => hS b (List.mem_cons_of_mem _ hb)))
  | _, _, _, _, _, hφ, .sl0 id off r A h, _ => .sl0 id off r A (hφ _ _ h)
  | _, _, _, _, _, hφ, .sl id off len cap r h hcap hlim, _ => .sl id off len cap r (hφ _ _ h) hcap hlim
  | _, _, _, _, _, hφ, .ptr id i j r h, _ => .ptr id i j r (hφ _ _ h)
  | _, _, _, _, _, _, .fptr es sz A vs i j hlt ho hu hs h, _ =>
    .fptr es sz A vs i j (Nat.lt_of_lt_of_le hlt hsz) (hfz _ hlt ho).1 hu (hs.of (hfz _ hlt ho).2) (CR.tr hfz hsz (fun _ _ e => e) h (fun _ hb => by cases hb))
  | _, _, _, _, _, hφ, .agg cs vs S h, hS => .agg cs vs S (CR.tr hfz hsz hφ h hS)
  | _, _, _, _, _, hφ, .tup cs vs S h, hS => .tup cs vs S (CR.tr hfz hsz hφ h hS)
  | _, _, _, _, _, hφ, .fn f first cap fs cs h h', _ => .fn f first cap fs cs (CR.tr hfz hsz hφ h (fun _ hb => by cases hb)) (CR.tr hfz hsz hφ h' (fun _ hb => by cases hb))
  | _, _, _, _, _, hφ, .condT v x S h, hS => .condT v x S (VR.tr hfz hsz hφ h hS)
  | _, _, _, _, _, _, .condF v, _ => .condF v
theorem CR.tr (hfz : ∀ b, b < w.heap.size → ¬ own b → ¬ own' b ∧ w'.heap[b]? = w.heap[b]?) (hsz : w.heap.size ≤ w'.heap.size) :
    ∀ {φ φ' : Refs} {v : List AV} {x : List Value} {S : List Nat}, (∀ id r, φ id = some r → φ' id = some r) → CR w own φ v x S → (∀ b ∈ S, w'.heap[b]? = w.heap[b]?) → CR w' own' φ' v x S
  | _, _, _, _, _, _, .nil, _ => .nil
  | _, _, _, _, _, hφ, .cons a v S as vs T h h', hS =>
    .cons a v S as vs T (VR.tr hfz hsz hφ h (fun b hb => hS b (List.mem_append_left _ hb))) (CR.tr hfz hsz hφ h' (fun b hb => hS b (List.mem_append_right _ hb)))
end
theorem VR.up {φ : Refs} {v : AV} {x : Value} {S : List Nat} (h : VR w own nof v x S) : VR w own φ v x S := VR.tr (fun _ _ ho => ⟨ho, rfl⟩) (Nat.le_refl _) (fun _ _ e => by cases e) h (fun _ _ => rfl)
theorem CR.up {φ : Refs} {v : List AV} {x : List Value} {S : List Nat} (h : CR w own nof v x S) : CR w own φ v x S := CR.tr (fun _ _ ho => ⟨ho, rfl⟩) (Nat.le_refl _) (fun _ _ e => by cases e) h (fun _ _ => rfl)
end tr
end HK
