import Derived.Test.YteeefpifkepbpaaEHK55
import Derived.Test.YteeefpifkepbpaaEHSU
/-
  My own texts (road H): HSZ.
-/
set_option linter.unusedSimpArgs false
set_option linter.unusedVariables false
namespace HS
open Go Go.Proofs HK
set_option maxHeartbeats 1000000 in
theorem chunk0 (es : List (List AV)) (h : Heap) : CallS Try.prog 79 [.fz es, .int .i64 4] (h) (fun o h' => o = .fn (.func 93) [] [.ptr h.length 0 0, .ptr (h.length + 1) 0 0] ∧ h' = h ++ [some ⟨1, [[.fz es]]⟩, some ⟨1, [[.int .i64 4]]⟩]) := by
  refine CallS.intro Try.func79 (by decide) rfl (rs := [.tmp 4]) rfl Try.ntmps79 (by simp) ?_; refine SW.rg fun K hK => ?_; simp -implicitDefEqProofs; repeat refine ⟨by omega, ?_⟩
  refine hK _ ?_; clear hK K; refine SW.seqK fun K1 hK1 => ?_; refine SW.rg fun K hK => ?_; simp -implicitDefEqProofs; repeat refine ⟨by omega, ?_⟩
  refine hK _ ?_; clear hK K; refine SW.cond _ rfl (by simp) ?_ ?_
  case' refine_2 =>
   intro hb1
   first
   | (exfalso; simp at hb1; done)
   | (exfalso; simp at hb1; omega)
   | (
    refine SW.skip ?_)
  rotate_right
  case' _ =>
   intro hb1
   first
   | (exfalso; simp at hb1; done)
   | (exfalso; simp at hb1; omega)
   | (
    refine SW.regionE fun K hK => ?_; simp -implicitDefEqProofs; repeat refine ⟨by omega, ?_⟩
    refine hK _ ?_
    clear hK K)
  all_goals (
   refine hK1 _ ?_; refine SW.rg fun K hK => ?_; simp -implicitDefEqProofs; repeat refine ⟨by omega, ?_⟩
   refine hK _ ?_; clear hK K; refine SW.ret ?_; simp [Ex.then, Ex.ib]
   all_goals (try simp))
theorem chunk_ok (es : List (List AV)) (h : Heap) : CallS Try.prog 79 [.fz es, .int .i64 4] h (fun o h' => o = .fn (.func 93) [] [.fptr [[.fz es]] 0 0, .fptr [[.int .i64 4]] 0 0] ∧ h' = h ++ [none, none]) := CallS.freezeFI (chunk0 es h)
def rnd (es : List (List AV)) : Nat := (es.length + 3) / 4
def chk (es : List (List AV)) : List AV := (List.range (rnd es)).map fun i => .fz ((es.drop (4 * i)).take 4)
theorem chk_get {es : List (List AV)} {i : Nat} {x : AV} (h : (chk es)[i]? = some x) : i < rnd es ∧ x = .fz ((es.drop (4 * i)).take 4) := by
  unfold chk at h; rw [List.getElem?_map] at h
  cases hr : (List.range (rnd es))[i]? with
  | none => rw [hr] at h; cases h
  | some j =>
    rw [hr] at h; obtain ⟨h1, h2⟩ := List.getElem?_eq_some_iff.1 hr; simp at h1 h2 h; subst h2; exact ⟨h1, h.symm⟩
@[simp] theorem chk_len (es : List (List AV)) : (chk es).length = rnd es := by simp [chk]
theorem box_inv {w : World} {own : Nat → Prop} {v : AV} {p : Value} {S : List Nat} (h : VR w own nof (.fptr [[v]] 0 0) p S) : S = [] ∧ ∃ B x, p = .pointer (some B) ∧ VR w own nof (.fptr [[.con x]] 0 0) p [] ∧ VR w own nof v x [] := by
  cases h with
  | fptr _ sz A vs _ _ hlt ho hu hs hc =>
    simp only [List.flatten_cons, List.flatten_nil, List.append_nil] at hc; obtain ⟨y, us, S1, S2, rfl, e, k1, k2⟩ := hc.uncons; cases k2
    have hS : S1 = [] := by cases S1 with
      | nil => rfl
      | cons _ _ => cases e
    subst hS; rw [show 0 * sz + 0 = 0 * 1 + 0 by simp]; exact ⟨rfl, _, y, rfl, .fptr [[.con y]] 1 A [y] 0 0 hlt ho (by simp) hs (by simpa using CR.cons _ _ _ _ _ _ (.con (φ := nof) y) (.nil (φ := nof))), k1⟩
theorem con_inv {w : World} {own : Nat → Prop} {φ : Refs} {v x : Value} {S : List Nat} (h : VR w own φ (.con v) x S) : x = v := by cases h; rfl
theorem int_inv {w : World} {own : Nat → Prop} {φ : Refs} {k : IntKind} {n : Int} {x : Value} {S : List Nat} (h : VR w own φ (.int k n) x S) : x = .int k n := by cases h; rfl
theorem slice3_run (A : Addr) (n cap lo hi : Nat) (W : World) (h1 : lo < hi) (h2 : hi ≤ cap) : (Instr.sliceAt 35 (.slice (some A) n cap) (some (.int .i64 (lo : Int))) (some (.int .i64 (hi : Int))) (some (.int .i64 (hi : Int)))).run Try.prog W = .ok (.slice (some (A.add (lo * 4))) (hi - lo) (hi - lo)) W := by
  have ht : ∃ b, tel Try.prog 35 = some (4, b) := ⟨32, by simp⟩
  obtain ⟨b, ht⟩ := ht; obtain ⟨e, i, hu, hi', hsz, -⟩ := tel_spec ht; have q1 : ¬ hi = lo := by omega
  have q2 : (lo : Int) ≤ (hi : Int) := by omega
  have q3 : (hi : Int) ≤ (cap : Int) := by omega
  simp [Instr.sliceAt, Instr.slice, run_underlying hu, Instr.sliceBounds, Instr.sliceBound, asIntOf, run_sizeI hi', hsz, q1, q2, q3, h2, Nat.le_of_lt h1]
def cval : Value → Nat → Value
  | .slice A n _, i => .slice (A.map fun A => A.add (4 * i * 4)) (min 4 (n - 4 * i)) (min 4 (n - 4 * i))
  | v, _ => v
theorem cval_ok {w : World} {own : Nat → Prop} {es : List (List AV)} {v : Value} (he : ∀ e ∈ es, e.length = 4) (h : VR w own nof (.fz es) v []) (i : Nat) (hi : i < rnd es) :
    VR w own nof (.fz ((es.drop (4 * i)).take 4)) (cval v i) [] := by
  unfold rnd at hi
  cases h with
  | fz0 A cap => simp at hi
  | fz _ sz A cap vs hlt ho hu hcap hs hc =>
    have hlt4 : 4 * i < es.length := by omega
    have hsz : sz = 4 := by
      have h0 : es[0]'(by omega) ∈ es := List.getElem_mem _
      rw [← hu _ h0, he _ h0]
    subst hsz; have hle : 4 * i + min 4 (es.length - 4 * i) ≤ es.length := by omega
    obtain ⟨f1, f2, f3, f4⟩ := es_part hu hle
    have hT : (es.drop (4 * i)).take (min 4 (es.length - 4 * i)) = (es.drop (4 * i)).take 4 := by
      have : min 4 (es.length - 4 * i) = min 4 (es.drop (4 * i)).length := by simp
      rw [this]
      conv => rhs; rw [List.take_eq_take_min]
    rw [hT] at f1 f3 f4; rw [f1] at hc; obtain ⟨v1, v2, S1, S2, rfl, e1, c1, c2⟩ := hc.split; obtain ⟨v3, v4, S3, S4, rfl, e2, c3, c4⟩ := c2.split; obtain ⟨rfl, rfl⟩ := List.append_eq_nil_iff.1 e1.symm
    obtain ⟨rfl, rfl⟩ := List.append_eq_nil_iff.1 e2.symm; have hl1 : v1.length = 4 * i * 4 := by rw [← c1.length, f2]
    have hs3 : Seg w (A.add (4 * i * 4)) v3 := by
      have := hs.drop (4 * i * 4)
      rw [← hl1, List.drop_left, hl1] at this; have := this.take v3.length
      rwa [List.take_left] at this
    have := VR.fz (w := w) (own := own) (φ := nof) ((es.drop (4 * i)).take 4) 4 (A.add (4 * i * 4)) (min 4 (es.length - 4 * i)) v3 (by rw [add_block]; exact hlt) (by rw [add_block]; exact ho)
      (fun e h => hu e (List.mem_of_mem_drop (List.mem_of_mem_take h))) (by rw [f4]; exact Nat.le_refl _) hs3 c3
    rw [f4] at this; exact this
end HS
