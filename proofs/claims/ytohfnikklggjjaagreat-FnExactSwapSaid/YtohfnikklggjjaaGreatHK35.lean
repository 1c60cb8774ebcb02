import Derived.Test.YtohfnikklggjjaaGreatG2b
import Derived.Sort.Row
import Derived.Sort.Grow
/-
  My own texts (road H): HK35.
-/
set_option linter.unusedSimpArgs false
set_option linter.unusedVariables false
namespace HK
open Go
abbrev intE (zs : List Int) : List (List AV) := zs.map fun z => [.int .i64 z]
theorem cr_ints {w : World} {own : Nat → Prop} {φ : Refs} : ∀ {zs : List Int} {us : List Value} {T : List Nat}, CR w own φ (intE zs).flatten us T → us = zs.map (Value.int .i64) ∧ T = []
  | [], _, _, h => by
    simp at h
    cases h; exact ⟨rfl, rfl⟩
  | z :: zs, _, _, h => by
    simp only [intE, List.map_cons, List.flatten_cons, List.cons_append, List.nil_append] at h; obtain ⟨v, us, S1, S2, rfl, rfl, h1, h2⟩ := h.uncons; obtain ⟨rfl, rfl⟩ := cr_ints h2; cases h1
    exact ⟨rfl, rfl⟩
theorem ints_cr {w : World} {own : Nat → Prop} {φ : Refs} : ∀ (zs : List Int), CR w own φ (intE zs).flatten (zs.map (Value.int .i64)) []
  | [] => .nil
  | z :: zs => by
    have := CR.cons _ _ _ _ _ _ (VR.int (w := w) (own := own) (φ := φ) .i64 z) (ints_cr zs)
    simpa using this
theorem putRow_heap {enc : Int → Value} {w : World} {rb off : Nat} {d : Array Int} {n : Nat} {os : Array Obj} {b : Nat} (hb : b < w.heap.size) (hne : b ≠ rb) :
    (Sort.grow (Sort.putRow enc (Sort.ahead w n) rb off d) os).heap[b]? = w.heap[b]? := by
  show (((Sort.ahead w n).heap.modify rb _) ++ os)[b]? = _
  rw [Array.getElem?_append_left (by simpa [Sort.ahead] using hb)]; rw [Array.getElem?_modify, if_neg (fun e => hne e.symm)]; rfl
theorem putRow_row {enc : Int → Value} {w : World} {rb off : Nat} {d : Array Int} {n : Nat} {os : Array Obj} {c : Array Value} {T : TypeId} (hb : w.heap[rb]? = some (.cells c T (0, 0))) :
    (Sort.grow (Sort.putRow enc (Sort.ahead w n) rb off d) os).heap[rb]? = some (.cells (Sort.putCells enc off d c) T (0, 0)) := by
  have hlt := (Array.getElem?_eq_some_iff.1 hb).1
  show (((Sort.ahead w n).heap.modify rb _) ++ os)[rb]? = _
  rw [Array.getElem?_append_left (by simpa [Sort.ahead] using hlt)]; rw [Array.getElem?_modify, if_pos rfl]
  show Option.map _ w.heap[rb]? = _
  rw [hb]; rfl
theorem CallS.of_sort {P : Program} {f : FuncId} (srt : List Int → List Int) (hsl : ∀ zs, (srt zs).length = zs.length) (hE : Enter P f)
    (hs : ∀ (blk off cap : Nat) (zs : List Int) (w : World), Sort.Holds (Value.int .i64) w blk off zs.toArray → blk < w.heap.size → zs.length < 4611686018427387904 →
      Calls P f #[.slice (some ⟨blk, off, none⟩) zs.length cap] w fun e w' => e = .returned (.tuple #[]) ∧ ∃ n os, w' = Sort.grow (Sort.putRow (Value.int .i64) (Sort.ahead w n) blk off (srt zs).toArray) os)
    {H : Heap} {id : Nat} {zs : List Int} (hb : H[id]? = some (some ⟨1, intE zs⟩)) (hne : zs ≠ []) (hz : zs.length ≤ 2 ^ 40) :
    CallS P f [.sl id 0 zs.length] H (fun o h' => o = .tup [] ∧ h' = H.set id (some ⟨1, intE (srt zs)⟩)) := by
  refine ⟨hE, fun φ Ss w vs hp hc => ?_⟩; obtain ⟨S, hS, hB⟩ := hp.heap id _ hb; have hidl : id < H.length := (List.getElem?_eq_some_iff.1 hb).1
  have hpos : 0 < zs.length := List.length_pos_iff.2 hne
  rcases hB with ⟨_, h1, _⟩ | ⟨r, us, T, hφ, hsz, hrow, hu, hlim, hseg, hcr, rfl⟩
  · simp only [intE, List.map_eq_nil_iff] at h1; exact absurd h1 hne
  obtain ⟨rfl, rfl⟩ := cr_ints hcr; simp only at hsz hlim hseg; obtain ⟨v, rfl, hv⟩ := hc.head
  obtain ⟨cap, rfl⟩ : ∃ cap, v = .slice (some ⟨r.rb, r.base, none⟩) zs.length cap := by
    generalize hn : zs.length = n at hv hpos
    cases hv with
    | sl0 _ _ r' A hr => omega
    | sl _ _ _ cap r' hr hcap hl =>
      rw [hφ] at hr; cases hr
      exact ⟨cap, by simp⟩
  obtain ⟨c, ty, hcell, hcl⟩ := hrow; have hrb : r.rb < w.heap.size := (Array.getElem?_eq_some_iff.1 hcell).1
  have hcellv : ∀ j z, zs[j]? = some z → w.cell? ⟨r.rb, r.base + j, none⟩ = some (.int .i64 z) := fun j z hj => by
    have := hseg j (.int .i64 z) (by simp [hj])
    rwa [add_row] at this
  have hH : Sort.Holds (Value.int .i64) w r.rb r.base zs.toArray := fun j hj => by
    have hj' : j < zs.length := by simpa using hj
    refine ⟨?_, ?_⟩
    · rw [hcellv j zs[j] (List.getElem?_eq_getElem hj')]
      simp [getElem!_pos, hj']
    · simp only [World.frozen?, hcell]
      simp
  have hcalls := hs r.rb r.base cap zs w hH hrb (by omega)
  have hmemS : r.rb ∈ Ss.flatten := List.mem_flatten.2 ⟨_, List.mem_of_getElem? hS, by simp⟩
  refine hcalls.mono fun e w' ⟨he, n, os, hw⟩ => ?_
  have hsize : w.heap.size ≤ w'.heap.size := by
    rw [hw]
    show _ ≤ (((Sort.ahead w n).heap.modify r.rb _) ++ os).size
    simp [Sort.ahead]
  have hold : ∀ b, b < w.heap.size → b ≠ r.rb → w'.heap[b]? = w.heap[b]? := fun b h1 h2 => by rw [hw]; exact putRow_heap h1 h2
  have hnew : w'.heap[r.rb]? = some (.cells (Sort.putCells (Value.int .i64) r.base (srt zs).toArray c) ty (0, 0)) := by rw [hw]; exact putRow_row hcell
  have hfz : ∀ b, b < w.heap.size → ¬ Own Ss b → ¬ Own Ss b ∧ w'.heap[b]? = w.heap[b]? := fun b hb ho => ⟨ho, hold b hb (fun e => ho (e ▸ hmemS))⟩
  refine ⟨.tuple #[], .tup [], _, φ, Ss, he, ⟨rfl, rfl⟩, ⟨?_, by rw [hp.len]; simp, fun i hi => hp.fresh i (by simpa using hi), hp.nodup, fun b hb => Nat.lt_of_lt_of_le (hp.bound b hb) hsize⟩, .tup [] [] [] .nil, fun _ _ h => h, fun b h => .inl h, ⟨by rw [hw]; rfl, by rw [hw]; rfl, by rw [hw]; rfl, hsize, fun b hb ho => hold b hb (fun e => ho (e ▸ hmemS))⟩⟩
  intro i b hib; by_cases hii : i = id
  · subst hii
    rw [List.getElem?_set_self hidl] at hib; cases hib
    refine ⟨_, hS, .inr ⟨r, (srt zs).map (Value.int .i64), [], hφ, hsz, ⟨_, ty, hnew, by simpa [Sort.putCells] using hcl⟩, ?_, ?_, ?_, ints_cr _, rfl⟩⟩
    · intro e he
      obtain ⟨z, _, rfl⟩ := List.mem_map.1 he; rfl
    · simpa [hsl] using hlim
    · intro j v hj
      rw [add_row]
      obtain ⟨z, hz1, rfl⟩ : ∃ z, (srt zs)[j]? = some z ∧ v = .int .i64 z := by
        rw [List.getElem?_map] at hj
        cases h : (srt zs)[j]? with
        | none => rw [h] at hj; cases hj
        | some z => rw [h] at hj; exact ⟨z, rfl, (Option.some.inj hj).symm⟩
      have hjl := (List.getElem?_eq_some_iff.1 hz1).1
      have hlc : r.base + j < c.size := by
        have : zs.length = (srt zs).length := (hsl zs).symm
        simp at hlim; omega
      rw [hw, Sort.cell?_grow _ _ _ (by show r.rb < _; simpa [Sort.ahead] using hrb), Sort.cell?_putRow (Value.int .i64) _ r.rb r.base zs.toArray (srt zs).toArray (Sort.holds_ahead _ _ _ _ _ _ hH) (by simp [hsl]) j (by simpa using hjl)]
      have : (srt zs).toArray[j]! = z := by
        rw [getElem!_pos (srt zs).toArray j (by simpa using hjl)]; have := (List.getElem?_eq_some_iff.1 hz1).2
        simpa using this
      rw [this]
  · rw [List.getElem?_set_ne (fun e => hii e.symm)] at hib
    obtain ⟨S', q1, q2⟩ := hp.heap i b hib; refine ⟨S', q1, q2.tr hfz hsize (fun _ _ e => e) (fun x hx => ?_)⟩; refine hold x (hp.bound x (List.mem_flatten.2 ⟨S', List.mem_of_getElem? q1, hx⟩)) (fun e => ?_); subst e
    exact nodup_disj hp.nodup hS q1 (fun e => hii e.symm) (List.mem_cons_self ..) hx
end HK
