import Derived.Test.YtdhoappjadnhcaaGreatHCA6
import Derived.Test.YtdhoappjadnhcaaGreatHCY8
/-
  My own texts (road H): HCA7.
-/
set_option maxHeartbeats 8000000
set_option linter.unusedSimpArgs false
set_option linter.unusedVariables false
namespace HT
open Go Go.Proofs HK
theorem frE3 {f : FuncId} {args args0 : List AV} {out out0 : AV} {gs gs' : List Gor} {cs cs' : List Chan} {ms ms' : List Mutex} {ext ext0 : Heap} {a b c : Nat} {H : Heap}
    (hc : CallS Tryz.prog f args0 [some ⟨5, GorSo gs⟩, some ⟨5, ChanSo cs⟩, some ⟨2, MutexSo ms⟩] (fun o h' => o = out0 ∧ h' = [some ⟨5, GorSo gs'⟩, some ⟨5, ChanSo cs'⟩, some ⟨2, MutexSo ms'⟩] ++ ext0)) (hnd : [a, b, c].Nodup)
    (ha : args = args0.map (renN [a, b, c] 4)) (hl : args0.all (lowN 4 3) = true) (ho : ∀ n, renN ([a, b, c] ++ n) 4 out0 = out) (hol : lowN 4 (3 + ext0.length) out0 = true) (hon : nfz 4 out0 = true)
    (he : ∀ n, ext0.map (renB ([a, b, c] ++ n)) = ext) (hen : ∀ x ∈ ext0, nfzB (3 + ext0.length) x = true) (h1 : H[a]? = some (some ⟨5, GorSo gs⟩)) (h2 : H[b]? = some (some ⟨5, ChanSo cs⟩)) (h3 : H[c]? = some (some ⟨2, MutexSo ms⟩)) :
    CallS Tryz.prog f args H (fun o h' => o = out ∧ h' = ((H.set a (some ⟨5, GorSo gs'⟩)).set b (some ⟨5, ChanSo cs'⟩)).set c (some ⟨2, MutexSo ms'⟩) ++ ext) := by
  have q1 := (List.getElem?_eq_some_iff.1 h1).1
  have q2 := (List.getElem?_eq_some_iff.1 h2).1
  have q3 := (List.getElem?_eq_some_iff.1 h3).1
  refine CallS.mono (CallS.frame [a, b, c] hc ha (by simpa using hl) hnd (by simp [q1, q2, q3]) (by simp [renH, h1, h2, h3]) (by simp) (by simp) ?_) ?_
  · rintro o h' ⟨rfl, rfl⟩
    have hL : List.length (α := Option Blk) ([some ⟨5, GorSo gs'⟩, some ⟨5, ChanSo cs'⟩, some ⟨2, MutexSo ms'⟩] ++ ext0) = 3 + ext0.length := by simp; omega
    refine ⟨by simp, ?_, by rw [hL]; exact hol, hon⟩; intro x hx; rw [hL]; rcases List.mem_append.1 hx with hx | hx
    · simp only [List.mem_cons, List.not_mem_nil, or_false] at hx
      rcases hx with rfl | rfl | rfl
      · exact GorSo_nfz _ _
      · exact ChanSo_nfz _ _
      · exact MutexSo_nfz _ _
    · exact hen x hx
  · rintro o h' ⟨o0, h0, ⟨rfl, rfl⟩, rfl, rfl⟩
    refine ⟨ho _, ?_⟩; unfold frameH; rw [List.map_append, fids, he]; simp [merge, setAll]
theorem plsG_s (p : Prog) (g : Gor) (k : Nat) (h : p.ok) (hg : g.ok) (hk : gorOk p g = true) : HK.Fn Tryz.prog 46 [.agg p.fr, .agg g.fr, .int .i64 k] (.own 6 (PlaceS (wantG p k g))) := by
  by_cases hs : g.state = 2
  · have hc : plsOk p g k = true := by simp [plsOk, hk, hs]
    have := placesY_s p g k h hg hc
    unfold wantG
    rwa [if_pos hs]
  · have hc : plsOk p g k = false := by simp [plsOk, hs]
    have := placesN_s p g k h hg hc
    unfold wantG; rw [if_neg hs]; exact Fn.ownNilP 6 this
theorem plCs_mem {g : Gor} {n : Int} {x : Place} : ∀ {k : Nat} {l : List Case}, x ∈ plCs g n k l → ∃ j c, l[j]? = some c ∧ x = plC g n (k + j) c ∧ 0 ≤ c.chan
  | _, [], h => by simp [plCs] at h
  | k, c :: r, h => by
    rw [plCs] at h; rcases List.mem_append.1 h with h | h
    · split at h
      · simp at h
      · rename_i hc
        exact ⟨0, c, rfl, by simpa using h, by omega⟩
    · obtain ⟨j, c', h1, h2, h3⟩ := plCs_mem h
      exact ⟨j + 1, c', by simpa using h1, by rw [h2, show k + 1 + j = k + (j + 1) by omega], h3⟩
theorem pls_facts {p : Prog} {g : Gor} {n : Int} {x : Place} (hp : progOk p = true) (ha : atOk p g) (hx : x ∈ pls p g n) (hm : x.mutex = false) : x.g = n ∧ x.send = sndS p g x.cas ∧ casIn p g x.cas ∧ 0 ≤ x.obj := by
  obtain ⟨_, i, _, _, hat, _, h11⟩ := at_facts hp ha; unfold pls at hx; split at hx
  · rename_i h8
    split at hx
    · rename_i h0
      simp only [List.mem_singleton] at hx; subst hx; exact ⟨rfl, by simp [sndS, h8], fun h => by simp at h, h0⟩
    · simp at hx
  · split at hx
    · rename_i h8 h9
      split at hx
      · rename_i h0
        simp only [List.mem_singleton] at hx; subst hx; exact ⟨rfl, by simp [sndS, h9], fun h => by simp at h, h0⟩
      · simp at hx
    · split at hx
      · rename_i h11'
        rw [hat] at h11'; obtain ⟨hA, _, s, hs, _⟩ := h11 h11'; rw [hat] at hx; rw [hs] at hx; obtain ⟨j, c, hj, rfl, hc0⟩ := plCs_mem hx; refine ⟨rfl, ?_, fun _ => ⟨by rw [hat]; exact hA, s, c, by rw [hat]; exact hs, ?_⟩, hc0⟩
        · simp [sndS, plC, selCase, hat, hs, hj]
        · simpa [plC] using hj
      · split at hx
        · simp only [List.mem_singleton] at hx
          subst hx; cases hm
        · simp at hx
def fnd (ch wg cas wv : Int) (x : Place) : Bool := !x.mutex && decide (x.obj = ch) && (decide (x.g = wg) && decide (x.cas = cas) && decide (x.v = wv))
theorem fnd_count {l : List Place} {ch wg cas wv : Int} : (l.any (fnd ch wg cas wv) = false) ↔ l.count ⟨false, ch, true, wg, cas, wv⟩ + l.count ⟨false, ch, false, wg, cas, wv⟩ = 0 := by
  rw [Nat.add_eq_zero_iff, List.count_eq_zero, List.count_eq_zero, List.any_eq_false]; constructor
  · intro h
    exact ⟨fun hm => by have := h _ hm; simp [fnd] at this, fun hm => by have := h _ hm; simp [fnd] at this⟩
  · rintro ⟨h1, h2⟩ x hx hf
    simp only [fnd, Bool.and_eq_true, decide_eq_true_eq, Bool.not_eq_true'] at hf; obtain ⟨⟨hm, ho⟩, ⟨e1, e2⟩, e3⟩ := hf; obtain ⟨xm, xo, xs, xg, xc, xv⟩ := x; simp only [] at hm ho e1 e2 e3; subst hm ho e1 e2 e3; cases xs
    · exact h2 hx
    · exact h1 hx
theorem wantG_mem {p : Prog} {k : Nat} {g : Gor} {x : Place} (h : x ∈ wantG p k g) : x ∈ pls p g k := by
  unfold wantG at h; split at h
  · exact h
  · simp at h
theorem GorSo_strA (l : List Gor) : ∀ x ∈ GorSo l, ∀ y ∈ x, strN 4 y = true := fun x hx y hy => List.all_eq_true.1 (List.all_eq_true.1 (GorSo_str 2 l) x hx) y hy
theorem ChanSo_strA (l : List Chan) : ∀ x ∈ ChanSo l, ∀ y ∈ x, strN 4 y = true := fun x hx y hy => List.all_eq_true.1 (List.all_eq_true.1 (ChanSo_str 2 l) x hx) y hy
def wakeE (p : Prog) (e : Eng) (k : Nat) (g : Gor) (ch cas wv v : Int) (ok : Bool) : Eng := ⟨e.gs.set k (wakeG p g (sndS p g cas) ch cas wv v ok), e.chans.map (freeC (k : Int)), e.mus⟩
theorem lim_of {e : Eng} (he : e.ok) : e.gs.length ≤ 1048576 ∧ e.chans.length ≤ 1048576 ∧ ∀ c ∈ e.chans, c.buf.length ≤ 2 ^ 28 ∧ c.sends.length ≤ 2 ^ 28 ∧ c.recvs.length ≤ 2 ^ 28 :=
  ⟨he.1, he.2.2.1, fun c hc => by have := he.2.2.2.1 c hc; have a := this.1; have b := this.2.1; have d := this.2.2; omega⟩
end HT
