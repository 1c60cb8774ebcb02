import Derived.Test.YteeefpifkepbpaaEHS4
/-
  My own texts (road H): HS5.
-/
set_option linter.unusedSimpArgs false
namespace HS
open Go Go.Proofs HK
theorem packEv_yes {l : List Int} {last : Int} {d : Deed} (h : packOk last d = true) : packEv l last d = .tup [.own 1 (YS (l ++ packB last d)), .bool true] := by rw [packEv, if_pos h]
theorem packEv_no {l : List Int} {last : Int} {d : Deed} (h : packOk last d = false) : packEv l last d = .tup [.nil, .bool false] := by rw [packEv, if_neg (by simp [h])]
theorem packEvent_iy (l : List Int) (last : Int) (d : Deed) (hl : l.length ≤ 2 ^ 29) (h : packOk last d = true) : Fn Try.prog 17 [.fz (YS l), .int .i64 last, .agg d.c] (.tup [.own 1 (YS (l ++ packB last d)), .bool true]) := by rw [← packEv_yes h]; exact packEvent_impl l last d hl
theorem packEvent_in (l : List Int) (last : Int) (d : Deed) (hl : l.length ≤ 2 ^ 29) (h : packOk last d = false) : Fn Try.prog 17 [.fz (YS l), .int .i64 last, .agg d.c] (.tup [.nil, .bool false]) := by rw [← packEv_no (l := l) h]; exact packEvent_impl l last d hl
theorem packB_len {last : Int} {d : Deed} (h : packOk last d = true) : (packB last d).length ≤ 20 := by
  simp [packOk] at h; have hz : zigOk (d.g - last) = true := by have := h.1; simp [headOk] at this; exact this.1.2
  have h1 := packPre_len (l := []) hz 3 (by omega) (by rw [List.take_of_length_le (by simp)]; simpa using h.2)
  rw [packPre_all] at h1
  simpa using h1
end HS
