import Derived.Test.YtohfnikklggjjaaGreatHGVE
/-
  My own texts (road H): HGVF.
-/
set_option linter.unusedSimpArgs false
set_option linter.unusedVariables false
namespace HT
open Go Go.Proofs HK
set_option maxHeartbeats 1000000 in
theorem meet1 (l : List Int) (v : Int) (hl : l.length ≤ 2 ^ 40) : CallS Tryz.prog 41 [.int .i64 v, .ptr 0 0 0] ([some ⟨1, [[.sl 1 0 l.length]]⟩, some ⟨1, IntS l⟩]) (fun o h' => o = .bool (decide (v ∈ l)) ∧ h' = [some ⟨1, [[.sl 1 0 l.length]]⟩, some ⟨1, IntS l⟩]) := by
  refine CallS.intro Tryz.func41 (by decide) rfl (rs := [.tmp 3]) rfl Tryz.ntmps41 (by simp) ?_; refine SW.rg fun K hK => ?_; simp -implicitDefEqProofs; repeat refine ⟨by omega, ?_⟩
  refine hK _ ?_; clear hK K; refine SW.rg fun K hK => ?_; simp -implicitDefEqProofs; iterate 2 (try refine ⟨by omega, ?_⟩)
  first
    | refine CallQ.fzE (contains_ok l v (by omega)) (by simp) ?_
    | refine CallK.fzE (contains_ok l v (by omega)) (by simp) ?_
  simp -implicitDefEqProofs; repeat refine ⟨by omega, ?_⟩
  refine hK _ ?_; clear hK K; refine SW.ret ?_; simp [Ex.then, Ex.ib]
  all_goals (try simp)
def idxM (m l : List Int) : Int := match m.findIdx? (fun x => decide (x ∈ l)) with
  | some k => k
  | none => -1
theorem idxM_no {m l : List Int} (h : (m.any fun x => decide (x ∈ l)) = false) : idxM m l = -1 := by
  unfold idxM; rw [List.findIdx?_eq_none_iff.2]
  simpa using h
theorem idxM_at {m l : List Int} {k : Nat} {x : Int} (h : ((m.take k).any fun x => decide (x ∈ l)) = false) (hx : m[k]? = some x) (hm : x ∈ l) : idxM m l = k := by
  have hlt := (List.getElem?_eq_some_iff.1 hx).1
  have hE := (List.getElem?_eq_some_iff.1 hx).2
  unfold idxM; rw [List.findIdx?_eq_some_iff_getElem.2 ⟨hlt, by rw [hE]; simpa using hm, fun j hj => ?_⟩]
  have := List.any_eq_false.1 h (m[j]'(by omega)) (by
    rw [List.mem_take_iff_getElem]
    exact ⟨j, by omega, rfl⟩)
  simpa using this
theorem idxM_nn {m l : List Int} : decide (0 ≤ idxM m l) = meets m l := by
  cases h : m.any fun x => decide (x ∈ l) with
  | false =>
    rw [idxM_no h]
    simp [meets, h]
  | true =>
    unfold idxM meets; rw [h]
    cases e : m.findIdx? fun x => decide (x ∈ l) with
    | none =>
      rw [List.findIdx?_eq_none_iff] at e; obtain ⟨x, h1, h2⟩ := List.any_eq_true.1 h; rw [e x h1] at h2
      cases h2
    | some k => simp
set_option maxHeartbeats 1000000 in
theorem idxM_ok (m l : List Int) (hm : m.length ≤ 2 ^ 40) (hl : l.length ≤ 2 ^ 40) : CallS Tryz.prog 62 [.fz (IntS m), .fn (.func 41) [] [.ptr 0 0 0]] ([some ⟨1, [[.sl 1 0 l.length]]⟩, some ⟨1, IntS l⟩]) (fun o h' => o = .int .i64 (idxM m l) ∧ h' = [some ⟨1, [[.sl 1 0 l.length]]⟩, some ⟨1, IntS l⟩]) := by
  refine CallS.intro Tryz.func62 (by decide) rfl (rs := [.tmp 4]) rfl Tryz.ntmps62 (by simp) ?_; refine SW.rg fun K hK => ?_; simp -implicitDefEqProofs; repeat refine ⟨by omega, ?_⟩
  refine hK _ ?_; clear hK K; refine SW.seqK fun K1 hK1 => ?_; refine SW.rg fun K hK => ?_; simp -implicitDefEqProofs; repeat refine ⟨by omega, ?_⟩
  refine hK _ ?_; clear hK K; refine SW.block ?_
  refine SW.loop (α := Nat) (fun k => ⟨[(8, .int .i64 k), (7, .int .i64 m.length), (0, .fz (IntS m)), (1, .fn (.func 41) [] [.ptr 0 0 0])], [some ⟨1, [[.sl 1 0 l.length]]⟩, some ⟨1, IntS l⟩]⟩) (fun k => k ≤ m.length ∧ ((m.take k).any fun x => decide (x ∈ l)) = false) (fun k => m.length - k) (0) ?_ ?_ (fun k hx => ?_)
  case' refine_1 =>
   exact ⟨by simp, by simp⟩
  case' refine_2 =>
   exact Wk.cut (by simp) (by simp [subE]) (by simp [cutH]) (by simp [lowE, lowN]) (by simp)
  case' refine_3 =>
   skip
   refine SW.rg fun K hK => ?_; simp -implicitDefEqProofs; repeat refine ⟨by omega, ?_⟩
   refine hK _ ?_; clear hK K; refine SW.seqK fun K2 hK2 => ?_; refine SW.cond _ rfl (by simp) ?_ ?_
   case' refine_2 =>
    intro hb1
    first
    | (exfalso; simp at hb1; done)
    | (exfalso; simp at hb1; omega)
    | (
     have hk1 : k = m.length := by simp at hb1; omega
     subst hk1; have hr := idxM_no (m := m) (l := l) (by simpa using hx.2)
     refine SW.exit ?_; simp only [Ex.then, Ex.ib]; try simp only [if_true, if_false, reduceIte]
     refine hK1 _ ?_; refine SW.rg fun K hK => ?_; simp -implicitDefEqProofs; repeat refine ⟨by omega, ?_⟩
     refine hK _ ?_; clear hK K; refine SW.ret ?_; simp [Ex.then, Ex.ib]
     all_goals (simp [hr]))
   rotate_right
   case' _ =>
    intro hb1
    first
    | (exfalso; simp at hb1; done)
    | (exfalso; simp at hb1; omega)
    | (
     have hlt : k < m.length := by first | omega | (simp at hb1; omega)
     obtain ⟨x, hxk⟩ : ∃ q, m[k]? = some q := ⟨_, List.getElem?_eq_getElem hlt⟩
     have hst := any_step (f := fun x : Int => decide (x ∈ l)) hxk
     refine SW.skip ?_; refine hK2 _ ?_; refine SW.seqK fun K3 hK3 => ?_; refine SW.block ?_; refine SW.rg fun K hK => ?_; simp -implicitDefEqProofs; repeat refine ⟨by omega, ?_⟩
     refine hK _ ?_; clear hK K; refine SW.rg fun K hK => ?_; simp -implicitDefEqProofs [hxk]; iterate 2 (try refine ⟨by omega, ?_⟩)
     refine CallS.mono (meet1 l x hl) ?_
     rintro o h' ⟨rfl, rfl⟩
     simp -implicitDefEqProofs [hxk]; repeat refine ⟨by omega, ?_⟩
     refine hK _ ?_; clear hK K; refine SW.cond _ rfl (by simp) ?_ ?_
     case' refine_2 =>
      intro hb2
      first
      | (exfalso; simp at hb2; done)
      | (exfalso; simp at hb2; omega)
      | (
       have hy : ¬ x ∈ l := by simpa using hb2
       rw [hx.2] at hst; have hn : ((m.take (k + 1)).any fun x => decide (x ∈ l)) = false := by rw [hst]; simp [hy]
       refine SW.skip ?_; refine hK3 _ ?_; refine SW.regionE fun K hK => ?_; simp -implicitDefEqProofs; repeat refine ⟨by omega, ?_⟩
       refine hK _ ?_; clear hK K; refine ⟨k + 1, ⟨by omega, hn⟩, by omega, ?_⟩
       exact Wk.cut (by simp) (by simp [subE, wrap1 k (by omega)]) (by simp [cutH]) (by simp [lowE, lowN]) (by simp))
     rotate_right
     case' _ =>
      intro hb2
      first
      | (exfalso; simp at hb2; done)
      | (exfalso; simp at hb2; omega)
      | (
       have hy : x ∈ l := by simpa using hb2
       have hr := idxM_at hx.2 hxk hy
       refine SW.rg fun K hK => ?_; simp -implicitDefEqProofs; repeat refine ⟨by omega, ?_⟩
       refine hK _ ?_; clear hK K; refine SW.ret ?_; simp [Ex.then, Ex.ib]
       all_goals (simp [hr])))
set_option maxHeartbeats 1000000 in
theorem contM_ok (m l : List Int) (hm : m.length ≤ 2 ^ 40) (hl : l.length ≤ 2 ^ 40) : CallS Tryz.prog 40 [.fz (IntS m), .fn (.func 41) [] [.ptr 0 0 0]] ([some ⟨1, [[.sl 1 0 l.length]]⟩, some ⟨1, IntS l⟩]) (fun o h' => o = .bool (meets m l) ∧ h' = [some ⟨1, [[.sl 1 0 l.length]]⟩, some ⟨1, IntS l⟩]) := by
  refine CallS.intro Tryz.func40 (by decide) rfl (rs := [.tmp 4]) rfl Tryz.ntmps40 (by simp) ?_; refine SW.rg fun K hK => ?_; simp -implicitDefEqProofs; repeat refine ⟨by omega, ?_⟩
  refine hK _ ?_; clear hK K; refine SW.rg fun K hK => ?_; simp -implicitDefEqProofs; iterate 2 (try refine ⟨by omega, ?_⟩)
  refine CallS.mono (idxM_ok m l hm hl) ?_
  rintro o h' ⟨rfl, rfl⟩
  simp -implicitDefEqProofs; repeat refine ⟨by omega, ?_⟩
  refine hK _ ?_; clear hK K; refine SW.ret ?_; simp [Ex.then, Ex.ib]
  all_goals (try simp [idxM_nn])
end HT
