import Derived.Test.YteeefpifkepbpaaHSL
/-
  My own texts (road H): HSM.
-/
set_option linter.unusedSimpArgs false
namespace HS
open Go Go.Proofs HK
@[simp] theorem bytC_YS : ∀ (l : List Int), bytC (YS l) = some l
  | [] => rfl
  | x :: l => by
    have h := bytC_YS l
    unfold YS at h ⊢; simp [bytC, h]
@[simp] theorem bytC_nil : bytC [] = some [] := rfl
theorem drop_get8 {α : Type} {l : List α} {k : Nat} {x : α} (h : l[k]? = some x) : l.drop k = x :: l.drop (k + 1) := by
  obtain ⟨hlt, rfl⟩ := List.getElem?_eq_some_iff.1 h; exact List.drop_eq_getElem_cons hlt
theorem YS_lenG (l : List Int) (k : Nat) (h : k < l.length) : ((Option.map (fun b => [AV.int .u8 b]) l[k]?).getD []).length = 1 := by simp [h]
theorem rest_cases (b pre rest : List Int) (N J : Nat) (h1 : b.drop N = pre ++ rest) (h2 : J = N + pre.length) (h3 : pre.length ≤ 5) (hN : N < b.length) :
    (rest = [] ∧ (J < b.length) = False ∧ J = b.length ∧ b[J]? = none) ∨ (∃ d r, rest = d :: r ∧ (J < b.length) = True ∧ J < b.length ∧ b[J]? = some d ∧ (∀ h : J < (YS b).length, (YS b)[J] = [.int .u8 d]) ∧ (((J : Int) < (N : Int) + 5) = False ∧ pre.length = 5 ∨ ((J : Int) < (N : Int) + 5) = True ∧ pre.length < 5)) := by
  have hlen : b.length - N = pre.length + rest.length := by have := congrArg List.length h1; simpa using this
  cases rest with
  | nil => left; simp at hlen; exact ⟨rfl, by simp; omega, by omega, by simp; omega⟩
  | cons d r =>
    right
    simp at hlen; have hJ : J < b.length := by omega
    have hg : b[J]? = some d := by rw [h2, ← List.getElem?_drop, h1, List.getElem?_append_right (by omega)]; simp
    refine ⟨d, r, rfl, by simp; omega, hJ, hg, ?_, ?_⟩
    · intro h
      have h9 := List.getElem?_eq_getElem h
      rw [YS_get, hg] at h9
      simpa using h9.symm
    · by_cases h5 : pre.length = 5
      · left; exact ⟨by simp; omega, h5⟩
      · right; exact ⟨by simp; omega, by omega⟩
set_option maxHeartbeats 1000000 in
theorem getVar_spec (b : List Int) (i : Int) (hl : b.length ≤ 2 ^ 40) (hb : ∀ x ∈ b, isB x) : Fn Try.prog 73 [.fz (YS b), .int .i64 i] (getA (getV b i)) := by
  refine Fn.intro Try.func73 (by decide) rfl (rs := [.tmp 4, .tmp 5, .tmp 6]) rfl Try.ntmps73 (by simp) ?_; refine SW.rg fun K hK => ?_; simp -implicitDefEqProofs
  first | refine hK _ ?_ | refine ⟨by omega, hK _ ?_⟩ | refine ⟨by omega, by omega, hK _ ?_⟩
  clear hK K; refine SW.seqK fun K1 hK1 => ?_; refine SW.rg fun K hK => ?_; simp -implicitDefEqProofs
  first | refine hK _ ?_ | refine ⟨by omega, hK _ ?_⟩ | refine ⟨by omega, by omega, hK _ ?_⟩
  clear hK K; refine SW.cond _ rfl (by simp) ?_ ?_
  case' refine_2 =>
    intro hb1; obtain ⟨N, rfl⟩ : ∃ N : Nat, i = N := ⟨i.toNat, by simp at hb1; omega⟩
    have hN : N < b.length := by simp at hb1; omega
    have hgn := getV_nat b N
    have hw5 := wrapI ((N : Int) + 5) (by omega) (by omega)
    first
    | (exfalso; simp at hb1; done)
    | (exfalso; simp at hb1; omega)
    | (
      refine SW.skip ?_; refine hK1 _ ?_; refine SW.rg fun K hK => ?_; simp -implicitDefEqProofs
      first | refine hK _ ?_ | refine ⟨by omega, hK _ ?_⟩ | refine ⟨by omega, by omega, hK _ ?_⟩
      clear hK K; refine SW.seqK fun K2 hK2 => ?_; refine SW.block ?_
      refine SW.loop (α := Nat × List Int × List Int) (fun x => ⟨[(7, .int .i64 (x.1 : Nat)), (1, .int .i64 (N : Nat)), (0, .fz (YS b))], []⟩) (fun x => b.drop N = x.2.1 ++ x.2.2 ∧ x.1 = N + x.2.1.length ∧ x.2.1.length ≤ 5 ∧ digs 5 (b.drop N) = (digs (5 - x.2.1.length) x.2.2).map (x.2.1 ++ ·)) (fun x => 5 - x.2.1.length) ((N, [], b.drop N)) ?_ ?_ (fun x hx => ?_)
      case' refine_1 =>
        exact ⟨by simp, by simp, by simp, by simp⟩
      case' refine_2 =>
        exact Wk.cut (by simp) (by simp [subE]) (by simp [cutH]) (by simp [lowE, lowN]) (by simp)
      case' refine_3 =>
        obtain ⟨J, pre, rest⟩ := x; simp only [] at hx; obtain ⟨h1, h2, h3, h4⟩ := hx; simp only []; refine SW.seqK fun K3 hK3 => ?_
        obtain ⟨rfl, c1, hJe, hget⟩ | ⟨d, rest, rfl, c1, hJ, hget, hgE, ⟨c5, h5⟩ | ⟨c5, h5⟩⟩ := rest_cases b pre rest N J h1 h2 h3 hN
        all_goals (
          refine SW.rg fun K hK => ?_
          first | simp -implicitDefEqProofs [c1, hget, hgE, hw5, c5] | simp -implicitDefEqProofs [c1, hget, hw5]
          first | refine hK _ ?_ | refine ⟨by omega, hK _ ?_⟩ | refine ⟨by omega, by omega, hK _ ?_⟩
          clear hK K; refine SW.cond _ rfl (by simp) ?_ ?_
          case' refine_2 =>
            intro hb2
            first
            | (exfalso; simp at hb2; done)
            | (exfalso; simp at hb2; omega)
            | (
              refine SW.exit ?_; simp only [Ex.then, Ex.ib]; try simp only [if_true, if_false, reduceIte]
              refine hK2 _ ?_; refine SW.seqK fun K4 hK4 => ?_; refine SW.rg fun K hK => ?_; simp -implicitDefEqProofs [hw5]
              first | refine hK _ ?_ | refine ⟨by omega, hK _ ?_⟩ | refine ⟨by omega, by omega, hK _ ?_⟩
              clear hK K; refine SW.cond _ rfl (by simp) ?_ ?_
              case' refine_2 =>
                intro hb3
                first
                | (exfalso; simp at hb3; done)
                | (exfalso; simp at hb3; omega)
                | (
                  have hdl : d < 128 := by simp at hb2; omega
                  have hds : digs 5 (b.drop N) = some (pre ++ [d]) := by rw [h4, show 5 - pre.length = (4 - pre.length) + 1 by omega, digs_lt hdl]; rfl
                  have hgo := getN_of hds
                  have hdig := (digs_spec hds).1
                  have hsl : (b.drop N).take (pre.length + 1) = pre ++ [d] := by rw [h1, show pre ++ d :: rest = (pre ++ [d]) ++ rest by simp]; exact List.take_left' (by simp)
                  have hbd : ∀ x ∈ pre ++ [d], isB x := fun x hx => hb x (by rw [← hsl] at hx; exact List.mem_of_mem_drop (List.mem_of_mem_take hx))
                  generalize hdd : pre ++ [d] = ds at hds hgo hdig hsl hbd
                  have hdl2 : ds.length = pre.length + 1 := by rw [← hdd]; simp
                  have hbs : b.drop N = ds ++ rest := by rw [h1, ← hdd]; simp
                  have hwJ := wrapI ((J : Int) + 1) (by omega) (by omega)
                  have hsub : ((J : Int) + 1 - (N : Int)).toNat = pre.length + 1 := by omega
                  refine SW.skip ?_; refine hK4 _ ?_; refine SW.rg fun K hK => ?_; simp -implicitDefEqProofs
                  first | refine hK _ ?_ | refine ⟨by omega, hK _ ?_⟩ | refine ⟨by omega, by omega, hK _ ?_⟩
                  clear hK K; refine SW.seqK fun K5 hK5 => ?_; refine SW.rg fun K hK => ?_; simp -implicitDefEqProofs
                  first | refine hK _ ?_ | refine ⟨by omega, hK _ ?_⟩ | refine ⟨by omega, by omega, hK _ ?_⟩
                  clear hK K; refine SW.block ?_
                  refine SW.loop (α := Nat × Int × Nat) (fun x => ⟨[(9, .int .i64 x.2.1), (8, .int .i64 (x.2.2 : Nat)), (7, .int .i64 (J : Nat)), (1, .int .i64 (N : Nat)), (0, .fz (YS b))], []⟩) (fun x => x.1 ≤ ds.length ∧ x.2.1 = N + x.1 - 1 ∧ x.2.2 = val (ds.drop x.1)) (fun x => x.1) ((ds.length, (J : Int), 0)) ?_ ?_ (fun x hx => ?_)
                  case' refine_1 =>
                    exact ⟨by simp, by simp only []; omega, by simp [val]⟩
                  case' refine_2 =>
                    exact Wk.cut (by simp) (by simp [subE]) (by simp [cutH]) (by simp [lowE, lowN]) (by simp)
                  case' refine_3 =>
                    obtain ⟨k, t, V⟩ := x; simp only [] at hx; obtain ⟨k1, k2, k3⟩ := hx; simp only []; refine SW.seqK fun K6 hK6 => ?_; refine SW.rg fun K hK => ?_; simp -implicitDefEqProofs
                    first | refine hK _ ?_ | refine ⟨by omega, hK _ ?_⟩ | refine ⟨by omega, by omega, hK _ ?_⟩
                    clear hK K; refine SW.cond _ rfl (by simp) ?_ ?_
                    case' refine_2 =>
                      intro hb4
                      first
                      | (exfalso; simp at hb4; done)
                      | (exfalso; simp at hb4; omega)
                      | (
                        have hk0 : k = 0 := by simp at hb4; omega
                        subst hk0; have hVd : V = val ds := by rw [k3]; simp
                        refine SW.exit ?_; simp only [Ex.then, Ex.ib]; try simp only [if_true, if_false, reduceIte]
                        refine hK5 _ ?_; cases hn : numOk (V : Int)
                        all_goals (
                          refine SW.rg fun K hK => ?_; simp -implicitDefEqProofs; iterate 2 (try refine ⟨by omega, ?_⟩)
                          first
                            | refine CallK.fzE (Fn.nil1 (putVar_s [] (V : Int) (by simp) (by assumption))) (by simp) ?_
                            | refine CallK.fzE (Fn.nil1 (putVar_sn [] (V : Int) (by simp) (by assumption))) (by simp) ?_
                          simp -implicitDefEqProofs
                          first | refine hK _ ?_ | refine ⟨by omega, hK _ ?_⟩ | refine ⟨by omega, by omega, hK _ ?_⟩
                          clear hK K; refine SW.seqK fun K7 hK7 => ?_
                          refine SW.drawK mixed [.q [(0, false), (1, false), (2, false), (3, false), (4, false), (5, false), (6, false), (7, false), (8, false), (9, false), (10, false), (11, false), (12, false)]] (by kernel_rfl) rfl fun K hK => ?_
                          simp -implicitDefEqProofs [hwJ, YS_dropN, YS_takeN, hsub, hsl]
                          first
                            | refine hK _ ?_
                            | refine ⟨⟨by omega, by omega, fun _ => YS_lenG b N hN⟩, hK _ ?_⟩
                          clear hK K; refine SW.cond _ rfl (by simp) ?_ ?_
                          case' refine_2 =>
                            intro hb5
                            first
                            | (exfalso; simp at hb5; done)
                            | (exfalso; simp at hb5; omega)
                            | (
                              have hres : getN b N = some (V, J + 1) := by
                                rw [hgo, if_pos]
                                · simp [hVd]; omega
                                · have h9 : strB (varB V) = strB ds := by simpa using hb5
                                  have h8 := (strB_inj (varB_isB V) hbd).1 h9
                                  rw [hVd] at h8 hn; rw [(varB_val hdig hbd).1 h8]; simp [numOk] at hn; simp; omega
                              refine SW.skip ?_; refine hK7 _ ?_; refine SW.rg fun K hK => ?_; simp -implicitDefEqProofs [hwJ]
                              first | refine hK _ ?_ | refine ⟨by omega, hK _ ?_⟩ | refine ⟨by omega, by omega, hK _ ?_⟩
                              clear hK K; refine SW.ret ?_; simp [Ex.then, Ex.ib]
                              first
                                | (rw [hres]; rfl)
                                | (rw [hgn, hres]; rfl)
                                | (rw [hgn, hres]; simp [getA]; done)
                                | fail)
                          rotate_right
                          case' _ =>
                            intro hb5
                            first
                            | (exfalso; simp at hb5; done)
                            | (exfalso; simp at hb5; omega)
                            | (
                              have hres : getN b N = none := by
                                rw [hgo, if_neg]; intro hq; simp only [Bool.and_eq_true, decide_eq_true_eq] at hq; have hn2 : numOk (V : Int) = true := by rw [hVd]; simp [numOk]; omega
                                have hv2 := (varB_val hdig hbd).2 hq.1
                                rw [← hVd] at hv2
                                first
                                  | (rw [hn] at hn2; cases hn2; done)
                                  | (rw [hv2] at hb5; simp at hb5; done)
                              refine SW.rg fun K hK => ?_; simp -implicitDefEqProofs
                              first | refine hK _ ?_ | refine ⟨by omega, hK _ ?_⟩ | refine ⟨by omega, by omega, hK _ ?_⟩
                              clear hK K; refine SW.ret ?_; simp [Ex.then, Ex.ib]
                              first
                                | (rw [hres]; rfl)
                                | (rw [hgn, hres]; rfl)
                                | (rw [hgn, hres]; simp [getA]; done)
                                | fail)))
                    rotate_right
                    case' _ =>
                      intro hb4
                      first
                      | (exfalso; simp at hb4; done)
                      | (exfalso; simp at hb4; omega)
                      | (
                        obtain ⟨k, rfl⟩ : ∃ q, k = q + 1 := ⟨k - 1, by simp at hb4; omega⟩
                        obtain ⟨I, rfl⟩ : ∃ I : Nat, t = I := ⟨N + k, by omega⟩
                        have hI : I = N + k := by omega
                        obtain ⟨e, hek⟩ : ∃ e, ds[k]? = some e := ⟨_, List.getElem?_eq_getElem (by omega)⟩
                        have hget : b[I]? = some e := by rw [hI, ← List.getElem?_drop, hbs, List.getElem?_append_left (by omega)]; exact hek
                        obtain ⟨D, rfl, hD⟩ := byte_nat (hb e (List.mem_of_getElem? hget)); have hwd := wrapI (D : Int) (by omega) (by omega)
                        obtain ⟨E, hE⟩ : ∃ E, D % 128 = E := ⟨_, rfl⟩
                        have hE2 : E < 128 := by omega
                        have ht : (D : Int).tmod 128 = (E : Int) := by rw [tmod128, hE]
                        have hV : V < 128 ^ 4 := by rw [k3]; exact Nat.lt_of_lt_of_le (val_lt _) (Nat.pow_le_pow_right (by omega) (by simp; omega))
                        have hw1 := wrapI ((V : Int) * 128) (by omega) (by omega)
                        have hw2 := wrapI ((V : Int) * 128 + (E : Int)) (by omega) (by omega)
                        have hw3 := wrapI ((I : Int) - 1) (by omega) (by omega)
                        have hva : V * 128 + E = val (ds.drop k) := by rw [drop_get8 hek, val, k3]; omega
                        refine SW.skip ?_; refine hK6 _ ?_; refine SW.seqK fun K8 hK8 => ?_; refine SW.block ?_; refine SW.regionE fun K hK => ?_; simp -implicitDefEqProofs [hget, hwd, ht, hw1, hw2]
                        first | refine hK _ ?_ | refine ⟨by omega, hK _ ?_⟩ | refine ⟨by omega, by omega, hK _ ?_⟩
                        clear hK K; refine hK8 _ ?_; refine SW.regionE fun K hK => ?_; simp -implicitDefEqProofs [hw3]
                        first | refine hK _ ?_ | refine ⟨by omega, hK _ ?_⟩ | refine ⟨by omega, by omega, hK _ ?_⟩
                        clear hK K; refine ⟨(k, (I : Int) - 1, V * 128 + E), ⟨by simp only []; omega, by simp only []; omega, hva⟩, by simp only []; omega, ?_⟩
                        exact Wk.cut (by simp) (by simp [subE, hw3]) (by simp [cutH]) (by simp [lowE, lowN]) (by simp)))
              rotate_right
              case' _ =>
                intro hb3
                first
                | (exfalso; simp at hb3; done)
                | (exfalso; simp at hb3; omega)
                | (
                  have hres : getN b N = none := by
                    refine getN_none ?_; rw [h4]
                    first
                      | (simp [h5, digs]; done)
                      | (cases 5 - pre.length <;> rfl)
                  refine SW.rg fun K hK => ?_; simp -implicitDefEqProofs
                  first | refine hK _ ?_ | refine ⟨by omega, hK _ ?_⟩ | refine ⟨by omega, by omega, hK _ ?_⟩
                  clear hK K; refine SW.ret ?_; simp [Ex.then, Ex.ib]
                  first
                    | (rw [hres]; rfl)
                    | (rw [hgn, hres]; rfl)
                    | (rw [hgn, hres]; simp [getA]; done)
                    | fail))
          rotate_right
          case' _ =>
            intro hb2
            first
            | (exfalso; simp at hb2; done)
            | (exfalso; simp at hb2; omega)
            | (
              have hdg : ¬ d < 128 := by simp at hb2; omega
              have hwJ := wrapI ((J : Int) + 1) (by omega) (by omega)
              refine SW.skip ?_; refine hK3 _ ?_; refine SW.block ?_; refine SW.regionE fun K hK => ?_; simp -implicitDefEqProofs [hwJ]
              first | refine hK _ ?_ | refine ⟨by omega, hK _ ?_⟩ | refine ⟨by omega, by omega, hK _ ?_⟩
              clear hK K
              refine ⟨(J + 1, pre ++ [d], rest), ⟨by simp [h1], by simp only [List.length_append, List.length_cons, List.length_nil]; omega, by simp only [List.length_append, List.length_cons, List.length_nil]; omega, ?_⟩, by simp only [List.length_append, List.length_cons, List.length_nil]; omega, ?_⟩
              · simp only []; rw [h4, show 5 - pre.length = (4 - pre.length) + 1 by omega, digs_ge hdg, show 5 - (pre ++ [d]).length = 4 - pre.length by simp only [List.length_append, List.length_cons, List.length_nil]; omega]; simp [Function.comp_def]
              exact Wk.cut (by simp) (by simp [subE]) (by simp [cutH]) (by simp [lowE, lowN]) (by simp))))
  rotate_right
  case' _ =>
    intro hb1
    have hres : getV b i = none := by
      simp at hb1; by_cases h0 : i < 0
      · exact getV_neg h0
      · obtain ⟨N, rfl⟩ : ∃ N : Nat, i = N := ⟨i.toNat, by omega⟩
        rw [getV_nat]; exact getN_ge (by omega)
    first
    | (exfalso; simp at hb1; done)
    | (exfalso; simp at hb1; omega)
    | (
      refine SW.rg fun K hK => ?_; simp -implicitDefEqProofs
      first | refine hK _ ?_ | refine ⟨by omega, hK _ ?_⟩ | refine ⟨by omega, by omega, hK _ ?_⟩
      clear hK K; refine SW.ret ?_; simp [Ex.then, Ex.ib]
      first
        | (rw [hres]; rfl)
        | (rw [hgn, hres]; rfl)
        | (rw [hgn, hres]; simp [getA]; done)
        | fail)
def nv : Option (Nat × Nat) → Nat
  | some (n, _) => n
  | none => 0
def pv : Option (Nat × Nat) → Nat
  | some (_, p) => p
  | none => 0
theorem getA_eq (o : Option (Nat × Nat)) : getA o = .tup [.int .i64 (nv o), .int .i64 (pv o), .bool o.isSome] := by
  cases o with
  | none => rfl
  | some x => rfl
def unzig (n : Nat) : Int := if n % 2 = 1 then -(((n + 1) / 2 : Nat) : Int) else ((n / 2 : Nat) : Int)
theorem nv_le {b : List Int} {i : Int} : nv (getV b i) ≤ 4294967295 := by
  unfold getV; split
  · unfold getN
    split
    · simp [nv]
    · split
      · rename_i h
        simp at h; exact h.2
      · simp [nv]
  · simp [nv]
theorem nv_none {o : Option (Nat × Nat)} (h : o.isSome = false) : nv o = 0 ∧ pv o = 0 := by
  cases o with
  | none => exact ⟨rfl, rfl⟩
  | some x => cases h
theorem tmod2 (n : Nat) : ((n : Nat) : Int).tmod 2 = ((n % 2 : Nat) : Int) := by
  rw [Int.tmod_eq_emod_of_nonneg (by omega)]; omega
theorem negq (n : Nat) (h : n % 2 = 1) : (-((n : Int) + 1)).tdiv 2 = -(((n + 1) / 2 : Nat) : Int) := by
  rw [Int.neg_tdiv, Int.tdiv_eq_ediv_of_nonneg (by omega)]; omega
def getZA (o : Option (Nat × Nat)) : AV := .tup [.int .i64 (unzig (nv o)), .int .i64 (pv o), .bool o.isSome]
set_option maxHeartbeats 1000000 in
theorem getZig_spec (b : List Int) (i : Int) (hl : b.length ≤ 2 ^ 40) (hb : ∀ x ∈ b, isB x) : Fn Try.prog 72 [.fz (YS b), .int .i64 i] (getZA (getV b i)) := by
  refine Fn.intro Try.func72 (by decide) rfl (rs := [.tmp 4, .tmp 5, .tmp 6]) rfl Try.ntmps72 (by simp) ?_; refine SW.rg fun K hK => ?_; simp -implicitDefEqProofs
  first | refine hK _ ?_ | refine ⟨by omega, hK _ ?_⟩ | refine ⟨by omega, by omega, hK _ ?_⟩
  clear hK K
  generalize hn : nv (getV b i) = n
  generalize hp : pv (getV b i) = p
  generalize hq : (getV b i).isSome = q
  have hle : n ≤ 4294967295 := by rw [← hn]; exact nv_le
  have hw1 := wrapI ((n : Int) + 1) (by omega) (by omega)
  have hw2 := wrapI (-((n : Int) + 1)) (by omega) (by omega)
  have hw3 := wrapI (((n + 1) / 2 : Nat) : Int) (by omega) (by omega)
  have hw4 := wrapI (-(((n + 1) / 2 : Nat) : Int)) (by omega) (by omega)
  have hw5 := wrapI ((n : Int) / 2) (by omega) (by omega)
  have hm := tmod2 n
  all_goals (
    refine SW.rg fun K hK => ?_; simp -implicitDefEqProofs; iterate 2 (try refine ⟨by omega, ?_⟩)
    refine CallK.fz (out := .tup [.int .i64 n, .int .i64 p, .bool q]) (by have h9 := getVar_spec b i hl hb; rw [getA_eq, hn, hp, hq] at h9; exact h9) ?_; simp -implicitDefEqProofs
    first | refine hK _ ?_ | refine ⟨by omega, hK _ ?_⟩ | refine ⟨by omega, by omega, hK _ ?_⟩
    clear hK K; refine SW.seqK fun K1 hK1 => ?_; refine SW.rg fun K hK => ?_; simp -implicitDefEqProofs
    first | refine hK _ ?_ | refine ⟨by omega, hK _ ?_⟩ | refine ⟨by omega, by omega, hK _ ?_⟩
    clear hK K; refine SW.cond _ rfl (by simp) ?_ ?_
    case' refine_2 =>
      intro hb1; have hq1 : q = true := by simpa using hb1
      first
      | (exfalso; simp at hb1; done)
      | (exfalso; simp at hb1; omega)
      | (
        refine SW.skip ?_; refine hK1 _ ?_; refine SW.seqK fun K2 hK2 => ?_; refine SW.rg fun K hK => ?_; simp -implicitDefEqProofs
        first | refine hK _ ?_ | refine ⟨by omega, hK _ ?_⟩ | refine ⟨by omega, by omega, hK _ ?_⟩
        clear hK K; refine SW.cond _ rfl (by simp) ?_ ?_
        case' refine_2 =>
          intro hb2; have hev : ¬ n % 2 = 1 := by rw [hm] at hb2; simp at hb2; omega
          first
          | (exfalso; simp at hb2; done)
          | (exfalso; simp at hb2; omega)
          | (
            refine SW.skip ?_; refine hK2 _ ?_; refine SW.rg fun K hK => ?_; simp -implicitDefEqProofs
            first | refine hK _ ?_ | refine ⟨by omega, hK _ ?_⟩ | refine ⟨by omega, by omega, hK _ ?_⟩
            clear hK K; refine SW.ret ?_; simp [Ex.then, Ex.ib]; rw [getZA, hn, hp, hq]
            first
              | (rw [hw1, hw2, negq n hodd, hw4, unzig, if_pos hodd]; done)
              | (rw [hw1, hw2, negq n hodd, hw4, unzig, if_pos hodd, hq1]; done)
              | (rw [hw5, unzig, if_neg hev]; rfl)
              | (rw [hw5, unzig, if_neg hev, hq1]; rfl)
              | (have h9 := nv_none (hq.trans hq1); rw [hn, hp] at h9; rw [h9.1, h9.2, hq1]; rfl)
              | fail)
        rotate_right
        case' _ =>
          intro hb2; have hodd : n % 2 = 1 := by rw [hm] at hb2; simp at hb2; omega
          first
          | (exfalso; simp at hb2; done)
          | (exfalso; simp at hb2; omega)
          | (
            refine SW.rg fun K hK => ?_; simp -implicitDefEqProofs
            first | refine hK _ ?_ | refine ⟨by omega, hK _ ?_⟩ | refine ⟨by omega, by omega, hK _ ?_⟩
            clear hK K; refine SW.ret ?_; simp [Ex.then, Ex.ib]; rw [getZA, hn, hp, hq]
            first
              | (rw [hw1, hw2, negq n hodd, hw4, unzig, if_pos hodd]; done)
              | (rw [hw1, hw2, negq n hodd, hw4, unzig, if_pos hodd, hq1]; done)
              | (rw [hw5, unzig, if_neg hev]; rfl)
              | (rw [hw5, unzig, if_neg hev, hq1]; rfl)
              | (have h9 := nv_none (hq.trans hq1); rw [hn, hp] at h9; rw [h9.1, h9.2, hq1]; rfl)
              | fail))
    rotate_right
    case' _ =>
      intro hb1; have hq1 : q = false := by simpa using hb1
      first
      | (exfalso; simp at hb1; done)
      | (exfalso; simp at hb1; omega)
      | (
        refine SW.rg fun K hK => ?_; simp -implicitDefEqProofs
        first | refine hK _ ?_ | refine ⟨by omega, hK _ ?_⟩ | refine ⟨by omega, by omega, hK _ ?_⟩
        clear hK K; refine SW.ret ?_; simp [Ex.then, Ex.ib]; rw [getZA, hn, hp, hq]
        first
          | (rw [hw1, hw2, negq n hodd, hw4, unzig, if_pos hodd]; done)
          | (rw [hw1, hw2, negq n hodd, hw4, unzig, if_pos hodd, hq1]; done)
          | (rw [hw5, unzig, if_neg hev]; rfl)
          | (rw [hw5, unzig, if_neg hev, hq1]; rfl)
          | (have h9 := nv_none (hq.trans hq1); rw [hn, hp] at h9; rw [h9.1, h9.2, hq1]; rfl)
          | fail))
set_option maxHeartbeats 1000000 in
theorem getZig_impl (b : List Int) (i : Int) (hl : b.length ≤ 2 ^ 40) (hb : ∀ x ∈ b, isB x) : Fn Try.prog 74 [.fz (YS b), .int .i64 i] (getZA (getV b i)) := by
  refine Fn.intro Try.func74 (by decide) rfl (rs := [.tmp 4, .tmp 5, .tmp 6]) rfl Try.ntmps74 (by simp) ?_; refine SW.rg fun K hK => ?_; simp -implicitDefEqProofs
  first | refine hK _ ?_ | refine ⟨by omega, hK _ ?_⟩ | refine ⟨by omega, by omega, hK _ ?_⟩
  clear hK K
  generalize hn : nv (getV b i) = n
  generalize hp : pv (getV b i) = p
  generalize hq : (getV b i).isSome = q
  have hle : n ≤ 4294967295 := by rw [← hn]; exact nv_le
  have hw1 := wrapI ((n : Int) + 1) (by omega) (by omega)
  have hw2 := wrapI (-((n : Int) + 1)) (by omega) (by omega)
  have hw3 := wrapI (((n + 1) / 2 : Nat) : Int) (by omega) (by omega)
  have hw4 := wrapI (-(((n + 1) / 2 : Nat) : Int)) (by omega) (by omega)
  have hw5 := wrapI ((n : Int) / 2) (by omega) (by omega)
  have hm := tmod2 n
  all_goals (
    refine SW.rg fun K hK => ?_; simp -implicitDefEqProofs; iterate 2 (try refine ⟨by omega, ?_⟩)
    refine CallK.fz (out := .tup [.int .i64 n, .int .i64 p, .bool q]) (by have h9 := getVar_impl b i hl hb; rw [getA_eq, hn, hp, hq] at h9; exact h9) ?_; simp -implicitDefEqProofs
    first | refine hK _ ?_ | refine ⟨by omega, hK _ ?_⟩ | refine ⟨by omega, by omega, hK _ ?_⟩
    clear hK K; refine SW.seqK fun K1 hK1 => ?_; refine SW.rg fun K hK => ?_; simp -implicitDefEqProofs
    first | refine hK _ ?_ | refine ⟨by omega, hK _ ?_⟩ | refine ⟨by omega, by omega, hK _ ?_⟩
    clear hK K; refine SW.cond _ rfl (by simp) ?_ ?_
    case' refine_2 =>
      intro hb1; have hev : ¬ n % 2 = 1 := by rw [hm] at hb1; simp at hb1; omega
      first
      | (exfalso; simp at hb1; done)
      | (exfalso; simp at hb1; omega)
      | (
        refine SW.skip ?_; refine hK1 _ ?_; refine SW.rg fun K hK => ?_; simp -implicitDefEqProofs
        first | refine hK _ ?_ | refine ⟨by omega, hK _ ?_⟩ | refine ⟨by omega, by omega, hK _ ?_⟩
        clear hK K; refine SW.ret ?_; simp [Ex.then, Ex.ib]; rw [getZA, hn, hp, hq]
        first
          | (rw [hw1, hw2, negq n hodd, hw4, unzig, if_pos hodd]; done)
          | (rw [hw1, hw2, negq n hodd, hw4, unzig, if_pos hodd, hq1]; done)
          | (rw [hw5, unzig, if_neg hev]; rfl)
          | (rw [hw5, unzig, if_neg hev, hq1]; rfl)
          | (have h9 := nv_none (hq.trans hq1); rw [hn, hp] at h9; rw [h9.1, h9.2, hq1]; rfl)
          | fail)
    rotate_right
    case' _ =>
      intro hb1; have hodd : n % 2 = 1 := by rw [hm] at hb1; simp at hb1; omega
      first
      | (exfalso; simp at hb1; done)
      | (exfalso; simp at hb1; omega)
      | (
        refine SW.rg fun K hK => ?_; simp -implicitDefEqProofs
        first | refine hK _ ?_ | refine ⟨by omega, hK _ ?_⟩ | refine ⟨by omega, by omega, hK _ ?_⟩
        clear hK K; refine SW.ret ?_; simp [Ex.then, Ex.ib]; rw [getZA, hn, hp, hq]
        first
          | (rw [hw1, hw2, negq n hodd, hw4, unzig, if_pos hodd]; done)
          | (rw [hw1, hw2, negq n hodd, hw4, unzig, if_pos hodd, hq1]; done)
          | (rw [hw5, unzig, if_neg hev]; rfl)
          | (rw [hw5, unzig, if_neg hev, hq1]; rfl)
          | (have h9 := nv_none (hq.trans hq1); rw [hn, hp] at h9; rw [h9.1, h9.2, hq1]; rfl)
          | fail))
end HS
