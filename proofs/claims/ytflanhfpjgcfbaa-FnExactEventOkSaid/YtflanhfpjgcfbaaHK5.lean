/-
  My own text (road H): HK5.
-/
import Derived.Test.YtflanhfpjgcfbaaHK4
import Derived.Laws.StructEq
set_option linter.unusedVariables false
set_option linter.unusedSimpArgs false
namespace HK
open Go

section
variable {P : Program} {w : World} {own : Nat → Prop} {φ : Refs}

theorem run_eq_bool {t : TypeId} (h : P.underlying t = some .bool) (p q : Bool) : (Op.equal t (.bool p) (.bool q)).run P w = .ok (p == q) w := by
  have : Op.equal t (.bool p) (.bool q) = Op.equalIn (9999 + 1) t (.bool p) (.bool q) := rfl
  rw [this]
  unfold Op.equalIn
  rw [Sem.run_bind, run_underlying h]; rfl

theorem part_cell {t : TypeId} (h : P.underlying t = some (.int .i64) ∨ (∃ k, P.underlying t = some (.int k)) ∨ P.underlying t = some .bool ∨ P.underlying t = some .string) {cs : Array Value} {j : Nat} {v : Value} (hv : cs[j]? = some v) : (part t cs j).run P w = .ok v w := by
  unfold part isAgg
  rcases h with h | ⟨k, h⟩ | h | h <;> simp [run_underlying h, hv]
theorem eqF_sound (d : Nat) : ∀ (fs : List Field) (j : Nat) (ks : List Nat) (xs ys : List AV) (us vs : List Value) (cu cv : Array Value), fkinds P fs j = some (xs.map avk) → eqk xs ys → CR w own φ xs us [] → CR w own φ ys vs [] →
    (∀ n v, us[n]? = some v → cu[j + n]? = some v) → (∀ n v, vs[n]? = some v → cv[j + n]? = some v) → (Op.eqFields (d + 1) cu cv fs).run P w = .ok (eqc xs ys) w
  | [], j, ks, xs, ys, us, vs, cu, cv, hf, hk, hx, hy, hu, hv => by
    simp [fkinds] at hf
    subst hf
    cases ys with
    | nil => simp [Op.eqFields, eqc]
    | cons _ _ => simp [eqk] at hk
  | f :: fs, j, ks, xs, ys, us, vs, cu, cv, hf, hk, hx, hy, hu, hv => by
    unfold fkinds at hf
    split at hf
    · rename_i a l ha hl
      simp at hf
      cases xs with
      | nil => simp at hf
      | cons x xs =>
        simp only [List.map_cons, List.cons.injEq] at hf
        obtain ⟨rfl, rfl⟩ := hf
        cases ys with
        | nil => cases x <;> simp [eqk] at hk
        | cons y ys =>
          obtain ⟨u, us', S1, S2, rfl, hS, k1, k2⟩ := hx.uncons
          obtain ⟨v, vs', T1, T2, rfl, hT, m1, m2⟩ := hy.uncons
          have eS : S1 = [] ∧ S2 = [] := by simpa using hS.symm
          have eT : T1 = [] ∧ T2 = [] := by simpa using hT.symm
          obtain ⟨rfl, rfl⟩ := eS
          obtain ⟨rfl, rfl⟩ := eT
          unfold fkind at ha
          split at ha
          · rename_i hn
            have hu0 := hu 0 u (by simp)
            have hv0 := hv 0 v (by simp)
            simp only [Nat.add_zero] at hu0 hv0
            have rest := fun (hk' : eqk xs ys) => eqF_sound d fs (j + 1) [] xs ys us' vs' cu cv hl hk' k2 m2 (fun n v h => by rw [show j + 1 + n = j + (n + 1) by omega]; exact hu (n + 1) v (by simpa using h)) (fun n v h => by rw [show j + 1 + n = j + (n + 1) by omega]; exact hv (n + 1) v (by simpa using h))
            simp only [Op.eqFields]
            rw [if_pos hn.1, hn.2]
            split at ha
            · rename_i kk hki
              cases x with
              | int k a =>
                cases y with
                | int k' b =>
                  simp only [eqk] at hk
                  obtain ⟨rfl, hk⟩ := hk
                  cases k1; cases m1
                  simp only [Sem.run_bind, part_cell (.inr (.inl ⟨_, hki⟩)) hu0, part_cell (.inr (.inl ⟨_, hki⟩)) hv0, Result.andThen_ok, run_equalIn_int w d f.type k kk a b hki, Sem.run_ite, Sem.run_pure, rest hk, eqc]
                  cases hab : a == b <;> simp
                | _ => simp [eqk] at hk
              | _ => simp [avk] at ha
            · rename_i hki
              cases x with
              | bool a =>
                cases y with
                | bool b =>
                  simp only [eqk] at hk
                  cases k1; cases m1
                  simp only [Sem.run_bind, part_cell (.inr (.inr (.inl hki))) hu0, part_cell (.inr (.inr (.inl hki))) hv0, Result.andThen_ok, run_equalIn_bool' w d f.type a b hki, Sem.run_ite, Sem.run_pure, rest hk, eqc]
                  cases hab : a == b <;> simp
                | _ => simp [eqk] at hk
              | _ => simp [avk] at ha
            · rename_i hki
              cases x with
              | str a =>
                cases y with
                | str b =>
                  simp only [eqk] at hk
                  cases k1; cases m1
                  simp only [Sem.run_bind, part_cell (.inr (.inr (.inr hki))) hu0, part_cell (.inr (.inr (.inr hki))) hv0, Result.andThen_ok, run_equalIn_string w d f.type a b hki, Sem.run_ite, Sem.run_pure, rest hk, eqc, data_eq]
                  cases hab : decide (a = b) <;> simp
                | _ => simp [eqk] at hk
              | _ => simp [avk] at ha
            · cases ha
          · cases ha
    · cases hf
theorem eqs_sound {t : TypeId} {xs ys : List AV} {us vs : List Value} (ht : tsh P t = some (xs.map avk)) (hk : eqk xs ys) (hx : CR w own φ xs us []) (hy : CR w own φ ys vs []) :
    (do eqGuard .eql t (.tmp 0) (.tmp 0) (.agg us.toArray) (.agg vs.toArray); Op.equal t (.agg us.toArray) (.agg vs.toArray) : Sem Bool).run P w = .ok (eqc xs ys) w := by
  unfold tsh at ht
  split at ht
  · rename_i fs hu
    split at ht
    · rename_i hg
      have hfo : P.fieldsOf t = fs := by unfold Program.fieldsOf; rw [hu]
      have e : Op.equal t (.agg us.toArray) (.agg vs.toArray) = Op.equalIn (9999 + 1) t (.agg us.toArray) (.agg vs.toArray) := rfl
      rw [Sem.run_bind, run_eqGuard_agg w .eql t _ _ _ _ hg.2, Result.andThen_ok, e, run_equalIn_struct w 9999 t _ _ (by rw [hfo]; exact hu) hg.1, hfo]
      exact eqF_sound 9998 fs.toList 0 [] xs ys us vs _ _ ht hk hx hy (fun n v h => by simpa using h) (fun n v h => by simpa using h)
    · cases ht
  · cases ht
theorem binV_sound {op : BinOp} {t : TypeId} {x y : Operand} {a b : AV} {u v : Value} (ha : VR w own φ a u []) (hb' : VR w own φ b v []) (ok : (binV P op t a b).1) :
    ∃ z, (do eqGuard op t x y u v; binOp op t u v : Sem Value).run P w = .ok z w ∧ VR w own φ (binV P op t a b).2 z [] := by
  cases ha with
  | int k n =>
    cases hb' with
    | int k' m =>
      have hg : (eqGuard op t x y (.int k n) (.int k' m)).run P w = .ok () w := by
        unfold eqGuard; split <;> simp
      simp only [Sem.run_bind, hg, Result.andThen_ok]
      by_cases h1 : op = .shl
      · subst h1
        simp only [binV] at ok ⊢
        exact ⟨.int k (k.wrap (n * 2 ^ (min m.toNat k.bits))), by simp [binOp, Op.shift]; omega, VR.int _ _⟩
      · by_cases h2 : op = .shr
        · subst h2
          simp only [binV] at ok ⊢
          exact ⟨.int k (n.fdiv (2 ^ (min m.toNat k.bits))), by simp [binOp, Op.shift]; omega, VR.int _ _⟩
        · have e : binV P op t (.int k n) (.int k' m) = (k = k' ∧ (binI op k n m).1, (binI op k n m).2) := by cases op <;> first | rfl | exact absurd rfl h1 | exact absurd rfl h2
          rw [e] at ok ⊢
          obtain ⟨rfl, ok⟩ := ok
          exact binI_sound ok h1 h2
    | _ => simp [binV] at ok
  | str s =>
    cases hb' with
    | str s' =>
      have hg : (eqGuard op t x y (.string s) (.string s')).run P w = .ok () w := by
        unfold eqGuard; split <;> simp
      simp only [Sem.run_bind, hg, Result.andThen_ok, binV]
      cases op <;> simp only [binV, binS] at ok ⊢
      case add =>
        refine ⟨_, ?_, VR.str _⟩
        have : ¬ (((s.size + s'.size : Nat) : Int) > IntKind.i64.max) := by simpa [IntKind.max, IntKind.signed, IntKind.bits] using ok
        simp only [binOp, Op.stringOp]
        rw [if_neg this]; rfl
      case eql => exact ⟨.bool (decide (s = s')), by simp [binOp, Op.stringOp, data_eq], VR.bool _⟩
      case neq => exact ⟨.bool (!decide (s = s')), by simp [binOp, Op.stringOp, data_eq], VR.bool _⟩
    | _ => simp [binV] at ok
  | bool p =>
    cases hb' with
    | bool q =>
      have hg : (eqGuard op t x y (.bool p) (.bool q)).run P w = .ok () w := by
        unfold eqGuard; split <;> simp
      simp only [Sem.run_bind, hg, Result.andThen_ok]
      cases op <;> simp only [binV] at ok ⊢ <;> first | exact ok.elim | skip
      · exact ⟨.bool (p == q), by simp [binOp, run_eq_bool ok], VR.bool _⟩
      · exact ⟨.bool (!(p == q)), by simp [binOp, run_eq_bool ok], VR.bool _⟩
    | _ => simp [binV] at ok
  | agg xs us S h =>
    cases hb' with
    | agg ys vs S' h' =>
      cases op <;> simp only [binV] at ok ⊢ <;> first | exact ok.elim | skip
      · obtain ⟨h1, h2⟩ := ok
        have := eqs_sound h1 h2 h h'
        refine ⟨.bool (eqc xs ys), ?_, VR.bool _⟩
        simp only [Sem.run_bind] at this
        have e : (eqGuard .eql t x y (.agg us.toArray) (.agg vs.toArray)).run P w = (eqGuard .eql t (.tmp 0) (.tmp 0) (.agg us.toArray) (.agg vs.toArray)).run P w := by simp [eqGuard]
        have e2 : binOp .eql t (.agg us.toArray) (.agg vs.toArray) = (do pure (.bool (← Op.equal t (.agg us.toArray) (.agg vs.toArray)))) := rfl
        simp only [Sem.run_bind, e, e2]
        revert this
        cases (eqGuard .eql t (.tmp 0) (.tmp 0) (.agg us.toArray) (.agg vs.toArray)).run P w with
        | ok _ w1 =>
          simp only [Result.andThen_ok]
          intro this
          rw [this]; rfl
        | halt _ _ => intro this; cases this
      · obtain ⟨h1, h2⟩ := ok
        have := eqs_sound h1 h2 h h'
        refine ⟨.bool (!eqc xs ys), ?_, VR.bool _⟩
        simp only [Sem.run_bind] at this
        have e : (eqGuard .neq t x y (.agg us.toArray) (.agg vs.toArray)).run P w = (eqGuard .eql t (.tmp 0) (.tmp 0) (.agg us.toArray) (.agg vs.toArray)).run P w := by simp [eqGuard]
        have e2 : binOp .neq t (.agg us.toArray) (.agg vs.toArray) = (do pure (.bool (!(← Op.equal t (.agg us.toArray) (.agg vs.toArray))))) := rfl
        simp only [Sem.run_bind, e, e2]
        revert this
        cases (eqGuard .eql t (.tmp 0) (.tmp 0) (.agg us.toArray) (.agg vs.toArray)).run P w with
        | ok _ w1 =>
          simp only [Result.andThen_ok]
          intro this
          rw [this]; rfl
        | halt _ _ => intro this; cases this
    | _ => simp [binV] at ok
  | _ => simp [binV] at ok

theorem unV_sound {op : UnOp} {a : AV} {u : Value} (ha : VR w own φ a u []) (ok : (unV op a).1) : ∃ z, (Op.unary op u).run P w = .ok z w ∧ VR w own φ (unV op a).2 z [] := by
  cases ha with
  | int k n => cases op <;> simp only [unV] at ok ⊢ <;> first | exact ok.elim | exact ⟨_, by simp [Op.unary, Op.intArith], VR.int _ _⟩
  | bool b => cases op <;> simp only [unV] at ok ⊢ <;> first | exact ok.elim | exact ⟨_, by simp [Op.unary], VR.bool _⟩
  | _ => simp [unV] at ok

theorem pickV_sound {t : Bool} {a b : AV} {u v : Value} (ha : t = true → VR w own φ a u []) (hb' : t = false → VR w own φ b v []) : VR w own φ (pickV t a b) (if t then u else v) [] := by
  unfold pickV
  split
  · rename_i x y
    cases t with
    | true => simp only [pb, if_true]; exact ha rfl
    | false => simp only [pb, Bool.false_eq_true, if_false]; exact hb' rfl
  · cases t with
    | true => simpa using ha rfl
    | false => simpa using hb' rfl

theorem tint_spec {t : TypeId} {k : IntKind} (h : tint P t = some k) : P.underlying t = some (.int k) := by
  unfold tint at h; split at h
  · rename_i k' hu; cases h; exact hu
  · cases h
theorem tstr_spec {t : TypeId} (h : tstr P t = true) : P.underlying t = some .string := by
  unfold tstr at h; split at h
  · assumption
  · cases h
theorem tel_str {t : TypeId} {x : Nat × Nat} (h : tel P t = some x) : tstr P t = false := by
  obtain ⟨e, i, hu, _⟩ := tel_spec (sz := x.1) (bytes := x.2) h
  unfold tstr; rw [hu]
theorem cvV_sound {src dst : TypeId} {a : AV} {u : Value} (ha : VR w own φ a u []) (ok : (cvV P src dst a).1) : ∃ z, (convert src dst u).run P w = .ok z w ∧ VR w own φ (cvV P src dst a).2 z [] := by
  cases ha with
  | int k n =>
    simp only [cvV] at ok ⊢
    cases hd : tint P dst with
    | some k' =>
      simp only [hd] at ok ⊢
      obtain ⟨d, hs⟩ := Option.isSome_iff_exists.mp ok
      exact ⟨_, by simp [convert, run_underlying hs, run_underlying (tint_spec hd), Conv.intToInt], VR.int _ _⟩
    | none =>
      simp only [hd] at ok ⊢
      split at ok
      · rename_i k' h1 h2
        refine ⟨.string (Utf8.encode n), ?_, ?_⟩
        · simp [convert, run_underlying h2, run_underlying (tstr_spec h1), Conv.intToString]
        · exact VR.str _
      · exact ok.elim
  | str s =>
    simp only [cvV] at ok ⊢
    cases hd : tstr P dst with
    | true =>
      simp only [hd] at ok ⊢
      obtain ⟨d, hs⟩ := Option.isSome_iff_exists.mp ok
      exact ⟨.string s, by simp [convert, run_underlying hs, run_underlying (tstr_spec hd)], VR.str _⟩
    | false => simp [hd] at ok
  | _ => simp [cvV] at ok

theorem lenV_sound {t ty : TypeId} {a : AV} {u : Value} (ha : VR w own φ a u []) (ok : (lenV P t a).1) : ∃ z, (Builtin.len_ #[t] ty #[u]).run P w = .ok z w ∧ VR w own φ (lenV P t a).2 z [] := by
  have sl : ∀ {A : Option Addr} {n c : Nat}, (tel P t).isSome = true → (Builtin.len_ #[t] ty #[.slice A n c]).run P w = .ok (goInt n) w := by
    intro A n c h
    obtain ⟨x, hx⟩ := Option.isSome_iff_exists.mp h
    obtain ⟨e, i, hu, _⟩ := tel_spec (sz := x.1) (bytes := x.2) hx
    simp [Builtin.len_, run_underlying hu]
  cases ha with
  | str s =>
    simp only [lenV] at ok ⊢
    exact ⟨_, by simp [Builtin.len_, run_underlying ok, goInt], VR.int _ _⟩
  | sl0 id off r A h => simp only [lenV] at ok ⊢; exact ⟨_, sl ok, VR.int _ _⟩
  | sl id off len cap r h hcap hlim => simp only [lenV] at ok ⊢; exact ⟨_, sl ok, VR.int _ _⟩
  | fz0 A cap => simp only [lenV] at ok ⊢; exact ⟨_, sl ok, VR.int _ _⟩
  | fz es sz A cap vs hlt ho hu hcap hs hc => simp only [lenV] at ok ⊢; exact ⟨_, sl ok, VR.int _ _⟩
  | nil A => simp only [lenV] at ok ⊢; exact ⟨_, sl ok, VR.int _ _⟩
  | _ => simp [lenV] at ok

theorem minV_sound {ts : Array TypeId} {ty : TypeId} {a b : AV} {u v : Value} (ha : VR w own φ a u []) (hb' : VR w own φ b v []) (ok : (minV [a, b]).1) : ∃ z, (Builtin.min_ ts ty #[u, v]).run P w = .ok z w ∧ VR w own φ (minV [a, b]).2 z [] := by
  cases ha with
  | int k n =>
    cases hb' with
    | int k' m => exact ⟨_, by simp [Builtin.min_, Builtin.min2], VR.int _ _⟩
    | _ => simp [minV] at ok
  | _ => simp [minV] at ok
theorem maxV_sound {ts : Array TypeId} {ty : TypeId} {a b : AV} {u v : Value} (ha : VR w own φ a u []) (hb' : VR w own φ b v []) (ok : (maxV [a, b]).1) : ∃ z, (Builtin.max_ ts ty #[u, v]).run P w = .ok z w ∧ VR w own φ (maxV [a, b]).2 z [] := by
  cases ha with
  | int k n =>
    cases hb' with
    | int k' m => exact ⟨_, by simp [Builtin.max_, Builtin.max2], VR.int _ _⟩
    | _ => simp [maxV] at ok
  | _ => simp [maxV] at ok
end
end HK
