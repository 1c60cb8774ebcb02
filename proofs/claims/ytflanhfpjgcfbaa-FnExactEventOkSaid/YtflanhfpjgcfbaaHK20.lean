/-
  My own text (road H): HK20.
-/
import Derived.Test.YtflanhfpjgcfbaaHK19
namespace HK
open Go

/-! ### results -/
def resL (P : Program) (h : Heap) (env : Env) : List ResultVar → Prop × List AV
  | [] => (True, [])
  | .tmp t :: l => (gk (lk env t) ∧ (resL P h env l).1, st1 (lk env t) :: (resL P h env l).2)
  | .cell a t :: l => match tk P t with
    | some (g, n) => ((loadV h g n (lk env a)).1 ∧ (resL P h env l).1, (loadV h g n (lk env a)).2 :: (resL P h env l).2)
    | none => (False, [])
def tupA : List AV → AV
  | [v] => v
  | vs => .tup vs

def strN : Nat → AV → Bool
  | 0, _ => false
  | d + 1, v => match v with
    | .own _ es => es.all fun e => e.all (strN d)
    | .fz [] | .nil | .bool _ | .int _ _ | .str _ | .undef => true
    | _ => false
def pkC (h : Heap) : AV → AV
  | .sl id off len => match hb h id with
    | some b => .own b.sz ((b.es.drop off).take len)
    | none => .undef
  | v => v
def pk1 (h : Heap) : AV → AV
  | .agg cs => .agg (cs.map (pkC h))
  | v => pkC h v
def pk (h : Heap) : AV → AV
  | .tup vs => .tup (vs.map (pk1 h))
  | v => pk1 h v
def okC' (h : Heap) : AV → Prop
  | .sl id off len => match hb h id with
    | some b => off + len ≤ b.es.length ∧ ((b.es.drop off).take len).all (fun e => e.all (strN 4)) = true
    | none => False
  | v => strN 4 v = true
def okCs (h : Heap) : List AV → Prop
  | [] => True
  | v :: l => okC' h v ∧ okCs h l
def ok1 (h : Heap) : AV → Prop
  | .agg cs => okCs h cs
  | v => okC' h v
def ok1s (h : Heap) : List AV → Prop
  | [] => True
  | v :: l => ok1 h v ∧ ok1s h l
def okPk (h : Heap) : AV → Prop
  | .tup vs => ok1s h vs
  | v => ok1 h v
def idC : AV → List Nat
  | .sl id _ _ => [id]
  | _ => []
def id1 : AV → List Nat
  | .agg cs => cs.flatMap idC
  | v => idC v
def idP : AV → List Nat
  | .tup vs => vs.flatMap id1
  | v => id1 v

section
variable {w : World} {own : Nat → Prop} {φ : Refs} {h : Heap} {Ss : List (List Nat)}
abbrev All : Nat → Prop := fun _ => True
theorem cr_str {φ φ' : Refs} {p : AV → Bool} {own' : Nat → Prop} (hf : ∀ v x S, VR w own φ v x S → p v = true → VR w own' φ' v x S) : ∀ {cs : List AV} {vs : List Value} {S : List Nat}, CR w own φ cs vs S → cs.all p = true → CR w own' φ' cs vs S
  | [], _, _, k, _ => by cases k; exact .nil
  | c :: cs, _, _, k, h => by
    obtain ⟨v, us, S1, S2, rfl, rfl, k1, k2⟩ := k.uncons
    simp only [List.all_cons, Bool.and_eq_true] at h
    exact .cons _ _ _ _ _ _ (hf _ _ _ k1 h.1) (cr_str hf k2 h.2)
theorem VR.strict : ∀ (d : Nat) {φ : Refs} {v : AV} {x : Value} {S : List Nat}, VR w own φ v x S → strN d v = true → VR w All nof v x S
  | 0, _, _, _, _, _, hl => by simp [strN] at hl
  | d + 1, _, _, _, _, k, hl => by
    cases k with
    | undef _ => exact .undef _
    | nil A => exact .nil A
    | bool b => exact .bool b
    | int k n => exact .int k n
    | str s => exact .str s
    | fz0 A cap => exact .fz0 A cap
    | own0 sz A => exact .own0 sz A
    | own es sz rb o cap lim vs S hr hu hcap hlim hs hc =>
      refine .own es sz rb o cap lim vs S hr hu hcap hlim hs (cr_str (fun v x S k h => VR.strict d k h) hc ?_)
      simp only [strN] at hl
      rw [List.all_eq_true] at hl ⊢
      intro v hv
      obtain ⟨e, he, hve⟩ := List.mem_flatten.1 hv
      exact List.all_eq_true.1 (hl e he) v hve
    | fz es _ _ _ _ _ _ _ _ _ _ => cases es with
      | nil => exact .fz0 _ _
      | cons _ _ => simp [strN] at hl
    | _ => simp [strN] at hl

theorem nodup_disj {Ss : List (List Nat)} (hn : Ss.flatten.Nodup) {i j : Nat} {S S' : List Nat} (hi : Ss[i]? = some S) (hj : Ss[j]? = some S') (hne : i ≠ j) {b : Nat} (hb : b ∈ S) : b ∉ S' := by
  intro hb'
  obtain ⟨A, B, e1, e2⟩ := flatten_set hi []
  obtain ⟨A', B', f1, f2⟩ := flatten_set (l := Ss.set i []) (id := j) (S := S') (by rw [List.getElem?_set_ne hne]; exact hj) []
  have h1 : b ∈ A ++ B := by
    have : b ∈ (Ss.set i []).flatten := by rw [f1]; simp [hb']
    rw [e2] at this; simpa using this
  rw [e1, List.nodup_append] at hn
  rcases List.mem_append.1 h1 with h | h
  · exact hn.2.2 b h b (List.mem_append_left _ hb) rfl
  · have := hn.2.1
    rw [List.nodup_append] at this
    exact this.2.2 b hb b h rfl

/-- A footprint that lies under these names. -/
def Under (Ss : List (List Nat)) (ids : List Nat) (S : List Nat) : Prop := S.Nodup ∧ ∀ b ∈ S, ∃ id ∈ ids, ∃ T, Ss[id]? = some T ∧ b ∈ T
theorem Under.app (hn : Ss.flatten.Nodup) {i j : List Nat} {S T : List Nat} (h : Under Ss i S) (k : Under Ss j T) (hd : (i ++ j).Nodup) : Under Ss (i ++ j) (S ++ T) := by
  refine ⟨?_, fun b hb => ?_⟩
  · rw [List.nodup_append]
    refine ⟨h.1, k.1, fun x hx y hy e => ?_⟩
    subst e
    obtain ⟨a, ha, A, e1, e2⟩ := h.2 x hx
    obtain ⟨c, hc, C, f1, f2⟩ := k.2 x hy
    rw [List.nodup_append] at hd
    exact nodup_disj hn e1 f1 (hd.2.2 a ha c hc) e2 f2
  · rcases List.mem_append.1 hb with hb | hb
    · obtain ⟨a, ha, r⟩ := h.2 b hb; exact ⟨a, List.mem_append_left _ ha, r⟩
    · obtain ⟨a, ha, r⟩ := k.2 b hb; exact ⟨a, List.mem_append_right _ ha, r⟩

theorem pkC_sound (hh : HR w own φ h Ss) (hn : Ss.flatten.Nodup) {v : AV} {x : Value} (k : VR w own φ v x []) (ok : okC' h v) : ∃ S, VR w All nof (pkC h v) x S ∧ Under Ss (idC v) S := by
  by_cases hs : ∃ id off len, v = .sl id off len
  · obtain ⟨id, off, len, rfl⟩ := hs
    simp only [okC'] at ok
    cases hb' : hb h id with
    | none => simp [hb'] at ok
    | some b =>
      simp only [hb'] at ok
      obtain ⟨hle, hst⟩ := ok
      simp only [pkC, hb', idC]
      cases k with
      | sl0 _ _ r A hr => exact ⟨[], by simp only [List.take_zero]; exact .own0 _ _, by simp, by simp⟩
      | sl _ _ _ cap r hr hcap hlim =>
        obtain ⟨S, hS, hB⟩ := hh id b (hb_spec hb')
        rcases hB with ⟨h1, _, _⟩ | ⟨r', vs, T, h1, h2, h3, h4, h5, h6, h7, rfl⟩
        · rw [hr] at h1; cases h1
        · rw [hr] at h1; cases h1
          obtain ⟨f1, f2, f3, f4⟩ := es_part h4 hle
          rw [f1] at h7
          obtain ⟨v1, v2', S1, S2', rfl, rfl, c1, c2⟩ := h7.split
          obtain ⟨v2, v3, S2, S3, rfl, rfl, c2, c3⟩ := c2.split
          have hseg := seg_mid h6
          rw [add_row, ← c1.length, f2, ← h2] at hseg
          have hc : CR w All nof ((b.es.drop off).take len).flatten v2 S2 := by
            refine cr_str (fun v x S k h => VR.strict 4 k h) c2 ?_
            rw [List.all_eq_true] at hst ⊢
            intro v hv
            obtain ⟨e, he, hve⟩ := List.mem_flatten.1 hv
            exact List.all_eq_true.1 (hst e he) v hve
          have hsub : (r.rb :: S2).Sublist (r.rb :: (S1 ++ (S2 ++ S3))) :=
            List.Sublist.cons_cons _ ((List.sublist_append_left S2 S3).trans (List.sublist_append_right S1 (S2 ++ S3)))
          have hnd : (r.rb :: (S1 ++ (S2 ++ S3))).Nodup := by
            obtain ⟨A, B, e1, _⟩ := flatten_set hS []
            rw [e1, List.nodup_append] at hn
            exact (List.nodup_append.1 hn.2.1).1
          refine ⟨r.rb :: S2, ?_, hnd.sublist hsub, fun y hy => ⟨id, by simp, _, hS, hsub.subset hy⟩⟩
          have := VR.own (w := w) (own := All) (φ := nof) ((b.es.drop off).take len) b.sz r.rb (r.base + off * r.sz) cap r.lim v2 S2 h3 (fun e he => h4 e (List.mem_of_mem_drop (List.mem_of_mem_take he))) (by rw [f4]; exact hcap)
            (by rw [← h2]; rw [Nat.add_mul] at hlim; omega) hseg hc
          rwa [f4] at this
  · have e1 : pkC h v = v := by cases v <;> first | rfl | exact (hs ⟨_, _, _, rfl⟩).elim
    have e2 : okC' h v = (strN 4 v = true) := by cases v <;> first | rfl | exact (hs ⟨_, _, _, rfl⟩).elim
    rw [e2] at ok
    rw [e1]
    exact ⟨[], VR.strict 4 k ok, by simp, by simp⟩
theorem pkCs_sound (hh : HR w own φ h Ss) (hn : Ss.flatten.Nodup) : ∀ {cs : List AV} {xs : List Value} {S : List Nat}, CR w own φ cs xs S → S = [] → okCs h cs → (cs.flatMap idC).Nodup → ∃ S', CR w All nof (cs.map (pkC h)) xs S' ∧ Under Ss (cs.flatMap idC) S'
  | [], _, _, k, _, _, _ => by cases k; exact ⟨[], .nil, by simp, by simp⟩
  | c :: cs, _, _, k, hS, ok, hd => by
    obtain ⟨v, us, S1, S2, rfl, rfl, k1, k2⟩ := k.uncons
    obtain ⟨rfl, rfl⟩ := List.append_eq_nil_iff.1 hS
    simp only [List.flatMap_cons] at hd ⊢
    obtain ⟨T1, q1, q2⟩ := pkC_sound hh hn k1 ok.1
    obtain ⟨T2, q3, q4⟩ := pkCs_sound hh hn k2 rfl ok.2 (List.nodup_append.1 hd).2.1
    exact ⟨T1 ++ T2, by simpa using CR.cons _ _ _ _ _ _ q1 q3, q2.app hn q4 hd⟩
theorem pk1_sound (hh : HR w own φ h Ss) (hn : Ss.flatten.Nodup) {v : AV} {x : Value} (k : VR w own φ v x []) (ok : ok1 h v) (hd : (id1 v).Nodup) : ∃ S, VR w All nof (pk1 h v) x S ∧ Under Ss (id1 v) S := by
  by_cases ha : ∃ cs, v = .agg cs
  · obtain ⟨cs, rfl⟩ := ha
    cases k with
    | agg _ vs _ hc =>
      obtain ⟨S, q1, q2⟩ := pkCs_sound hh hn hc rfl ok hd
      exact ⟨S, .agg _ _ _ q1, q2⟩
  · have e1 : pk1 h v = pkC h v := by cases v <;> first | rfl | exact (ha ⟨_, rfl⟩).elim
    have e2 : ok1 h v = okC' h v := by cases v <;> first | rfl | exact (ha ⟨_, rfl⟩).elim
    have e3 : id1 v = idC v := by cases v <;> first | rfl | exact (ha ⟨_, rfl⟩).elim
    rw [e2] at ok
    rw [e1, e3]
    exact pkC_sound hh hn k ok
theorem pk1s_sound (hh : HR w own φ h Ss) (hn : Ss.flatten.Nodup) : ∀ {cs : List AV} {xs : List Value} {S : List Nat}, CR w own φ cs xs S → S = [] → ok1s h cs → (cs.flatMap id1).Nodup → ∃ S', CR w All nof (cs.map (pk1 h)) xs S' ∧ Under Ss (cs.flatMap id1) S'
  | [], _, _, k, _, _, _ => by cases k; exact ⟨[], .nil, by simp, by simp⟩
  | c :: cs, _, _, k, hS, ok, hd => by
    obtain ⟨v, us, S1, S2, rfl, rfl, k1, k2⟩ := k.uncons
    obtain ⟨rfl, rfl⟩ := List.append_eq_nil_iff.1 hS
    simp only [List.flatMap_cons] at hd ⊢
    obtain ⟨T1, q1, q2⟩ := pk1_sound hh hn k1 ok.1 (List.nodup_append.1 hd).1
    obtain ⟨T2, q3, q4⟩ := pk1s_sound hh hn k2 rfl ok.2 (List.nodup_append.1 hd).2.1
    exact ⟨T1 ++ T2, by simpa using CR.cons _ _ _ _ _ _ q1 q3, q2.app hn q4 hd⟩
theorem pk_sound (hh : HR w own φ h Ss) (hn : Ss.flatten.Nodup) {v : AV} {x : Value} (k : VR w own φ v x []) (ok : okPk h v) (hd : (idP v).Nodup) : ∃ S, VR w All nof (pk h v) x S ∧ Under Ss (idP v) S := by
  by_cases ha : ∃ cs, v = .tup cs
  · obtain ⟨cs, rfl⟩ := ha
    cases k with
    | tup _ vs _ hc =>
      obtain ⟨S, q1, q2⟩ := pk1s_sound hh hn hc rfl ok hd
      exact ⟨S, .tup _ _ _ q1, q2⟩
  · have e1 : pk h v = pk1 h v := by cases v <;> first | rfl | exact (ha ⟨_, rfl⟩).elim
    have e2 : okPk h v = ok1 h v := by cases v <;> first | rfl | exact (ha ⟨_, rfl⟩).elim
    have e3 : idP v = id1 v := by cases v <;> first | rfl | exact (ha ⟨_, rfl⟩).elim
    rw [e2] at ok
    rw [e3] at hd
    rw [e1, e3]
    exact pk1_sound hh hn k ok hd
end

section
variable {P : Program} {N : Sz} {w0 : World} {B0 : Cx} {φ : Refs} {Ss : List (List Nat)} {st : St} {a : Act} {w : World}

theorem loadVar_sound (hh : HR w (Own Ss) φ st.heap Ss) {t : TypeId} {g : Bool} {n : Nat} (ht : tk P t = some (g, n)) {v : AV} {x : Value} (hv : VR w (Own Ss) φ v x []) (ok : (loadV st.heap g n v).1) :
    ∃ A y, x = .pointer (some A) ∧ (loadVar t A).run P w = .ok y w ∧ VR w (Own Ss) φ (loadV st.heap g n v).2 y [] := by
  obtain ⟨y, h1, h2⟩ := loadV_sound (P := P) hh ht hv ok
  cases hv with
  | ptr id i j r hr => exact ⟨_, y, rfl, by simpa [Instr.loadAt, Instr.sureAddr] using h1, h2⟩
  | fptr es sz A vs i j hlt ho hu hs hc => exact ⟨_, y, rfl, by simpa [Instr.loadAt, Instr.sureAddr] using h1, h2⟩
  | _ => simp [loadV] at ok
def rvF (tmps : Array Value) : ResultVar → Sem Value
  | .tmp t => pure (tmps.getD t Go.undef)
  | .cell c t => do loadVar t (← asAddr (tmps.getD c Go.undef))
theorem results_eq (fn : Func) (tmps : Array Value) : results fn tmps = (do let vs ← fn.results.mapM (rvF tmps); pure (if h : vs.size = 1 then vs[0] else .tuple vs)) := by
  unfold results
  congr 1
theorem resL_sound (h : Rel N w0 B0 φ Ss st a w) : ∀ (l : List ResultVar), (resL P st.heap st.env l).1 →
    ∃ ys, (l.mapM (rvF a.tmps)).run P w = .ok ys w ∧ CR w (Own Ss) φ (resL P st.heap st.env l).2 ys []
  | [], _ => ⟨[], by simp, .nil⟩
  | .tmp t :: l, ok => by
    simp only [resL] at ok ⊢
    obtain ⟨ys, h1, h2⟩ := resL_sound h l ok.2
    refine ⟨a.tmps.getD t Go.undef :: ys, ?_, ?_⟩
    · rw [List.mapM_cons, Sem.run_bind]
      simp only [rvF, Sem.run_pure, Result.andThen_ok, Sem.run_bind, h1]
    · have := CR.cons _ _ _ _ _ _ ((h.env t).strip ok.1) h2
      simpa using this
  | .cell c t :: l, ok => by
    simp only [resL] at ok ⊢
    cases ht : tk P t with
    | none => simp [ht] at ok
    | some gn =>
      obtain ⟨g, n⟩ := gn
      simp only [ht] at ok ⊢
      obtain ⟨ys, h1, h2⟩ := resL_sound h l ok.2
      obtain ⟨A, y, e1, e2, e3⟩ := loadVar_sound (P := P) h.heap ht (h.env c) ok.1
      refine ⟨y :: ys, ?_, ?_⟩
      · rw [List.mapM_cons, Sem.run_bind]
        have h3 : (rvF a.tmps (.cell c t)).run P w = .ok y w := by simp only [rvF, e1, asAddr, Sem.run_bind, Sem.run_pure, Result.andThen_ok, e2]
        simp only [h3, Sem.run_bind, Sem.run_pure, Result.andThen_ok, h1]
      · have := CR.cons _ _ _ _ _ _ e3 h2
        simpa using this
theorem results_sound (h : Rel N w0 B0 φ Ss st a w) {fn : Func} (ok : (resL P st.heap st.env fn.results.toList).1) :
    ∃ y, (results fn a.tmps).run P w = .ok y w ∧ VR w (Own Ss) φ (tupA (resL P st.heap st.env fn.results.toList).2) y [] := by
  obtain ⟨ys, h1, h2⟩ := resL_sound h _ ok
  have hm : (fn.results.mapM (rvF a.tmps)).run P w = .ok ys.toArray w := by
    rw [← Array.toList_mapM] at h1
    have : ∀ {α} (s : Sem (Array α)) (l : List α), ((Array.toList <$> s).run P w = .ok l w) → s.run P w = .ok l.toArray w := by
      intro α s l hs
      simp only [Sem.run_map] at hs
      cases hs' : s.run P w with
      | ok a w' => rw [hs'] at hs; simp at hs; obtain ⟨rfl, rfl⟩ := hs; simp
      | halt x w' => rw [hs'] at hs; simp at hs
    exact this _ _ h1
  refine ⟨if h : ys.toArray.size = 1 then ys.toArray[0] else .tuple ys.toArray, ?_, ?_⟩
  · rw [results_eq, Sem.run_bind, hm]
    simp only [Result.andThen_ok, Sem.run_pure]
  · generalize hl : (resL P st.heap st.env fn.results.toList).2 = l at h2
    match l, ys, h2 with
    | [v], [y], h2 =>
      obtain ⟨y', e, hv⟩ := h2.head
      cases e
      simpa [tupA] using hv
    | [], [], h2 => exact .tup _ _ _ h2
    | v :: v' :: l, y :: y' :: ys, h2 =>
      have := VR.tup _ _ _ h2
      simpa [tupA] using this
    | [v], [], h2 => cases h2
    | [v], y :: y' :: ys, h2 => have := h2.length; simp at this
    | v :: v' :: l, [], h2 => cases h2
    | v :: v' :: l, [y], h2 => have := h2.length; simp at this
end

def envOf : List AV → Nat → Env
  | [], _ => []
  | a :: l, n => (n, a) :: envOf l (n + 1)
theorem envOf_lk : ∀ (l : List AV) (n t : Nat), lk (envOf l n) t = if n ≤ t then l.getD (t - n) .undef else .undef
  | [], n, t => by simp [envOf, lk]
  | a :: l, n, t => by
    simp only [envOf, lk]
    by_cases e : t = n
    · subst e; simp
    · rw [if_neg e, envOf_lk l (n + 1) t]
      by_cases h : n ≤ t
      · rw [if_pos (by omega), if_pos h, show t - n = (t - (n + 1)) + 1 by omega]; simp
      · rw [if_neg (by omega), if_neg h]
def isRet : Exit → Prop
  | .ret | .normal => True
  | _ => False

section
variable {P : Program}
theorem rel_enter {φ : Refs} {Ss : List (List Nat)} {h : Heap} {w : World} (hp : HP φ Ss h w) {args : List AV} {vs : List Value} (hc : CR w (Own Ss) φ args vs []) {n : Nat} (hn : args.length ≤ n) :
    Rel ⟨n, h.length⟩ w ⟨Ss.flatten, φ⟩ φ Ss ⟨envOf args 0, h⟩ { tmps := vs.toArray ++ Array.replicate (n - vs.toArray.size) Go.undef, defers := [] } w := by
  have hl := hc.length
  refine ⟨fun t => ?_, hp.heap, hp.len, hp.fresh, hp.nodup, fun b hb => ⟨hp.bound b hb, .inl hb⟩, .refl _ _, by simp; omega, rfl, hp.fresh, fun _ _ e => e⟩
  rw [envOf_lk, if_pos (Nat.zero_le _), Nat.sub_zero]
  by_cases ht : t < args.length
  · have : args[t]? = some (args.getD t .undef) := by rw [List.getD_eq_getElem?_getD, List.getElem?_eq_getElem ht]; rfl
    obtain ⟨v, S', h1, h2, h3⟩ := hc.get this
    have hS : S' = [] := by cases S' with
      | nil => rfl
      | cons b _ => exact absurd (h3 b (List.mem_cons_self ..)) (by simp)
    subst hS
    have e : (vs.toArray ++ Array.replicate (n - vs.toArray.size) Go.undef).getD t Go.undef = v := by
      rw [Array.getD_eq_getD_getElem?, Array.getElem?_append_left (by simp; omega)]
      simp [h1]
    show VR w (Own Ss) φ (args.getD t .undef) ((vs.toArray ++ Array.replicate (n - vs.toArray.size) Go.undef).getD t Go.undef) []
    rw [e]; exact h2
  · rw [List.getD_eq_getElem?_getD, List.getElem?_eq_none (by omega)]
    exact .undef _

theorem CallS.intro {n : Nat} {f : FuncId} {fn : Func} {c : Code} {args : List AV} {h : Heap} {Q : AV → Heap → Prop} (hf : P.funcs[f]? = some fn) (hn : ¬ fn.name = "runtime.NumGoroutine") (hb : fn.body = some c) {rs : List ResultVar} (hrs : fn.results.toList = rs) (hnt : fn.ntmps = n) (hN : args.length ≤ n)
    (hs : SW P ⟨n, h.length⟩ c (fun e st => isRet e ∧ (resL P st.heap st.env rs).1 ∧ Q (tupA (resL P st.heap st.env rs).2) st.heap) ⟨envOf args 0, h⟩) : CallS P f args h Q := by
  subst hrs
  subst hnt
  refine ⟨⟨fn, hf, hn, by rw [hb]; simp⟩, fun φ Ss w vs hp hc => calls_of_wp hf hb ?_⟩
  refine wp_mono (hs w ⟨Ss.flatten, φ⟩ φ Ss _ w (rel_enter hp hc hN)) fun e a' w' ⟨st, φ', Ss', ⟨h1, h2, h3⟩, hR⟩ => ?_
  obtain ⟨y, hy, hv⟩ := results_sound (P := P) hR h2
  have fin : a'.defers = [] ∧ ∃ v, (results fn a'.tmps).run P w' = .ok v w' ∧ ∃ v' out h' φ' Ss', Ending.returned v = .returned v' ∧ Q out h' ∧ HP φ' Ss' h' w' ∧ VR w' (Own Ss') φ' out v' [] ∧ (∀ id r, φ id = some r → φ' id = some r) ∧ (∀ b, Own Ss' b → Own Ss b ∨ w.heap.size ≤ b) ∧ Fr w Ss.flatten w' :=
    ⟨hR.defers, y, hy, y, _, _, φ', Ss', rfl, h3, hR.hp, hv, hR.keep, fun b hb => (hR.bound b hb).2, hR.fr⟩
  cases e <;> first | exact fin | exact h1.elim

theorem Fn.intro {n : Nat} {f : FuncId} {fn : Func} {c : Code} {args : List AV} {out : AV} (hf : P.funcs[f]? = some fn) (hn : ¬ fn.name = "runtime.NumGoroutine") (hb : fn.body = some c) {rs : List ResultVar} (hrs : fn.results.toList = rs) (hnt : fn.ntmps = n) (hN : args.length ≤ n)
    (hs : SW P ⟨n, 0⟩ c (fun e st => isRet e ∧ (resL P st.heap st.env rs).1 ∧ okPk st.heap (tupA (resL P st.heap st.env rs).2) ∧ (idP (tupA (resL P st.heap st.env rs).2)).Nodup ∧
      pk st.heap (tupA (resL P st.heap st.env rs).2) = out) ⟨envOf args 0, []⟩) : Fn P f args out := by
  have hC := CallS.intro (args := args) (h := []) (Q := fun o h' => okPk h' o ∧ (idP o).Nodup ∧ pk h' o = out) hf hn hb hrs hnt hN (by simpa using hs)
  refine ⟨hC.1, fun w vs hc => ?_⟩
  have hp : HP nof [] [] w := ⟨fun id b hb => by simp at hb, rfl, fun _ _ => rfl, by simp, fun b hb => by simp at hb⟩
  have hc' : CR w (Own []) nof args vs [] := hc.tr (fun b _ ho => ⟨fun hb => by simp [Own] at hb, rfl⟩) (Nat.le_refl _) (fun _ _ e => e) (fun _ _ => rfl)
  refine (hC.2 nof [] w vs hp hc').mono fun e w' ⟨v, o, h', φ', Ss', e1, ⟨q1, q2, q3⟩, e3, e4, _, e6, e7⟩ => ?_
  obtain ⟨S, k1, k2⟩ := pk_sound e3.heap e3.nodup e4 q1 q2
  refine ⟨v, S, e1, by rw [← q3]; exact k1, k2.1, fun b hb => ?_, e7⟩
  obtain ⟨id, _, T, h1, h2⟩ := k2.2 b hb
  have hm : b ∈ Ss'.flatten := List.mem_flatten.2 ⟨T, List.mem_of_getElem? h1, h2⟩
  refine ⟨?_, e3.bound b hm⟩
  rcases e6 b hm with h | h
  · simp [Own] at h
  · exact h
end
end HK
