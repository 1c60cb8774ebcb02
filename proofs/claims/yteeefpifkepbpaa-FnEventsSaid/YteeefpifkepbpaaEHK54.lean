import Derived.Test.YteeefpifkepbpaaEHK53
/-
  My own texts (road H): HK54.
-/
set_option linter.unusedVariables false
set_option linter.unusedSimpArgs false
namespace HK
open Go Go.RowKit
def Keep (own : Nat → Prop) (w w' : World) : Prop := w.heap.size ≤ w'.heap.size ∧ ∀ b, b < w.heap.size → ¬ own b → w'.heap[b]? = w.heap[b]?
def ItK (P : Program) (gf : FuncId) (lb : List Value) (n : Nat) (encs : Nat → Value) (own : Nat → Prop) (w : World) : Prop :=
  ∀ (l m : Nat) (J : Nat → World → Prop) (W : World), Keep own w W → (∀ i A B, J i A → Fr A [] B → J i B) →
    (∀ i W1 m, i < n → J i W1 → Keep own w W1 → YieldAt Fence.wide m P l #[encs i] W1 fun e W' => e = .returned (.bool true) ∧ J (i + 1) W' ∧ Keep own w W') →
    J 0 W → CallsIn Fence.wide m P gf (#[.func (.yield l) #[] #[]] ++ lb.toArray) W fun e W' => (∃ v, e = .returned v) ∧ J n W' ∧ Keep own w W'
def ItC (P : Program) (gf : FuncId) (caps X : List AV) : Prop := Enter P gf ∧ ∀ (w : World) (own : Nat → Prop) (lb : List Value), CR w own nof caps lb [] →
  ∃ encs : Nat → Value, (∀ i x, X[i]? = some x → VR w own nof x (encs i) []) ∧ ItK P gf lb X.length encs own w
theorem WL.refl (w : World) : WL w w := ⟨Nat.le_refl _, fun _ _ _ _ h => h⟩
theorem wl_put {w : World} {l : Nat} {o o' : Obj} (h : w.heap[l]? = some o) (hn : noCells o) : WL w (w.putObj l o') := ⟨by simp, fun b c T z hb => by
  have : b ≠ l := fun e => by subst e; rw [hb] at h; cases h; exact hn
  rw [World.putObj_heap_other this]; exact hb⟩
theorem alloc_old {w : World} {o : Obj} {b : Nat} (h : b < w.heap.size) : (w.alloc o).heap[b]? = w.heap[b]? := by
  show (w.heap.push o)[b]? = _
  rw [Array.getElem?_push, if_neg (by omega)]
theorem wl_alloc (w : World) (o : Obj) : WL w (w.alloc o) := ⟨by simp, fun b c T z hb => by
  rw [alloc_old (Array.getElem?_eq_some_iff.1 hb).1]; exact hb⟩
theorem WL.trans {a b c : World} (h : WL a b) (k : WL b c) : WL a c := ⟨Nat.le_trans h.size k.size, fun i C T z e => k.cells i C T z (h.cells i C T z e)⟩
theorem WL.of_fr {a b : World} (h : Fr a [] b) : WL a b := ⟨h.size, fun i C T z e => by rw [h.block i (Array.getElem?_eq_some_iff.1 e).1 (by simp)]; exact e⟩
section
variable {P : Program} {N N' : Sz} {w0 w w' : World} {B0 : Cx} {φ φ' : Refs} {Ss Ss' : List (List Nat)} {st st' : St} {a a' : Act}
theorem Rel.shift (h : Rel N w0 B0 φ Ss st a w) (hw : WL w w') : Rel ⟨N.n, st.heap.length⟩ w' ⟨Ss.flatten, φ⟩ φ Ss st a w' :=
  ⟨fun t => (h.env t).wl hw, fun id b hid => by
    obtain ⟨S, e1, e2⟩ := h.heap id b hid
    exact ⟨S, e1, e2.wl hw⟩, h.len, h.fresh, h.nodup, fun b hb => ⟨Nat.lt_of_lt_of_le (h.bound b hb).1 hw.size, .inl hb⟩, Fr.refl _ _, h.size, h.defers, fun id hid => h.fresh id hid, fun _ _ e => e⟩
structure RG (w : World) (O : List Nat) (rec : Loop) (Ss : List (List Nat)) (W : World) : Prop where
  lp : W.heap[w.heap.size + 1]? = some (.loop rec)
  df : W.heap[w.heap.size]? = some (.deferred (some []))
  n1 : w.heap.size ∉ Ss.flatten
  n2 : w.heap.size + 1 ∉ Ss.flatten
  sub : ∀ b ∈ Ss.flatten, b ∈ O ∨ w.heap.size ≤ b
theorem RG.lt {w W : World} {O : List Nat} {rec : Loop} (g : RG w O rec Ss W) : w.heap.size + 1 < W.heap.size := (Array.getElem?_eq_some_iff.1 g.lp).1
theorem RG.step {w W W' : World} {O : List Nat} {rec : Loop} {ψ : Refs} (g : RG w O rec Ss W) (hR' : Rel N' W ⟨Ss.flatten, ψ⟩ φ' Ss' st' a' W') : RG w O rec Ss' W' := by
  have hl := g.lt
  refine ⟨(hR'.fr.block _ hl g.n2).trans g.lp, (hR'.fr.block _ (by omega) g.n1).trans g.df, fun hm => ?_, fun hm => ?_, fun b hb => ?_⟩
  · rcases (hR'.bound _ hm).2 with h | h
    · exact g.n1 h
    · omega
  · rcases (hR'.bound _ hm).2 with h | h
    · exact g.n2 h
    · omega
  · rcases (hR'.bound _ hb).2 with h | h
    · exact g.sub b h
    · right; omega
theorem RG.put {w W : World} {O : List Nat} {rec : Loop} (g : RG w O rec Ss W) (rec' : Loop) : RG w O rec' Ss (W.putObj (w.heap.size + 1) (.loop rec')) :=
  ⟨World.putObj_heap_same g.lt, (World.putObj_heap_other (by omega)).trans g.df, g.n1, g.n2, g.sub⟩
def QF (N : Sz) (w0 : World) (B0 : Cx) (Q : Exit → St → Prop) : Exit → Act → World → Prop := fun e a w => QR N w0 B0 Q e a w ∨
  ∃ D st φ Ss, a.defers = [{ target := .collected D, args := #[] }] ∧ Q e st ∧ Rel N w0 B0 φ Ss st ⟨a.tmps, []⟩ w ∧ D ∉ Ss.flatten ∧ w0.heap.size ≤ D ∧ w.heap[D]? = some (.deferred (some []))
def SF (P : Program) (N : Sz) (c : Code) (Q : Exit → St → Prop) (st : St) : Prop := ∀ w0 B0 φ Ss a w, Rel N w0 B0 φ Ss st a w → c.wp P (QF N w0 B0 Q) a w
end
section
variable {P : Program} {N : Sz} {Q : Exit → St → Prop} {st : St}
theorem SF.of {c : Code} (h : SW P N c Q st) : SF P N c Q st := fun w0 B0 φ Ss a w hR => wp_mono (h w0 B0 φ Ss a w hR) fun _ _ _ h => .inl h
theorem SF.wk {c : Code} {st' : St} (h : Wk N st st') (k : SF P N c Q st') : SF P N c Q st := fun w0 B0 φ Ss a w hR =>
  let ⟨φ', Ss', hR'⟩ := h w0 B0 φ Ss a w hR
  k w0 B0 φ' Ss' a w hR'
theorem SF.seq {x y : Code} (h : SW P N x (Ex.then (SF P N y Q) Q) st) : SF P N (.seq x y) Q st := fun w0 B0 φ Ss a w hR =>
  wp_seq (wp_mono (h w0 B0 φ Ss a w hR) fun e a' w' ⟨s, φ', Ss', h1, h2⟩ => by
    cases e <;> first | exact h1 w0 B0 φ' Ss' a' w' h2 | exact .inl ⟨s, φ', Ss', h1, h2⟩)
theorem SF.seqK {x y : Code} (h : ∀ K : St → Prop, (∀ st, SF P N y Q st → K st) → SW P N x (Ex.then K Q) st) : SF P N (.seq x y) Q st := SF.seq (h _ fun _ h => h)
theorem SF.regionK {id : Nat} {l : List Oper} {y : Code} (h : ∀ K : St → Prop, (∀ st, SF P N y Q st → K st) → runA P N (l.map (·.dst)) l st K) : SF P N (.seq (.region id l.toArray false) y) Q st :=
  SF.seq (SW.region (Q := Ex.then (SF P N y Q) Q) (h _ fun _ h => h))
def SB (P : Program) (N : Sz) (c y : Code) (Q : Exit → St → Prop) (st : St) : Prop := ∀ w0 B0 φ Ss a w, Rel N w0 B0 φ Ss st a w → c.wp P (Exit.then (y.wp P (QF N w0 B0 Q)) (QF N w0 B0 Q)) a w
theorem SF.seqB {x y : Code} (h : SB P N x y Q st) : SF P N (.seq x y) Q st := fun w0 B0 φ Ss a w hR => wp_seq (h w0 B0 φ Ss a w hR)
theorem SB.seq {x b y : Code} (h : SW P N x (Ex.then (SB P N b y Q) (fun _ _ => False)) st) : SB P N (.seq x b) y Q st := fun w0 B0 φ Ss a w hR =>
  wp_seq (wp_mono (h w0 B0 φ Ss a w hR) fun e a' w' ⟨s, φ', Ss', h1, h2⟩ => by
    cases e <;> first | exact h1 w0 B0 φ' Ss' a' w' h2 | exact h1.elim)
theorem SB.regionK {id : Nat} {l : List Oper} {b y : Code} (h : ∀ K : St → Prop, (∀ st, SB P N b y Q st → K st) → runA P N (l.map (·.dst)) l st K) : SB P N (.seq (.region id l.toArray false) b) y Q st :=
  SB.seq (SW.region (Q := Ex.then (SB P N b y Q) (fun _ _ => False)) (h _ fun _ h => h))
theorem SB.wk {c y : Code} {st' : St} (h : Wk N st st') (k : SB P N c y Q st') : SB P N c y Q st := fun w0 B0 φ Ss a w hR =>
  let ⟨φ', Ss', hR'⟩ := h w0 B0 φ Ss a w hR
  k w0 B0 φ' Ss' a w hR'
theorem SB.rangeK {id : Nat} {p : Tmp} {g : Operand} {assign body y : Code} (gf : FuncId) (caps X : List AV) (hg : st1 (ev st.env g) = .fn (.func gf) [] caps) (hgk : gk (ev st.env g)) (hlow : caps.all (lowN 6 0) = true) (hit : ItC P gf caps X)
    (H : Nat → Heap) (hp : p < N.n) (h0 : Wk N st ⟨st.env, H 0⟩)
    (hb : ∀ i x l, X[i]? = some x → SI P ⟨N.n, (H i).length⟩ (some l) [] assign (fun e s => e = .normal ∧ SI P ⟨N.n, s.heap.length⟩ (some l) [] body (fun e s2 => e = .normal ∧ Wk N ⟨st.env, s2.heap⟩ ⟨st.env, H (i + 1)⟩) s) ⟨(p, x) :: st.env, H i⟩)
    (hd : ∀ mk, SI P N none [mk] y Q ⟨st.env, H X.length⟩) :
    SB P N (.block id (.rangeFunc g #[p] assign body)) y Q st := by
  intro w0 B0 φ Ss a w hR; refine (wpIn_wide (n := 0)).1 (wpIn_block (wpIn_rangeFunc ?_)); obtain ⟨t, ds⟩ := a; have hds : ds = [] := hR.defers
  subst hds; intro fn _; have hv := (act_eval hR g).strip hgk
  rw [hg] at hv
  generalize hx : (⟨t, []⟩ : Act).eval g = v at hv
  cases hv with
  | fn _ _ _ fs cs k1 k2 =>
  cases k1
  have kc : CR w (Own Ss) nof caps cs [] := cr_low (fun v x S k h => VR.low (n := 0) 6 (fun id hid => absurd hid (by omega)) k h) k2 hlow
  obtain ⟨encs, henc, hK⟩ := hit.2 w (Own Ss) cs kc
  obtain ⟨rec, hrec⟩ : ∃ rec : LoopState → Option Code → Loop, rec = fun st pe => { state := st, pending := pe, fn, tmps := t, params := #[p], assign, body, defers := w.heap.size } := ⟨_, rfl⟩
  have eP : (rec .ready none).params = #[p] := by rw [hrec]
  have eT : (rec .ready none).tmps = t := by rw [hrec]
  have eA : (rec .ready none).assign = assign := by rw [hrec]
  have eB : (rec .ready none).body = body := by rw [hrec]
  have eF : (rec .ready none).fn = fn := by rw [hrec]
  have eN : (rec .ready none).pending = none := by rw [hrec]
  obtain ⟨W1, hW1⟩ : ∃ W1, (w.alloc (.deferred (some []))).alloc (.loop (rec .ready none)) = W1 := ⟨_, rfl⟩
  have hsz1 : W1.heap.size = w.heap.size + 2 := by rw [← hW1]; simp
  have hold : ∀ b, b < w.heap.size → W1.heap[b]? = w.heap[b]? := fun b hb => by
    rw [← hW1, alloc_old (by simp; omega), alloc_old hb]
  have hwl1 : WL w W1 := by rw [← hW1]; exact (wl_alloc _ _).trans (wl_alloc _ _)
  have hL1 : W1.heap[w.heap.size + 1]? = some (.loop (rec .ready none)) := by
    rw [← hW1]; have := World.alloc_heap_new (w.alloc (.deferred (some []))) (.loop (rec .ready none)); rwa [World.size_alloc] at this
  have hK1 : W1.heap[w.heap.size]? = some (.deferred (some [])) := by
    rw [← hW1, alloc_old (by simp)]; exact World.alloc_heap_new w _
  have hos : W1.os = w.os ∧ W1.tape = w.tape ∧ W1.output = w.output := by rw [← hW1]; exact ⟨rfl, rfl, rfl⟩
  have hw0 := hR.fr.size
  have hR1 : Rel N w0 B0 φ Ss st ⟨t, []⟩ W1 := hR.wl hwl1 hos.1 hos.2.1 hos.2.2 fun b h1 _ => hold b (by omega)
  have g1 : RG w Ss.flatten (rec .ready none) Ss W1 := ⟨hL1, hK1, fun h => by have := (hR.bound _ h).1; omega, fun h => by have := (hR.bound _ h).1; omega, fun b h => .inl h⟩
  refine ⟨w.heap.size + 1, [{ target := .collected w.heap.size, args := #[] }], W1, { target := .fn (.func gf) cs.toArray, args := #[.func (.yield (w.heap.size + 1)) #[] #[]] }, W1, gf,
    #[.func (.yield (w.heap.size + 1)) #[] #[]] ++ cs.toArray, W1, ?_, ?_, ?_, ?_, fun h => (by cases h), ?_⟩
  · rw [← hW1, hrec]; exact run_enterLoop_outer _ _ _ _ _
  · simp only [resolve, hx]
    simp [go_sem]
  · intro f' _; trivial
  · simp only [invoke]
    exact callFunc_run hit.1 _
  · refine (hK (w.heap.size + 1) (0 - 1) (fun i W => ∃ φ' Ss', Rel N w0 B0 φ' Ss' ⟨st.env, H i⟩ ⟨t, []⟩ W ∧ RG w Ss.flatten (rec .ready none) Ss' W) W1 ⟨by omega, fun b h1 _ => hold b h1⟩ ?_ ?_ ?_).mono ?_
    · rintro i A B ⟨φ', Ss', hA, gA⟩ hfr
      refine ⟨φ', Ss', hA.wl (.of_fr hfr) hfr.os hfr.tape hfr.output fun b h1 _ => hfr.block b (by have := hA.fr.size; omega) (by simp), ?_⟩; have := gA.lt
      exact ⟨(hfr.block _ this (by simp)).trans gA.lp, (hfr.block _ (by omega) (by simp)).trans gA.df, gA.n1, gA.n2, gA.sub⟩
    · rintro i V m hi ⟨φ', Ss', hA, gA⟩ hkV
      obtain ⟨x, hxi⟩ : ∃ x, X[i]? = some x := ⟨_, List.getElem?_eq_getElem hi⟩
      have hy := run_yield (P := P) (args := #[encs i]) gA.lp (by rw [eP]; rfl)
      rw [eP, eT, eA, eB, eF, show ((#[p] : Array Tmp).zip #[encs i]).foldl (fun tmps (t, a) => tmps.setIfInBounds t a) t = t.setIfInBounds p (encs i) from by simp] at hy; refine ⟨fn, _, assign, body, hy, roundIn_of_wpIn trivial ?_⟩
      have hvx : VR V (Own Ss') φ' x (encs i) [] := (henc i x hxi).tr (fun b hb ho => ⟨fun h => by
        rcases gA.sub b h with h | h
        · exact ho h
        · omega, hkV.2 b hb ho⟩) hkV.1 (fun _ _ e => by cases e) (fun b hb => by cases hb)
      have hB := hA.put (d := some p) (by simpa [dOk] using hp) hvx
      refine wpIn_mono (hb i x (w.heap.size + 1) hxi m V ⟨Ss'.flatten, φ'⟩ φ' Ss' _ V (hB.shift (.refl V))) ?_
      rintro e ⟨t2, ds2⟩ V2 ⟨hd2, s, φ2, Ss2, ⟨rfl, hbody⟩, hR2⟩
      have hd2' : ds2 = [] := hd2
      subst hd2'; have g2 := gA.step hR2
      refine ⟨_, run_beginRound g2.lp (by rw [hrec]), ?_⟩; have g2' := g2.put { rec .ready none with state := .busy }
      have hwl2 : WL V2 (V2.putObj (w.heap.size + 1) (.loop { rec .ready none with state := .busy })) := wl_put g2.lp trivial
      refine wpIn_mono (hbody m _ ⟨Ss2.flatten, φ2⟩ φ2 Ss2 t2 _ (hR2.shift hwl2)) ?_
      rintro e ⟨t3, ds3⟩ V3 ⟨hd3, s3, φ3, Ss3, ⟨rfl, hwk⟩, hR3⟩
      have g3 := g2'.step hR3
      have hend := run_endRound (P := P) none g3.lp
      refine ⟨_, _, hend, rfl, ?_⟩; have e4 : ({ ({ rec .ready none with state := .busy } : Loop) with state := if (none : Option Code).isNone then .ready else .done, pending := none } : Loop) = rec .ready none := by rw [hrec]; rfl
      rw [e4]; have g4 := g3.put (rec .ready none)
      have hwl4 : WL V3 (V3.putObj (w.heap.size + 1) (.loop (rec .ready none))) := wl_put g3.lp trivial
      have hlV := gA.lt
      have hfr : Fr V Ss'.flatten (V3.putObj (w.heap.size + 1) (.loop (rec .ready none))) := by
        refine ⟨(hR3.fr.os.trans hR2.fr.os :), (hR3.fr.tape.trans hR2.fr.tape :), (hR3.fr.output.trans hR2.fr.output :), ?_, fun b h1 h2 => ?_⟩
        · have q1 := hR2.fr.size; have q2 := hR3.fr.size
          simp at q2 ⊢; omega
        · by_cases e : b = w.heap.size + 1
          · subst e; rw [g4.lp, gA.lp]
          · rw [World.putObj_heap_other e]
            have q1 := hR2.fr.size
            rw [hR3.fr.block b (by simp; omega) (fun h => by
              rcases (hR2.bound b h).2 with h | h
              · exact h2 h
              · omega), World.putObj_heap_other e]
            exact hR2.fr.block b h1 h2
      have hown : ∀ b, Own Ss3 b → Own Ss' b ∨ V.heap.size ≤ b := fun b h => by
        have q1 := hR2.fr.size
        rcases (hR3.bound b h).2 with h | h
        · exact (hR2.bound b h).2
        · right; simp at h; omega
      have hR4 := hA.call (hR3.shift hwl4).hp (fun id r e => hR3.keep id r (hR2.keep id r e)) hown hfr
      obtain ⟨φ5, Ss5, hR5⟩ := hwk _ ⟨Ss3.flatten, B0.φ⟩ φ3 Ss3 _ _ hR4.rebase; refine ⟨⟨φ5, Ss5, hR4.unbase hR5, g4.step hR5⟩, Nat.le_trans hkV.1 hfr.size, fun b h1 h2 => ?_⟩
      rw [hfr.block b (by omega) (fun h => by
        rcases gA.sub b h with h | h
        · exact h2 h
        · omega)]
      exact hkV.2 b h1 h2
    · obtain ⟨φ5, Ss5, hR5⟩ := h0 _ ⟨Ss.flatten, B0.φ⟩ φ Ss _ _ hR1.rebase
      exact ⟨φ5, Ss5, hR1.unbase hR5, g1.step hR5⟩
    · rintro e W2 ⟨⟨v, rfl⟩, ⟨φ2, Ss2, hR2, g2⟩, _⟩
      have hend := run_endLoop (P := P) g2.lp (by rw [hrec]; simp)
      refine ⟨none, W2.putObj (w.heap.size + 1) (.loop { rec .ready none with state := .exhausted }), hend.trans (congrArg (fun q => Result.ok q _) eN), ?_⟩; have g3 := g2.put { rec .ready none with state := .exhausted }
      have hwl3 : WL W2 (W2.putObj (w.heap.size + 1) (.loop { rec .ready none with state := .exhausted })) := wl_put g2.lp trivial
      have hR3 : Rel N w0 B0 φ2 Ss2 ⟨st.env, H X.length⟩ ⟨t, []⟩ (W2.putObj (w.heap.size + 1) (.loop { rec .ready none with state := .exhausted })) :=
        hR2.wl hwl3 rfl rfl rfl fun b h1 _ => World.putObj_heap_other (by omega)
      refine wp_mono ((wpIn_wide (n := 0)).1 (show Code.wpIn Fence.wide 0 P y _ _ _ from hd _ 0 _ ⟨Ss2.flatten, B0.φ⟩ φ2 Ss2 t _ hR3.rebase)) ?_
      rintro e ⟨t5, ds5⟩ W5 ⟨hd5, s5, φ5, Ss5, hq5, hR5⟩
      have g5 := g3.step hR5
      exact .inr ⟨w.heap.size, s5, φ5, Ss5, hd5, hq5, hR3.unbase hR5, g5.n1, hw0, g5.df⟩
end
section
variable {P : Program}
theorem CallS.introF {n : Nat} {f : FuncId} {fn : Func} {c : Code} {args : List AV} {h : Heap} {Q : AV → Heap → Prop} (hf : P.funcs[f]? = some fn) (hn : ¬ fn.name = "runtime.NumGoroutine") (hb : fn.body = some c) {rs : List ResultVar} (hrs : fn.results.toList = rs) (hnt : fn.ntmps = n) (hN : args.length ≤ n)
    (hs : SF P ⟨n, h.length⟩ c (fun e st => isRet e ∧ (resL P st.heap st.env rs).1 ∧ Q (tupA (resL P st.heap st.env rs).2) st.heap) ⟨envOf args 0, h⟩) : CallS P f args h Q := by
  subst hrs; subst hnt; refine ⟨⟨fn, hf, hn, by rw [hb]; simp⟩, fun φ Ss w vs hp hc => (callsIn_wide (n := 0)).1 (callsIn_of_wp_marks hf hb trivial ((wpIn_wide (n := 0)).2 ?_))⟩
  refine wp_mono (hs w ⟨Ss.flatten, φ⟩ φ Ss _ w (rel_enter hp hc hN)) fun e a' w' hq => ?_; rcases hq with ⟨st, φ', Ss', ⟨h1, h2, h3⟩, hR⟩ | ⟨D, st, φ', Ss', hd, ⟨h1, h2, h3⟩, hR, n1, n2, hD⟩
  · obtain ⟨y, hy, hv⟩ := results_sound (P := P) hR h2
    have fin : LeavesInM Fence.wide 0 P fn a'.tmps (fun e w' => ∃ v' out h' φ' Ss', e = .returned v' ∧ Q out h' ∧ HP φ' Ss' h' w' ∧ VR w' (Own Ss') φ' out v' [] ∧ (∀ id r, φ id = some r → φ' id = some r) ∧ (∀ b, Own Ss' b → Own Ss b ∨ w.heap.size ≤ b) ∧ Fr w Ss.flatten w') a'.defers .returning w' := by
      rw [hR.defers]; exact ⟨y, hy, y, _, _, φ', Ss', rfl, h3, hR.hp, hv, hR.keep, fun b hb => (hR.bound b hb).2, hR.fr⟩
    cases e <;> first | exact fin | exact h1.elim
  · have hR' : Rel ⟨fn.ntmps, h.length⟩ w ⟨Ss.flatten, φ⟩ φ' Ss' st ⟨a'.tmps, []⟩ (w'.putObj D (.deferred none)) :=
      hR.wl (wl_put hD trivial) rfl rfl rfl fun b h1 _ => World.putObj_heap_other (by omega)
    obtain ⟨y, hy, hv⟩ := results_sound (P := P) hR' h2
    have fin : LeavesInM Fence.wide 0 P fn a'.tmps (fun e w' => ∃ v' out h' φ' Ss', e = .returned v' ∧ Q out h' ∧ HP φ' Ss' h' w' ∧ VR w' (Own Ss') φ' out v' [] ∧ (∀ id r, φ id = some r → φ' id = some r) ∧ (∀ b, Own Ss' b → Own Ss b ∨ w.heap.size ≤ b) ∧ Fr w Ss.flatten w') a'.defers .returning w' := by
      rw [hd]; exact ⟨by simp, .inl ⟨_, _, rfl, run_takeDeferred hD, y, hy, y, _, _, φ', Ss', rfl, h3, hR'.hp, hv, hR'.keep, fun b hb => (hR'.bound b hb).2, hR'.fr⟩⟩
    cases e <;> first | exact fin | exact h1.elim
theorem Fn.introF {n : Nat} {f : FuncId} {fn : Func} {c : Code} {args : List AV} {out : AV} (hf : P.funcs[f]? = some fn) (hn : ¬ fn.name = "runtime.NumGoroutine") (hb : fn.body = some c) {rs : List ResultVar} (hrs : fn.results.toList = rs) (hnt : fn.ntmps = n) (hN : args.length ≤ n)
    (hs : SF P ⟨n, 0⟩ c (fun e st => isRet e ∧ (resL P st.heap st.env rs).1 ∧ okPk st.heap (tupA (resL P st.heap st.env rs).2) ∧ (idP (tupA (resL P st.heap st.env rs).2)).Nodup ∧
      pk st.heap (tupA (resL P st.heap st.env rs).2) = out) ⟨envOf args 0, []⟩) : Fn P f args out := by
  have hC := CallS.introF (args := args) (h := []) (Q := fun o h' => okPk h' o ∧ (idP o).Nodup ∧ pk h' o = out) hf hn hb hrs hnt hN (by simpa using hs)
  refine ⟨hC.1, fun w vs hc => ?_⟩; have hp : HP nof [] [] w := ⟨fun id b hb => by simp at hb, rfl, fun _ _ => rfl, by simp, fun b hb => by simp at hb⟩
  have hc' : CR w (Own []) nof args vs [] := hc.tr (fun b _ ho => ⟨fun hb => by simp [Own] at hb, rfl⟩) (Nat.le_refl _) (fun _ _ e => e) (fun _ _ => rfl)
  refine (hC.2 nof [] w vs hp hc').mono fun e w' ⟨v, o, h', φ', Ss', e1, ⟨q1, q2, q3⟩, e3, e4, _, e6, e7⟩ => ?_; obtain ⟨S, k1, k2⟩ := pk_sound e3.heap e3.nodup e4 q1 q2; refine ⟨v, S, e1, by rw [← q3]; exact k1, k2.1, fun b hb => ?_, e7⟩
  obtain ⟨id, _, T, h1, h2⟩ := k2.2 b hb; have hm : b ∈ Ss'.flatten := List.mem_flatten.2 ⟨T, List.mem_of_getElem? h1, h2⟩
  refine ⟨?_, e3.bound b hm⟩; rcases e6 b hm with h | h
  · simp [Own] at h
  · exact h
end
end HK
