import Derived.Test.YteeefpifkepbpaaEHSZ
/-
  My own texts (road H): HSZA.
-/
set_option linter.unusedSimpArgs false
set_option linter.unusedVariables false
namespace HS
open Go Go.Proofs HK
theorem lk1 {k t : Nat} {v : AV} {e : Env} : lk ((k, v) :: e) t = if t = k then v else lk e t := rfl
set_option maxHeartbeats 4000000 in
theorem chunk_it (es : List (List AV)) (he : ∀ e ∈ es, e.length = 4) (hl : es.length ≤ 2 ^ 30) : ItC Try.prog 93 [.fptr [[.fz es]] 0 0, .fptr [[.int .i64 4]] 0 0] (chk es) := by
  have hent : ∃ fn c, Try.prog.funcs[93]? = some fn ∧ ¬ fn.name = "runtime.NumGoroutine" ∧ fn.body = some c := ⟨_, _, Try.func93, by decide, rfl⟩
  obtain ⟨fn0, c0, q1, q2, q3⟩ := hent; refine ⟨⟨fn0, q1, q2, by rw [q3]; simp⟩, fun w own lb hc => ?_⟩; clear q1 q2 q3; obtain ⟨p0, us, S1, S2, rfl, e0, c1, c2⟩ := hc.uncons; obtain ⟨p1, us', S3, S4, rfl, e3, c3, c4⟩ := c2.uncons; cases c4
  obtain ⟨rfl, B0, v, rfl, hcon, hv⟩ := box_inv c1; obtain ⟨rfl, B1, v1, rfl, -, -⟩ := box_inv c3; refine ⟨cval v, fun i x hx => ?_, ?_⟩
  · obtain ⟨h1, rfl⟩ := chk_get hx
    exact cval_ok he hv i h1
  · intro l m J W hkW hJf hround hJ0
    rw [chk_len] at hround ⊢; refine callsIn_of_wp Try.func93 rfl trivial ?_
    obtain ⟨HD, hHD⟩ : ∃ HD : Nat → Act → World → Prop, HD = fun i a W => a.defers = [] ∧ a.tmps.size = 31 ∧ a.tmps.getD 0 Go.undef = .func (.yield l) #[] #[] ∧ a.tmps.getD 1 Go.undef = .pointer (some B0) ∧ a.tmps.getD 2 Go.undef = .pointer (some B1) ∧
        a.tmps.getD 4 Go.undef = .int .i64 (4 * (i : Int)) ∧ J i W ∧ Keep own w W ∧ i ≤ rnd es := ⟨_, rfl⟩
    have hE : ∀ {i : Nat} {a : Act} {W : World}, a.tmps.getD 1 Go.undef = .pointer (some B0) → a.tmps.getD 2 Go.undef = .pointer (some B1) → a.tmps.getD 4 Go.undef = .int .i64 (4 * (i : Int)) → Keep own w W → ∀ t, VR W (Own []) nof (lk [(1, .fptr [[.fz es]] 0 0), (2, .fptr [[.int .i64 4]] 0 0), (4, .int .i64 (4 * (i : Int)))] t) (a.tmps.getD t Go.undef) [] := by
      intro i a W h1 h2 h4 hk t; simp only [lk1]; split
      · rename_i e; subst e; rw [h1]; exact hk.vr c1
      · split
        · rename_i e; subst e; rw [h2]; exact hk.vr c3
        · split
          · rename_i e; subst e; rw [h4]; exact .int _ _
          · exact .undef _
    obtain ⟨tm, htm⟩ : ∃ tm, #[Value.func (.yield l) #[] #[]] ++ #[Value.pointer (some B0), Value.pointer (some B1)] ++ Array.replicate (Try.f93.ntmps - (#[Value.func (.yield l) #[] #[]] ++ #[Value.pointer (some B0), Value.pointer (some B1)]).size) Go.undef = tm := ⟨_, rfl⟩
    have hnt : Try.f93.ntmps = 31 := Try.ntmps93
    have i0 : tm.getD 0 Go.undef = .func (.yield l) #[] #[] := by rw [← htm]; simp [Array.getD_eq_getD_getElem?, Array.getElem?_append]
    have i1 : tm.getD 1 Go.undef = .pointer (some B0) := by rw [← htm]; simp [Array.getD_eq_getD_getElem?, Array.getElem?_append]
    have i2 : tm.getD 2 Go.undef = .pointer (some B1) := by rw [← htm]; simp [Array.getD_eq_getD_getElem?, Array.getElem?_append]
    have is : tm.size = 31 := by rw [← htm]; simp [hnt]
    show Code.wpIn Fence.wide m Try.prog _ _ ⟨#[Value.func (.yield l) #[] #[]] ++ #[Value.pointer (some B0), Value.pointer (some B1)] ++ Array.replicate (Try.f93.ntmps - (#[Value.func (.yield l) #[] #[]] ++ #[Value.pointer (some B0), Value.pointer (some B1)]).size) Go.undef, []⟩ W
    rw [htm]; clear htm
    refine wpIn_seq (wpIn_mono ((wpIn_wide (n := m)).2 (region_x (nt := 31) (env := [(1, .fptr [[.fz es]] 0 0), (2, .fptr [[.int .i64 4]] 0 0)]) (K := fun s => lk s.env 4 = .int .i64 0) (fun t => ?_) is rfl [0, 1, 2] (by simp) (by simp))) ?_)
    · show VR W (Own []) nof (lk _ t) (tm.getD t Go.undef) []
      simp only [lk1]; split
      · rename_i e; subst e; rw [i1]; exact hkW.vr c1
      · split
        · rename_i e; subst e; rw [i2]; exact hkW.vr c3
        · exact .undef _
    rintro e a1 W1 hq
    obtain ⟨rfl, d1, s1, k1, f1, s, hK, li, lb⟩ := after_x hq
    have hd0 : HD 0 a1 W1 := by
      rw [hHD]; exact ⟨d1, s1, (k1 0 (by simp)).trans i0, (k1 1 (by simp)).trans i1, (k1 2 (by simp)).trans i2, by simpa using li 4 _ _ hK, hJf 0 W W1 hJ0 f1, hkW.fr f1, Nat.zero_le _⟩
    show Code.wpIn Fence.wide m Try.prog _ _ a1 W1
    clear hq d1 s1 k1 f1 hK li lb; refine wpIn_block (wpIn_loop (fun a W => ∃ i, HD i a W) (fun a _ => match a.tmps.getD 4 Go.undef with | .int _ k => (4 * (rnd es : Int) - k).toNat | _ => 0) ⟨0, hd0⟩ ?_); clear hd0
    rintro a W ⟨i, h⟩
    rw [hHD] at h; obtain ⟨df, sz, t0, t1, t2, t4, hJ, hk, hi⟩ := h; have hE' := hE t1 t2 t4 hk
    refine wpIn_seq (wpIn_seq (wpIn_mono ((wpIn_wide (n := m)).2 (region_x (nt := 31) (K := fun s => lk s.env 9 = .bool (decide (4 * (i : Int) < es.length))) hE' sz df [0, 1, 2, 4] ?_ ?_)) ?_))
    · simp
    · simp
    rintro e a1 W1 hq
    obtain ⟨rfl, d1, s1, k1, f1, s, hK, li, lb⟩ := after_x hq
    have hd1 : HD i a1 W1 := by
      rw [hHD]; exact ⟨d1, s1, (k1 0 (by simp)).trans t0, (k1 1 (by simp)).trans t1, (k1 2 (by simp)).trans t2, (k1 4 (by simp)).trans t4, hJf i W W1 hJ f1, hk.fr f1, hi⟩
    have hb9 := lb 9 _ hK
    show Code.wpIn Fence.wide m Try.prog _ _ a1 W1
    have hmu : (match a.tmps.getD 4 Go.undef with | .int _ k => (4 * (rnd es : Int) - k).toNat | _ => 0) = 4 * rnd es - 4 * i := by rw [t4]; simp only []; omega
    clear hq k1 f1 hK li lb hE' t0 t1 t2 t4 hJ hk df sz; refine wpIn_cond_split (t := decide (4 * (i : Int) < es.length)) hb9 (fun hlt => ?_) (fun hge => ?_)
    · have hlt : 4 * i < es.length := by simp at hlt; omega
      have hir : i < rnd es := by unfold rnd; omega
      refine wpIn_skip ?_
      show Code.wpIn Fence.wide m Try.prog _ _ a1 W1
      rw [hHD] at hd1; obtain ⟨df, sz, t0, t1, t2, t4, hJ, hk, hi⟩ := hd1; have hE' := hE t1 t2 t4 hk
      refine wpIn_seq (wpIn_block (wpIn_seq (wpIn_mono ((wpIn_wide (n := m)).2 (draw_x (nt := 31) (K := fun s => ∃ c : Int, lk s.env 5 = .int .i64 c ∧ c = ((min 4 (es.length - 4 * i) : Nat) : Int)) mixed [.q [(0, false), (1, false), (2, false), (3, false), (4, false), (5, false), (6, false)]] (by kernel_rfl) rfl hE' sz df [0, 1, 2, 4] ?_ ?_)) ?_)))
      · simp
      · simp -implicitDefEqProofs
        have e4 : (4 * (i : Int)).toNat = 4 * i := by omega
        have e5 : ((es.length : Int) - 4 * (i : Int)).toNat = es.length - 4 * i := by omega
        rw [e4, e5, Nat.min_self]; refine ⟨⟨by omega, by omega, fun _ => ?_⟩, ?_⟩
        · rw [List.getElem?_eq_getElem hlt]; exact he _ (List.getElem_mem _)
        · rw [Nat.min_def]; split <;> split <;> omega
      · rintro e a2 W2 hq
        obtain ⟨rfl, d2, s2, k2, f2, s, ⟨c, hK, hc5⟩, li, lb⟩ := after_x hq; have t5 := li 5 _ _ hK
        have t0 := (k2 0 (by simp)).trans t0
        have t1 := (k2 1 (by simp)).trans t1
        have t2 := (k2 2 (by simp)).trans t2
        have t4 := (k2 4 (by simp)).trans t4
        have hJ2 := hJf i W1 W2 hJ f2
        have hk2 := hk.fr f2
        obtain ⟨tm2, ds2⟩ := a2; have hds : ds2 = [] := d2
        subst hds; simp only [] at s2 t0 t1 t2 t4 t5; clear hq hE' k2 f2 hK li lb hJ hk
        show Code.wpIn Fence.wide m Try.prog (Code.seq _ _) _ ⟨tm2, []⟩ W2
        have hE4 : ∀ t, VR W2 (Own []) nof (lk [(0, .con (.func (.yield l) #[] #[])), (1, .fptr [[.con v]] 0 0), (4, .int .i64 (4 * (i : Int))), (5, .int .i64 c)] t) (tm2.getD t Go.undef) [] := by
          intro t; simp only [lk1]; split
          · rename_i e; subst e; rw [t0]; exact .con _
          · split
            · rename_i e; subst e; rw [t1]; exact hk2.vr hcon
            · split
              · rename_i e; subst e; rw [t4]; exact .int _ _
              · split
                · rename_i e; subst e; rw [t5]; exact .int _ _
                · exact .undef _
        have hcw := wrapI (4 * (i : Int) + c) (by omega) (by omega)
        refine wpIn_seq (wpIn_mono (Q := QK [0, 1, 2, 4] (fun d => tm2.getD d Go.undef) (fun e a' W' => e = .normal ∧ a'.tmps.getD 30 Go.undef = .bool false ∧ a'.defers = [] ∧ a'.tmps.size = 31 ∧ J (i + 1) W' ∧ Keep own w W')) (show Code.wpIn (FW none) m Try.prog _ _ _ _ from
          wpIn_region_lit (wpListIn_keep _ ?_ (fun _ _ => rfl) (runI_split 9 (N := ⟨31, 0⟩) (K := fun s => lk s.env 19 = .con (.func (.yield l) #[] #[]) ∧ lk s.env 20 = .con v ∧ lk s.env 21 = .int .i64 (4 * (i : Int)) ∧ lk s.env 24 = .int .i64 (4 * (i : Int) + c) ∧ lk s.env 27 = .int .i64 (4 * (i : Int) + c)) (rel0 hE4 s2 rfl) ?_ ?_))) ?_)
        · simp
        · simp -implicitDefEqProofs [hcw]
        · rintro s φ Ss t W3 ⟨e19, e20, e21, e24, e27⟩ hR
          have x19 := hR.env 19
          have x20 := hR.env 20
          have x21 := hR.env 21
          have x24 := hR.env 24
          have x27 := hR.env 27
          rw [e19] at x19; rw [e20] at x20; rw [e21] at x21; rw [e24] at x24; rw [e27] at x27; have x19 := con_inv x19
          have x20 := con_inv x20
          have x21 := int_inv x21
          have x24 := int_inv x24
          have x27 := int_inv x27
          simp only [] at x19 x20 x21 x24 x27; have hsz : t.size = 31 := hR.size
          have hJ3 := hJf i W2 W3 hJ2 hR.fr
          have hk3 := hk2.fr hR.fr
          clear hR e19 e20 e21 e24 e27
          have hvs : ∃ A cap, v = .slice (some A) es.length cap ∧ es.length ≤ cap := by
            cases hv with
            | fz0 _ _ => simp at hlt
            | fz _ _ A cap _ _ _ _ hcap _ _ => exact ⟨A, cap, rfl, hcap⟩
          obtain ⟨A, cap, rfl, hcap⟩ := hvs; have hci : 4 * (i : Int) + c = ((4 * i + min 4 (es.length - 4 * i) : Nat) : Int) := by rw [hc5]; push_cast; rfl
          have hlo : 4 * (i : Int) = ((4 * i : Nat) : Int) := by push_cast; rfl
          rw [hci] at x24 x27; rw [hlo] at x21; have hmin : min 4 (es.length - 4 * i) ≤ es.length - 4 * i := Nat.min_le_right _ _
          have hmin2 : 1 ≤ min 4 (es.length - 4 * i) := by rw [Nat.min_def]; split <;> omega
          refine stepX (y := cval (.slice (some A) es.length cap) i) rfl (fun c h => by cases h) ?_ ?_
          · have hrun := slice3_run A es.length cap (4 * i) (4 * i + min 4 (es.length - 4 * i)) W3 (by omega) (by omega)
            have e1 : 4 * i + min 4 (es.length - 4 * i) - 4 * i = min 4 (es.length - 4 * i) := by omega
            rw [e1] at hrun; simp only [execOp, Option.map_some, Act.eval, x20, x21, x24, x27, Sem.run_bind, hrun, Result.andThen_ok, Sem.run_pure]; rfl
          refine stepY (l := l) (f := .tmp 19) (x := .tmp 28) rfl rfl ?_ (R := fun e W' => e = .returned (.bool true) ∧ J (i + 1) W' ∧ Keep own w W') ?_ ?_
          · show ((⟨t, []⟩ : Act).put (some 28) _).tmps.getD 19 Go.undef = _
            rw [putGet _ _ _ _ (by show 28 < t.size; omega), if_neg (by decide)]; exact x19
          · have h28 : ((⟨t, []⟩ : Act).put (some 28) (cval (.slice (some A) es.length cap) i)).eval (.tmp 28) = cval (.slice (some A) es.length cap) i := by
              show ((⟨t, []⟩ : Act).put (some 28) _).tmps.getD 28 Go.undef = _
              rw [putGet _ _ _ _ (by show 28 < t.size; omega), if_pos rfl]
            show YieldAt Fence.wide (m - 1) Try.prog l #[((⟨t, []⟩ : Act).put (some 28) (cval (.slice (some A) es.length cap) i)).eval (.tmp 28)] W3 _
            rw [h28]; exact hround i W3 (m - 1) hir hJ3 hk3
          rintro e W4 ⟨rfl, hJ4, hk4⟩
          refine ⟨_, rfl, stepX (y := .bool false) rfl (fun c h => by cases h) ?_ ?_⟩
          · have h29 : (((⟨t, []⟩ : Act).put (some 28) (cval (.slice (some A) es.length cap) i)).put (some 29) (.bool true)).eval (.tmp 29) = .bool true := by
              show (((⟨t, []⟩ : Act).put (some 28) _).put (some 29) _).tmps.getD 29 Go.undef = _
              rw [putGet _ _ _ _ (by rw [put_size]; show 29 < t.size; omega), if_pos rfl]
            show Sem.run Try.prog (execOp (((⟨t, []⟩ : Act).put (some 28) (cval (.slice (some A) es.length cap) i)).put (some 29) (.bool true)).eval _) W4 = _
            simp only [execOp, h29]; rfl
          · refine ⟨rfl, ?_, ?_, ?_, hJ4, hk4⟩
            · show ((((⟨t, []⟩ : Act).put (some 28) _).put (some 29) _).put (some 30) _).tmps.getD 30 Go.undef = _
              rw [putGet _ _ _ _ (by rw [put_size, put_size]; show 30 < t.size; omega), if_pos rfl]
            · rw [put_defers, put_defers, put_defers]
            · rw [put_size, put_size, put_size]; exact hsz
        · rintro e a3 W3 ⟨⟨rfl, x30, d3, s3, hJ3, hk3⟩, hkp⟩
          have hkp := hkp rfl
          have t0 := (hkp 0 (by simp)).trans t0
          have t1 := (hkp 1 (by simp)).trans t1
          have t2 := (hkp 2 (by simp)).trans t2
          have t4 := (hkp 4 (by simp)).trans t4
          show Code.wpIn Fence.wide m Try.prog (Code.cond _ _ _) _ a3 W3
          refine wpIn_cond_false x30 (wpIn_skip ?_)
          show Code.wpIn Fence.wide m Try.prog _ _ a3 W3
          have hw4 := wrapI (4 * (i : Int) + 4) (by omega) (by omega)
          refine wpIn_mono ((wpIn_wide (n := m)).2 (region_x (nt := 31) (K := fun s => lk s.env 4 = .int .i64 (4 * (i : Int) + 4)) (hE t1 t2 t4 hk3) s3 d3 [0, 1, 2] ?_ ?_)) ?_
          · simp
          · simp -implicitDefEqProofs [hw4]
          · rintro e a4 W4 hq
            obtain ⟨rfl, d4, s4, k4, f4, s, hK, li, lb⟩ := after_x hq; have x4 := li 4 _ _ hK
            refine ⟨⟨i + 1, ?_⟩, ?_⟩
            · rw [hHD]
              exact ⟨d4, s4, (k4 0 (by simp)).trans t0, (k4 1 (by simp)).trans t1, (k4 2 (by simp)).trans t2, by rw [x4, show (4 * (i : Int) + 4) = 4 * ((i + 1 : Nat) : Int) by omega], hJf (i + 1) W3 W4 hJ3 f4, hk3.fr f4, hir⟩
            · show (match a4.tmps.getD 4 Go.undef with | .int _ k => (4 * (rnd es : Int) - k).toNat | _ => 0) < (match a.tmps.getD 4 Go.undef with | .int _ k => (4 * (rnd es : Int) - k).toNat | _ => 0)
              rw [hmu, x4]; simp only []; omega
    · have hge : ¬ 4 * i < es.length := by simp at hge; omega
      refine wpIn_exit ?_; rw [hHD] at hd1; obtain ⟨df, sz, t0, t1, t2, t4, hJ, hk, hi⟩ := hd1; have hn : i = rnd es := by unfold rnd at hi ⊢; omega
      refine ⟨df, .tuple #[], ?_, ⟨_, rfl⟩, hn ▸ hJ, hk⟩; unfold results; rw [show Try.f93.results = #[] from rfl]; simp
end HS
