/-
  My own text (road H): HK8.
-/
import Derived.Test.YtflanhfpjgcfbaaHK7
import Derived.Laws.BytesString
set_option linter.unusedSimpArgs false
set_option linter.unusedVariables false
namespace HK
open Go

section
variable {P : Program} {w : World} {own : Nat → Prop} {φ : Refs}

theorem allGk_mem {ρ : Operand → AV} : ∀ {l : List Operand}, allGk ρ l → ∀ x ∈ l, gk (ρ x)
  | [], _, _, hx => by cases hx
  | y :: l, h, x, hx => by
    rcases List.mem_cons.1 hx with rfl | hx
    · exact h.1
    · exact allGk_mem h.2 x hx
theorem cr_map {ρ : Operand → AV} {r : Operand → Value} : ∀ {l : List Operand}, (∀ x ∈ l, VR w own φ (ρ x) (r x) []) → allGk ρ l → CR w own φ (l.map fun x => st1 (ρ x)) (l.map r) []
  | [], _, _ => .nil
  | x :: l, h, g => by
    have := CR.cons _ _ _ _ _ _ ((h x (List.mem_cons_self ..)).strip g.1) (cr_map (l := l) (fun y hy => h y (List.mem_cons_of_mem _ hy)) g.2)
    simpa using this
theorem or_map {ρ : Operand → AV} {r : Operand → Value} {o : Option Operand} (h : ∀ x ∈ o.toList, VR w own φ (ρ x) (r x) []) (g : allGk ρ o.toList) : OR w own φ (o.map (st1 <| ρ ·)) (o.map r) := by
  cases o with
  | none => exact .none
  | some x => exact .some _ _ ((h x (by simp)).strip g.1)

theorem mapM_places (P : Program) (w : World) : ∀ (fs : List Field), (fs.all fun f => (P.info? f.type).isSome) = true →
    (fs.mapM (m := Sem) fun f => do pure (f.offset, ← Go.sizeOf f.type)).run P w = .ok (fs.map fun f => (f.offset, P.cellsOf f.type)) w
  | [], _ => by simp
  | f :: fs, h => by
    simp only [List.all_cons, Bool.and_eq_true] at h
    obtain ⟨i, hi⟩ := Option.isSome_iff_exists.1 h.1
    have ih := mapM_places P w fs h.2
    simp only [List.mapM_cons, Sem.run_bind, run_sizeI hi, Result.andThen_ok, Sem.run_pure]
    rw [ih]
    simp [Program.cellsOf, hi]

theorem hb_spec8 {h : Heap} {id : Nat} {b : Blk} (e : hb h id = some b) : h[id]? = some (some b) := by
  unfold hb at e
  split at e
  · rename_i q; cases e; exact q
  · cases e
theorem byt_vals : ∀ {es : List (List AV)} {vs : List Value} {S : List Nat} {ns : List Int}, CR w own φ es.flatten vs S → bytC es = some ns → vs = ns.map (Value.int .u8)
  | [], vs, S, ns, h, e => by
    simp [bytC] at e
    subst e
    simp at h
    cases h
    rfl
  | e0 :: es, vs, S, ns, h, e => by
    unfold bytC at e
    split at e
    · rename_i heq; cases heq
    · rename_i n l heq
      cases heq
      cases hb' : bytC es with
      | none => simp [hb'] at e
      | some m =>
        simp [hb'] at e
        subst e
        rw [List.flatten_cons] at h
        obtain ⟨v, us, S1, S2, rfl, rfl, k1, k2⟩ := h.uncons
        cases k1
        have q := byt_vals (es := es) (vs := us) (by simpa using k2) hb'
        subst q
        rfl
    · cases e
theorem bytC_len : ∀ {es : List (List AV)} {ns : List Int}, bytC es = some ns → ns.length = es.length
  | [], ns, e => by simp [bytC] at e; subst e; rfl
  | e0 :: es, ns, e => by
    unfold bytC at e
    split at e
    · rename_i heq; cases heq
    · rename_i n l heq
      cases heq
      cases hb' : bytC es with
      | none => simp [hb'] at e
      | some m => simp [hb'] at e; subst e; simp [bytC_len hb']
    · cases e
theorem cvH_sound {h : Heap} {Ss : List (List Nat)} (hh : HR w own φ h Ss) {src dst : TypeId} {a : AV} {u : Value} (ha : VR w own φ a u []) (ok : (cvH P h src dst a).1) : ∃ z, (convert src dst u).run P w = .ok z w ∧ VR w own φ (cvH P h src dst a).2 z [] := by
  unfold cvH at ok ⊢
  split at ok
  · rename_i hb'
    split at ok
    · rename_i es hd he
      split at ok
      · rename_i ns hns
        simp only [hd, he, hns]
        unfold tbyt at hb'
        split at hb'
        · rename_i e hs
          split at hb'
          · rename_i hE
            have key : ∃ A len cap, u = .slice A len cap ∧ len = ns.length ∧ (A = none → ns = []) ∧ ∀ B, A = some B → Seg w B (ns.map (Value.int .u8)) := by
              cases ha with
              | nil A =>
                simp [partE] at he
                subst he
                simp [bytC] at hns
                subst hns
                exact ⟨A, 0, 0, rfl, rfl, fun _ => rfl, fun B _ n v hv => by simp at hv⟩
              | fz0 A cap =>
                simp [partE] at he
                subst he
                simp [bytC] at hns
                subst hns
                exact ⟨A, 0, cap, rfl, rfl, fun _ => rfl, fun B _ n v hv => by simp at hv⟩
              | fz es' sz A cap vs hlt ho hu hcap hsg hc =>
                simp [partE] at he
                subst he
                have hv := byt_vals hc hns
                subst hv
                exact ⟨some A, _, cap, rfl, (bytC_len hns).symm, (fun e => by cases e), (fun B hB => by cases hB; exact hsg)⟩
              | sl0 id off r A hr =>
                simp only [partE] at he
                split at he
                · split at he
                  · simp at he
                    subst he
                    simp [bytC] at hns
                    subst hns
                    exact ⟨A, 0, 0, rfl, rfl, fun _ => rfl, fun B _ n v hv => by simp at hv⟩
                  · cases he
                · cases he
              | sl id off len cap r hr hcap hlim =>
                simp only [partE] at he
                split at he
                · rename_i b hbb
                  split at he
                  · rename_i hle
                    simp at he
                    obtain ⟨S, hS, hB⟩ := hh id b (hb_spec8 hbb)
                    rcases hB with ⟨h1, _, _⟩ | ⟨r', vs, T, h1, h2, h3, h4, h5, h6, h7, rfl⟩
                    · rw [hr] at h1; cases h1
                    · rw [hr] at h1; cases h1
                      have f1 : b.es.flatten = (b.es.take off).flatten ++ (((b.es.drop off).take len).flatten ++ ((b.es.drop off).drop len).flatten) := by
                        rw [← List.flatten_append, ← List.flatten_append, List.take_append_drop, List.take_append_drop]
                      rw [f1] at h7
                      obtain ⟨v1, v2', S1, S2', rfl, rfl, c1, c2⟩ := h7.split
                      obtain ⟨v2, v3, S2, S3, rfl, rfl, c2, c3⟩ := c2.split
                      rw [he] at c2
                      have hv := byt_vals c2 hns
                      subst hv
                      have hsg := h6.split
                      have hl1 : v1.length = off := by
                        rw [← c1.length, flat_length (sz := b.sz) fun e he => h4 e (List.mem_of_mem_take he), List.length_take, Nat.min_eq_left (by omega), hle.1, Nat.mul_one]
                      have hl2 : ns.length = len := by rw [bytC_len hns, ← he]; simp; omega
                      rw [add_row, hl1] at hsg
                      refine ⟨_, len, cap, rfl, hl2.symm, (fun e => by cases e), fun B hB => ?_⟩
                      cases hB
                      rw [h2, hle.1, Nat.mul_one]
                      exact hsg
                  · cases he
                · cases he
              | _ => simp [partE] at he
            obtain ⟨A, len, cap, rfl, hlen, hA, hB⟩ := key
            refine ⟨.string (strB ns), ?_, VR.str _⟩
            rw [run_convert_bytes_string w src dst e A len cap hs hE (tstr_spec hd)]
            cases A with
            | none =>
              have := hA rfl
              subst this
              simp [Conv.bytesToString, strB]
            | some B =>
              refine run_bytesToString w B len cap ns ?_
              have := run_loadCells_list (P := P) w B (ns.map (Value.int .u8)) (hB B rfl)
              rw [List.length_map, ← hlen] at this
              exact this
          · cases hb'
        · cases hb'
      · exact ok.elim
    · exact ok.elim
  · rename_i hb'
    exact cvV_sound ha ok
theorem elemV_sound {t : TypeId} {m sz : Nat} (hs : tel P t = none) (ht : tarr P t = some (m, sz)) {v : AV} {x : Value} {k : IntKind} {n : Int} (hv : VR w own φ v x []) (ok : (elemV m sz n v).1) :
    ∃ y, (Instr.indexAt t x (.int k n)).run P w = .ok y w ∧ VR w own φ (elemV m sz n v).2 y [] := by
  unfold tarr at ht
  split at ht
  · rename_i len e hu
    split at ht
    · rename_i i hi
      cases ht
      have run : ∀ (A : Addr), 0 ≤ n → n < m → (Instr.indexAt t (.pointer (some A)) (.int k n)).run P w = .ok (.pointer (some (A.add (n.toNat * i.size)))) w := fun A h0 h1 => by
        simp [Instr.indexAt, asIntOf, run_underlying hu, Instr.sureAddr, h0, h1, run_sizeI hi]
      cases hv with
      | ptr id i' j r hr =>
        simp only [elemV] at ok ⊢
        refine ⟨_, run _ ok.1 ok.2, ?_⟩
        rw [add_row, Nat.add_assoc]
        exact .ptr id i' _ r hr
      | fptr es sz A vs i' j hlt ho hu hs hc =>
        simp only [elemV] at ok ⊢
        refine ⟨_, run _ ok.1 ok.2, ?_⟩
        rw [add_add, Nat.add_assoc]
        exact .fptr es sz A vs i' _ hlt ho hu hs hc
      | _ => simp [elemV] at ok
    · cases ht
  · cases ht
theorem arrZ_sound {t : TypeId} {z : List AV} (ht : tarrZ P t = some z) : ∃ y, (Instr.build t #[]).run P w = .ok y w ∧ VR w own φ (.agg z) y [] := by
  unfold tarrZ at ht
  split at ht
  · rename_i m e i hu hi
    split at ht
    · rename_i ie zv he hz
      cases ht
      refine ⟨.agg zv.cells, by simp [Instr.build, zeroValue, run_info hi, hz, run_underlying hu, run_sizeI he, Instr.fill], ?_⟩
      have := VR.agg (w := w) (own := own) (φ := φ) _ zv.cells.toList _ (CR.absC _)
      simpa using this
    · cases ht
  · cases ht
theorem build_sound {t : TypeId} {pl : List (Nat × Nat)} {z : List AV} (ht : tplaces P t = some (pl, z)) {ρ : Operand → AV} {r : Operand → Value} {parts : Array (Nat × Operand)} {cs : List AV}
    (e : fillV (fun i => pl[i]?) z (parts.toList.map fun p => (p.1, st1 (ρ p.2))) = some cs) (h : ∀ x ∈ parts.toList.map (·.2), VR w own φ (ρ x) (r x) []) (g : allGk ρ (parts.toList.map (·.2))) :
    ∃ y, (Instr.build t (parts.map fun (i, x) => (i, r x))).run P w = .ok y w ∧ VR w own φ (.agg cs) y [] := by
  unfold tplaces at ht
  split at ht
  · rename_i fs i hu hi
    split at ht
    · rename_i zv hz
      split at ht
      · rename_i hall
        cases ht
        have hcz : CR w own φ (zv.cells.toList.map absC) zv.cells.toList [] := CR.absC _
        obtain ⟨rr, hf, hc⟩ := fill_sound (w := w) (own := own) (φ := φ) (fun i => (fs.toList.map (fun f => (f.offset, P.cellsOf f.type)))[i]?) (parts.toList.map fun p => (p.1, st1 (ρ p.2))) (parts.toList.map fun p => (p.1, r p.2)) _ zv.cells cs (by simp)
          (by
            intro k p q h1 h2
            rw [List.getElem?_map] at h1 h2
            cases hk : parts.toList[k]? with
            | none => simp [hk] at h1
            | some pq =>
              simp [hk] at h1 h2
              subst h1; subst h2
              have hm : pq.2 ∈ parts.toList.map (·.2) := List.mem_map.2 ⟨pq, List.mem_of_getElem? hk, rfl⟩
              exact ⟨rfl, (h _ hm).strip (allGk_mem g _ hm)⟩) hcz e
        refine ⟨.agg rr, ?_, ?_⟩
        · have hm := mapM_places P w fs.toList hall
          have hm' : (fs.mapM (m := Sem) fun f => do pure (f.offset, ← Go.sizeOf f.type)).run P w = .ok (fs.toList.map fun f => (f.offset, P.cellsOf f.type)).toArray w := by
            rw [← Array.toList_mapM] at hm
            have : ∀ {α} (s : Sem (Array α)) (l : List α), ((Array.toList <$> s).run P w = .ok l w) → s.run P w = .ok l.toArray w := by
              intro α s l hs
              simp only [Sem.run_map] at hs
              cases hs' : s.run P w with
              | ok a w' => rw [hs'] at hs; simp at hs; obtain ⟨rfl, rfl⟩ := hs; simp
              | halt x w' => rw [hs'] at hs; simp at hs
            exact this _ _ hm
          have hzv : (zeroValue t).run P w = .ok zv w := by simp [zeroValue, run_info hi, hz]
          have e2 : (parts.map fun (i, x) => (i, r x)).toList = parts.toList.map fun p => (p.1, r p.2) := by simp
          have e3 : (fun i : Nat => ((fs.toList.map fun f => (f.offset, P.cellsOf f.type)).toArray)[i]?) = (fun i : Nat => (fs.toList.map (fun f => (f.offset, P.cellsOf f.type)))[i]?) := by funext i; simp
          unfold Instr.build
          rw [Sem.run_bind, hzv, Result.andThen_ok]
          rw [Sem.run_bind, run_underlying hu, Result.andThen_ok]
          simp only []
          rw [Sem.run_bind, hm', Result.andThen_ok, e2]
          simp only [e3, hf]
          rfl
        · have := VR.agg (w := w) (own := own) (φ := φ) cs rr.toList [] hc
          simpa using this
      · cases ht
    · cases ht
  · cases ht

theorem bt_eq (s : ByteArray) (n : Nat) (h : n < s.size) : s[n]? = some (s.data.toList.getD n 0) := by
  have : s.size = s.data.toList.length := (Array.length_toList ..).symm
  rw [getElem?_pos s n h]
  congr 1
  have h2 : n < s.data.toList.length := by omega
  rw [List.getD_eq_getElem?_getD, List.getElem?_eq_getElem h2]
  rfl

theorem evP_sound {h : Heap} {Ss : List (List Nat)} (hh : HR w own φ h Ss) {ρ : Operand → AV} {r : Operand → Value} {o : Oper} (hops : ∀ x ∈ o.op.operands.toList, VR w own φ (ρ x) (r x) []) (ok : (evP P h ρ o.op).1) :
    ∃ y, (execOp r o).run P w = .ok (.value y) w ∧ VR w own φ (evP P h ρ o.op).2 y [] := by
  have lift : ∀ {s : Sem Value} {y : Value}, s.run P w = .ok y w → (do pure (Next.value (← s)) : Sem Next).run P w = .ok (.value y) w := by
    intro s y hs; simp [hs]
  obtain ⟨dst, op, ty, pos, after, guard⟩ := o
  simp only at hops ok ⊢
  cases op with
  | move x =>
    simp only [evP] at ok ⊢
    exact ⟨_, rfl, (hops x (by simp [Op.operands])).strip ok⟩
  | assign x =>
    simp only [evP] at ok ⊢
    exact ⟨_, rfl, (hops x (by simp [Op.operands])).strip ok⟩
  | pick c a b =>
    simp only [evP] at ok ⊢
    split at ok
    · rename_i t hc
      obtain ⟨g1, g2, g3⟩ := ok
      have hcv := (hops c (by simp [Op.operands])).strip g1
      rw [hc] at hcv
      generalize hrc : r c = rc at hcv
      cases hcv
      refine ⟨_, ?_, pickV_sound (fun e => (hops a (by simp [Op.operands])).strip (g2 e)) (fun e => (hops b (by simp [Op.operands])).strip (g3 e))⟩
      simp [execOp, hrc, asBool]
    · exact ok.elim
  | load t a =>
    simp only [evP] at ok ⊢
    cases ht : tk P t with
    | none => simp [ht] at ok
    | some gn =>
      obtain ⟨g, n⟩ := gn
      simp only [ht] at ok ⊢
      obtain ⟨y, hy, hv⟩ := loadV_sound hh ht ((hops a (by simp [Op.operands])).strip ok.1) ok.2
      exact ⟨y, lift hy, hv⟩
  | fieldAddr s x f =>
    simp only [evP] at ok ⊢
    cases ht : toff P s f with
    | none => simp [ht] at ok
    | some off =>
      simp only [ht] at ok ⊢
      obtain ⟨y, hy, hv⟩ := fieldV_sound ht ((hops x (by simp [Op.operands])).strip ok.1) ok.2
      exact ⟨y, lift hy, hv⟩
  | indexAddr t x i =>
    simp only [evP] at ok ⊢
    split at ok
    · rename_i sz by_ k n ht hi
      obtain ⟨g1, g2, g3⟩ := ok
      have hiv := (hops i (by simp [Op.operands])).strip g2
      rw [hi] at hiv
      generalize hri : r i = ri at hiv
      cases hiv
      obtain ⟨y, hy, hv⟩ := indexV_sound (k := k) hh ht ((hops x (by simp [Op.operands])).strip g1) g3
      exact ⟨y, lift (by rw [hri]; exact hy), hv⟩
    · rename_i k n ht hi
      split at ok
      · rename_i m sz hta
        obtain ⟨g1, g2, g3⟩ := ok
        have hiv := (hops i (by simp [Op.operands])).strip g2
        rw [hi] at hiv
        generalize hri : r i = ri at hiv
        cases hiv
        obtain ⟨y, hy, hv⟩ := elemV_sound (k := k) ht hta ((hops x (by simp [Op.operands])).strip g1) g3
        exact ⟨y, lift (by rw [hri]; exact hy), by simpa [hta] using hv⟩
      · exact ok.elim
    · exact ok.elim
  | index t x i =>
    simp only [evP] at ok ⊢
    split at ok
    · rename_i s k n ht hx hi
      obtain ⟨g1, g2, g3, g4⟩ := ok
      have hxv := (hops x (by simp [Op.operands])).strip g1
      have hiv := (hops i (by simp [Op.operands])).strip g2
      rw [hi] at hiv
      rw [hx] at hxv
      generalize hri : r i = ri at hiv
      generalize hrx : r x = rx at hxv
      cases hiv
      cases hxv
      refine ⟨.int .u8 (bt s n.toNat), lift ?_, .int _ _⟩
      have hb := bt_eq s n.toNat (by omega)
      rw [hri, hrx]
      simp [Instr.index, asIntOf, run_underlying (tstr_spec ht), g3, hb, bt]
    · exact ok.elim
  | slice t x lo hi mx =>
    cases mx with
    | some _ => simp [evP] at ok
    | none =>
      simp only [evP] at ok ⊢
      split at ok
      · rename_i ht
        obtain ⟨g1, g2, g3, ⟨s, hs⟩, g4⟩ := ok
        have hxv := (hops x (by simp [Op.operands])).strip g1
        rw [hs] at hxv g4
        generalize hrx : r x = rx at hxv
        cases hxv
        obtain ⟨y, hy, hv⟩ := sliceS_sound (tstr_spec ht) (or_map (fun y hy => hops y (by simp [Op.operands] at hy ⊢; simp [hy])) g2) (or_map (fun y hy => hops y (by simp [Op.operands] at hy ⊢; simp [hy])) g3) g4
        rw [hs]; exact ⟨y, lift (by rw [hrx]; exact hy), hv⟩
      · rename_i sz by_ ht hsz
        obtain ⟨g1, g2, g3, g4, g5⟩ := ok
        obtain ⟨y, hy, hv⟩ := slice_sound hh hsz ((hops x (by simp [Op.operands])).strip g1) g4 (or_map (fun y hy => hops y (by simp [Op.operands] at hy ⊢; simp [hy])) g2) (or_map (fun y hy => hops y (by simp [Op.operands] at hy ⊢; simp [hy])) g3) g5
        exact ⟨y, lift hy, hv⟩
      · exact ok.elim
  | extract x i =>
    simp only [evP] at ok ⊢
    split at ok
    · rename_i vs hx
      obtain ⟨g1, g2⟩ := ok
      have hxv := (hops x (by simp [Op.operands])).strip g1
      rw [hx] at hxv
      generalize hrx : r x = rx at hxv
      cases hxv with
      | tup _ us S hc =>
        have : vs[i]? = some (vs.getD i .undef) := by rw [List.getD_eq_getElem?_getD, List.getElem?_eq_getElem g2]; rfl
        obtain ⟨y, S', h1, h2, h3⟩ := hc.get this
        have : S' = [] := by cases S' with
          | nil => rfl
          | cons b _ => exact absurd (h3 b (List.mem_cons_self ..)) (by simp)
        subst this
        exact ⟨y, lift (by rw [hrx]; simp [Instr.extract, h1]), h2⟩
    · exact ok.elim
  | binOp op t x y yt =>
    simp only [evP] at ok ⊢
    obtain ⟨y, hy, hv⟩ := binV_sound (x := x) (y := y) ((hops x (by simp [Op.operands])).strip ok.1) ((hops y (by simp [Op.operands])).strip ok.2.1) ok.2.2
    exact ⟨y, lift hy, hv⟩
  | unOp op t x =>
    simp only [evP] at ok ⊢
    obtain ⟨y, hy, hv⟩ := unV_sound ((hops x (by simp [Op.operands])).strip ok.1) ok.2
    exact ⟨y, lift hy, hv⟩
  | convert src dst x =>
    simp only [evP] at ok ⊢
    obtain ⟨y, hy, hv⟩ := cvH_sound hh ((hops x (by simp [Op.operands])).strip ok.1) ok.2
    exact ⟨y, lift hy, hv⟩
  | nilCheck x =>
    simp only [evP] at ok ⊢
    split at ok
    · rename_i id i j hx
      have hxv := (hops x (by simp [Op.operands])).strip ok
      rw [hx] at hxv
      generalize hrx : r x = rx at hxv
      cases hxv with
      | ptr _ _ _ rf hr => exact ⟨_, by simp [execOp, hrx], .ptr id i j rf hr⟩
    · rename_i es i j hx
      have hxv := (hops x (by simp [Op.operands])).strip ok
      rw [hx] at hxv
      generalize hrx : r x = rx at hxv
      cases hxv with
      | fptr es sz A vs i j hlt ho hu hs hc => exact ⟨_, by simp [execOp, hrx], .fptr es sz A vs i j hlt ho hu hs hc⟩
    · exact ok.elim
  | build t parts =>
    simp only [evP] at ok ⊢
    cases ht : tplaces P t with
    | none =>
      simp only [ht] at ok ⊢
      split at ok
      · rename_i z hz hp
        have ep : parts = #[] := by rw [← Array.toArray_toList (xs := parts), hp]
        subst ep
        obtain ⟨y, hy, hv⟩ := arrZ_sound (P := P) (w := w) (own := own) (φ := φ) hz
        exact ⟨y, lift (by simpa using hy), by simpa [hz] using hv⟩
      · exact ok.elim
    | some pz =>
      obtain ⟨pl, z⟩ := pz
      simp only [ht] at ok ⊢
      cases hf : fillV (fun i => pl[i]?) z (parts.toList.map fun p => (p.1, st1 (ρ p.2))) with
      | none => simp [hf] at ok
      | some cs =>
        simp only [hf] at ok ⊢
        obtain ⟨y, hy, hv⟩ := build_sound ht hf (fun x hx => hops x (by simpa [Op.operands] using hx)) ok
        exact ⟨y, lift hy, hv⟩
  | makeFunc fn first cap =>
    simp only [evP] at ok ⊢
    refine ⟨.func fn (first.map r) (cap.map r), lift (by simp [Instr.makeFunc]), ?_⟩
    have := VR.fn (w := w) (own := own) (φ := φ) fn _ _ _ _ (cr_map (fun x hx => hops x (by simp only [Op.operands, Array.toList_append, List.mem_append]; exact .inl hx)) ok.1) (cr_map (fun x hx => hops x (by simp only [Op.operands, Array.toList_append, List.mem_append]; exact .inr hx)) ok.2)
    have e : ∀ l : Array Operand, (l.toList.map r).toArray = l.map r := fun l => by rw [← Array.toList_map, Array.toArray_toList]
    rw [e, e] at this; exact this
  | call c =>
    obtain ⟨callee, args, ats⟩ := c
    cases callee with
    | builtin b =>
      simp only [evP] at ok ⊢
      split at ok
      · rename_i x t ha ht
        have ea : args = #[x] := by rw [← Array.toArray_toList (xs := args), ha]
        have et : ats = #[t] := by rw [← Array.toArray_toList (xs := ats), ht]
        subst ea; subst et
        obtain ⟨y, hy, hv⟩ := lenV_sound (ty := ty) ((hops x (by simp [Op.operands, Call.operands])).strip ok.1) ok.2
        exact ⟨y, by simp [execOp, resolve, invoke, builtin, hy], hv⟩
      · rename_i x y ha
        have ea : args = #[x, y] := by rw [← Array.toArray_toList (xs := args), ha]
        subst ea
        obtain ⟨z, hy, hv⟩ := minV_sound (P := P) (ty := ty) (ts := ats) ((hops x (by simp [Op.operands, Call.operands])).strip ok.1) ((hops y (by simp [Op.operands, Call.operands])).strip ok.2.1) ok.2.2
        exact ⟨z, by simp [execOp, resolve, invoke, builtin, hy], hv⟩
      · rename_i x y ha
        have ea : args = #[x, y] := by rw [← Array.toArray_toList (xs := args), ha]
        subst ea
        obtain ⟨z, hy, hv⟩ := maxV_sound (P := P) (ty := ty) (ts := ats) ((hops x (by simp [Op.operands, Call.operands])).strip ok.1) ((hops y (by simp [Op.operands, Call.operands])).strip ok.2.1) ok.2.2
        exact ⟨z, by simp [execOp, resolve, invoke, builtin, hy], hv⟩
      · exact ok.elim
    | value _ => simp [evP] at ok
    | invoke _ _ => simp [evP] at ok
  | _ => simp [evP] at ok
end
end HK
