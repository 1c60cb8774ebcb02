import Derived.Test.YtdhoappjadnhcaaGreatHCY2
/-
  My own texts (road H): HCY3.
-/
set_option maxHeartbeats 8000000
set_option linter.unusedSimpArgs false
set_option linter.unusedVariables false
namespace HT
open Go Go.Proofs HK
theorem all_s (e : Eng) (h : e.ok) (hv1 : e.chans.length ≤ 6) (hv2 : e.mus.length ≤ 4) : Fn Tryz.prog 107 [.agg e.fr] (.own 6 (PlaceS (allW e))) := by
  refine Fn.intro Tryz.func107 (by decide) rfl (rs := [.tmp 2]) rfl Tryz.ntmps107 (by simp) ?_; have h1 := h.1
  have h2 := h.2.2.1
  have h3 := h.2.2.2.2.1
  refine SW.rb ?_; refine SW.rb ?_; refine SW.seqK fun K1 hK1 => ?_; refine SW.rb ?_; refine SW.block ?_
  refine SW.loop (α := Nat) (fun k => ⟨[(18, .int .i64 k), (17, .int .i64 e.chans.length), (16, .fz (ChanSf e.chans)), (3, .sl 1 0 ((hvC 0 (List.take k e.chans)).length)), (1, .ptr 0 0 0)], [some ⟨3, [e.fr]⟩, some ⟨6, PlaceS (hvC 0 (List.take k e.chans))⟩]⟩) (fun k => k ≤ e.chans.length) (fun k => e.chans.length - k) (0) ?_ ?_ (fun k hx => ?_)
  case' refine_1 =>
   simp
  case' refine_2 =>
   exact Wk.cut (by simp) (by simp [subE, hvC]) (by simp [cutH, hvC]) (by simp [lowE, lowN]) (by simp)
  case' refine_3 =>
   have hlk := hvC_lenK h hv1 k
   refine SW.rb ?_; refine SW.seqK fun K2 hK2 => ?_; refine SW.cond _ rfl (by simp) ?_ ?_
   case' refine_1 =>
    intro hb1; have hltc : k < e.chans.length := by first | omega | (simp at hb1; omega)
    obtain ⟨c, hck⟩ : ∃ q, e.chans[k]? = some q := ⟨_, List.getElem?_eq_getElem hltc⟩
    have hco := h.2.2.2.1 c (List.mem_of_getElem? hck)
    unfold Chan.ok at hco; have hst := hvC_step hck
    simp only [haveC] at hst; refine SW.skip ?_; refine hK2 _ ?_; refine SW.seqK fun K8 hK8 => ?_; refine SW.block ?_; refine SW.rg fun K hK => ?_; simp -implicitDefEqProofs [hck]
    repeat (refine And.intro (by clear hK; first | omega | (intros; simp_all; done) | (intros; grind)) ?_)
    refine hK _ ?_; clear hK K; refine SW.seqK fun K9 hK9 => ?_; refine SW.rb ?_; refine SW.block ?_
    refine SW.loop (α := Nat) (fun j => ⟨[(26, .int .i64 j), (25, .int .i64 c.sends.length), (24, .fz (WaiterS c.sends)), (4, .int .i64 k), (5, .ptr 2 0 0), (18, .int .i64 k), (17, .int .i64 e.chans.length), (16, .fz (ChanSf e.chans)), (3, .sl 1 0 ((hvC 0 (List.take k e.chans)).length + j)), (1, .ptr 0 0 0)], [some ⟨3, [e.fr]⟩, some ⟨6, PlaceS (hvC 0 (List.take k e.chans) ++ (List.take j (List.map (sendP k) c.sends)))⟩, some ⟨5, [c.fr]⟩]⟩) (fun j => j ≤ c.sends.length) (fun j => c.sends.length - j) (0) ?_ ?_ (fun j hx => ?_)
    case' refine_1 =>
     simp
    case' refine_2 =>
     exact Wk.cut (by simp) (by simp [subE]) (by simp [cutH]) (by simp [lowE, lowN]) (by simp)
    case' refine_3 =>
     skip
     refine SW.rb ?_; refine SW.seqK fun K10 hK10 => ?_; refine SW.cond _ rfl (by simp) ?_ ?_
     case' refine_1 =>
      intro hb4; have hlty : j < c.sends.length := by first | omega | (simp at hb4; omega)
      obtain ⟨y, hyk⟩ : ∃ q, c.sends[j]? = some q := ⟨_, List.getElem?_eq_getElem hlty⟩
      have hps : PlaceS (hvC 0 (List.take k e.chans) ++ List.take (j + 1) (List.map (sendP k) c.sends)) = PlaceS (hvC 0 (List.take k e.chans) ++ List.take j (List.map (sendP k) c.sends)) ++ [[.bool false, .int .i64 k, .bool true, .int .i64 y.g, .int .i64 y.cas, .int .i64 y.v]] := by
        have h9 : List.take (j + 1) (List.map (sendP k) c.sends) = List.take j (List.map (sendP k) c.sends) ++ [sendP k y] := by rw [List.take_add_one, List.getElem?_map, hyk]; rfl
        rw [h9, ← List.append_assoc, PlaceS_snoc]; rfl
      try simp only [List.append_assoc] at hps
      have htk3 : List.take ((hvC 0 (List.take k e.chans)).length + j) (PlaceS (hvC 0 (List.take k e.chans) ++ List.take j (List.map (sendP k) c.sends))) = PlaceS (hvC 0 (List.take k e.chans) ++ List.take j (List.map (sendP k) c.sends)) := List.take_of_length_le (by simp; try omega)
      try simp only [List.append_assoc] at htk3
      refine SW.skip ?_; refine hK10 _ ?_; refine SW.seqK fun K13 hK13 => ?_; refine SW.block ?_; refine SW.rg fun K hK => ?_; simp -implicitDefEqProofs [hyk]
      repeat (refine And.intro (by clear hK; first | omega | (intros; simp_all; done) | (intros; grind)) ?_)
      refine hK _ ?_; clear hK K; refine SW.eb ?_; refine hK13 _ ?_; refine SW.eb ?_; try simp only [Em.then, Ex.then, Ex.ib]
      refine ⟨j + 1, by omega, by omega, ?_⟩; exact Wk.ren [0, 5, 2] (by simp) (by simp) (by simp) (by simp) (by simp [renE, renN, wrap1 j (by omega), Nat.add_assoc]) (by simp [renH, hps, htk3]) (by simp [lowE, lowN]) (by simp)
     intro hb4; have hj1 : j = c.sends.length := by simp at hb4; omega
     subst hj1; have htj : List.take c.sends.length (List.map (sendP k) c.sends) = List.map (sendP k) c.sends := List.take_of_length_le (by simp)
     refine SW.exit ?_; simp only [Ex.then, Ex.ib]; try simp only [if_true, if_false, reduceIte]
     refine hK9 _ ?_; refine SW.rb ?_; refine SW.block ?_
     refine SW.loop (α := Nat) (fun j => ⟨[(40, .int .i64 j), (39, .int .i64 c.recvs.length), (38, .fz (WaiterS c.recvs)), (4, .int .i64 k), (18, .int .i64 k), (17, .int .i64 e.chans.length), (16, .fz (ChanSf e.chans)), (3, .sl 1 0 ((hvC 0 (List.take k e.chans)).length + c.sends.length + j)), (1, .ptr 0 0 0)], [some ⟨3, [e.fr]⟩, some ⟨6, PlaceS (hvC 0 (List.take k e.chans) ++ List.map (sendP k) c.sends ++ (List.take j (List.map (recvP k) c.recvs)))⟩]⟩) (fun j => j ≤ c.recvs.length) (fun j => c.recvs.length - j) (0) ?_ ?_ (fun j hx => ?_)
     case' refine_1 =>
      simp
     case' refine_2 =>
      exact Wk.cut (by simp) (by simp [subE, htj]) (by simp [cutH, htj]) (by simp [lowE, lowN]) (by simp)
     case' refine_3 =>
      skip
      refine SW.rb ?_; refine SW.seqK fun K11 hK11 => ?_; refine SW.cond _ rfl (by simp) ?_ ?_
      case' refine_1 =>
       intro hb5; have hlty : j < c.recvs.length := by first | omega | (simp at hb5; omega)
       obtain ⟨y, hyk⟩ : ∃ q, c.recvs[j]? = some q := ⟨_, List.getElem?_eq_getElem hlty⟩
       have hps : PlaceS (hvC 0 (List.take k e.chans) ++ List.map (sendP k) c.sends ++ List.take (j + 1) (List.map (recvP k) c.recvs)) = PlaceS (hvC 0 (List.take k e.chans) ++ List.map (sendP k) c.sends ++ List.take j (List.map (recvP k) c.recvs)) ++ [[.bool false, .int .i64 k, .bool false, .int .i64 y.g, .int .i64 y.cas, .int .i64 y.v]] := by
         have h9 : List.take (j + 1) (List.map (recvP k) c.recvs) = List.take j (List.map (recvP k) c.recvs) ++ [recvP k y] := by rw [List.take_add_one, List.getElem?_map, hyk]; rfl
         rw [h9, ← List.append_assoc, PlaceS_snoc]; rfl
       try simp only [List.append_assoc] at hps
       have htk3 : List.take ((hvC 0 (List.take k e.chans)).length + c.sends.length + j) (PlaceS (hvC 0 (List.take k e.chans) ++ List.map (sendP k) c.sends ++ List.take j (List.map (recvP k) c.recvs))) = PlaceS (hvC 0 (List.take k e.chans) ++ List.map (sendP k) c.sends ++ List.take j (List.map (recvP k) c.recvs)) := List.take_of_length_le (by simp; try omega)
       try simp only [List.append_assoc] at htk3
       refine SW.skip ?_; refine hK11 _ ?_; refine SW.seqK fun K12 hK12 => ?_; refine SW.block ?_; refine SW.rg fun K hK => ?_; simp -implicitDefEqProofs [hyk]
       repeat (refine And.intro (by clear hK; first | omega | (intros; simp_all; done) | (intros; grind)) ?_)
       refine hK _ ?_; clear hK K; refine SW.eb ?_; refine hK12 _ ?_; refine SW.eb ?_; try simp only [Em.then, Ex.then, Ex.ib]
       refine ⟨j + 1, by omega, by omega, ?_⟩; exact Wk.ren [0, 4] (by simp) (by simp) (by simp) (by simp) (by simp [renE, renN, wrap1 j (by omega), Nat.add_assoc]) (by simp [renH, hps, htk3]) (by simp [lowE, lowN]) (by simp)
      intro hb5; have hj1 : j = c.recvs.length := by simp at hb5; omega
      subst hj1; have htj : List.take c.recvs.length (List.map (recvP k) c.recvs) = List.map (recvP k) c.recvs := List.take_of_length_le (by simp)
      refine SW.exit ?_; simp only [Ex.then, Ex.ib]; try simp only [if_true, if_false, reduceIte]
      refine hK8 _ ?_; refine SW.eb ?_; try simp only [Em.then, Ex.then, Ex.ib]
      refine ⟨k + 1, by omega, by omega, ?_⟩; exact Wk.cut (by simp) (by simp [subE, wrap1 k (by omega), hst, htj, Nat.add_assoc]) (by simp [cutH, hst, htj]) (by simp [lowE, lowN]) (by simp)
   intro hb1; have hk1 : k = e.chans.length := by simp at hb1; omega
   subst hk1; have htk : List.take e.chans.length e.chans = e.chans := List.take_length
   rw [htk] at hlk; refine SW.exit ?_; simp only [Ex.then, Ex.ib]; try simp only [if_true, if_false, reduceIte]
   refine hK1 _ ?_; refine SW.seqK fun K3 hK3 => ?_; refine SW.rb ?_; refine SW.block ?_
   refine SW.loop (α := Nat) (fun k => ⟨[(55, .int .i64 k), (54, .int .i64 e.mus.length), (53, .fz (MutexSf e.mus)), (3, .sl 0 0 ((hvC 0 e.chans).length + (hvM 0 (List.take k e.mus)).length))], [some ⟨6, PlaceS (hvC 0 e.chans ++ hvM 0 (List.take k e.mus))⟩]⟩) (fun k => k ≤ e.mus.length) (fun k => e.mus.length - k) (0) ?_ ?_ (fun k hx => ?_)
   case' refine_1 =>
    simp
   case' refine_2 =>
    exact Wk.ren [1] (by simp) (by simp) (by simp) (by simp) (by simp [renE, renN, hvM]) (by simp [renH, hvM]) (by simp [lowE, lowN]) (by simp)
   case' refine_3 =>
    have hlm := hvM_lenK h hv2 k
    have hlc := hvC_lenK h hv1 e.chans.length
    rw [List.take_length] at hlc; refine SW.rb ?_; refine SW.seqK fun K4 hK4 => ?_; refine SW.cond _ rfl (by simp) ?_ ?_
    case' refine_1 =>
     intro hb2; have hltc : k < e.mus.length := by first | omega | (simp at hb2; omega)
     obtain ⟨c, hck⟩ : ∃ q, e.mus[k]? = some q := ⟨_, List.getElem?_eq_getElem hltc⟩
     have hco := h.2.2.2.2.2 c (List.mem_of_getElem? hck)
     unfold Mutex.ok at hco; have hst := hvM_step hck
     simp only [haveM] at hst; refine SW.skip ?_; refine hK4 _ ?_; refine SW.seqK fun K5 hK5 => ?_; refine SW.block ?_; refine SW.rg fun K hK => ?_; simp -implicitDefEqProofs [hck]
     repeat (refine And.intro (by clear hK; first | omega | (intros; simp_all; done) | (intros; grind)) ?_)
     refine hK _ ?_; clear hK K; refine SW.rb ?_; refine SW.block ?_
     refine SW.loop (α := Nat) (fun j => ⟨[(63, .int .i64 j), (62, .int .i64 c.wait.length), (61, .fz (IntS c.wait)), (10, .int .i64 k), (55, .int .i64 k), (54, .int .i64 e.mus.length), (53, .fz (MutexSf e.mus)), (3, .sl 0 0 ((hvC 0 e.chans).length + (hvM 0 (List.take k e.mus)).length + j))], [some ⟨6, PlaceS (hvC 0 e.chans ++ hvM 0 (List.take k e.mus) ++ (List.take j (List.map (muP k) c.wait)))⟩]⟩) (fun j => j ≤ c.wait.length) (fun j => c.wait.length - j) (0) ?_ ?_ (fun j hx => ?_)
     case' refine_1 =>
      simp
     case' refine_2 =>
      exact Wk.cut (by simp) (by simp [subE]) (by simp [cutH]) (by simp [lowE, lowN]) (by simp)
     case' refine_3 =>
      skip
      refine SW.rb ?_; refine SW.seqK fun K6 hK6 => ?_; refine SW.cond _ rfl (by simp) ?_ ?_
      case' refine_1 =>
       intro hb3; have hlty : j < c.wait.length := by first | omega | (simp at hb3; omega)
       obtain ⟨y, hyk⟩ : ∃ q, c.wait[j]? = some q := ⟨_, List.getElem?_eq_getElem hlty⟩
       have hps : PlaceS (hvC 0 e.chans ++ hvM 0 (List.take k e.mus) ++ List.take (j + 1) (List.map (muP k) c.wait)) = PlaceS (hvC 0 e.chans ++ hvM 0 (List.take k e.mus) ++ List.take j (List.map (muP k) c.wait)) ++ [[.bool true, .int .i64 k, .bool false, .int .i64 y, .int .i64 (-1), .int .i64 0]] := by
         have h9 : List.take (j + 1) (List.map (muP k) c.wait) = List.take j (List.map (muP k) c.wait) ++ [muP k y] := by rw [List.take_add_one, List.getElem?_map, hyk]; rfl
         rw [h9, ← List.append_assoc, PlaceS_snoc]; rfl
       try simp only [List.append_assoc] at hps
       have htk3 : List.take ((hvC 0 e.chans).length + (hvM 0 (List.take k e.mus)).length + j) (PlaceS (hvC 0 e.chans ++ hvM 0 (List.take k e.mus) ++ List.take j (List.map (muP k) c.wait))) = PlaceS (hvC 0 e.chans ++ hvM 0 (List.take k e.mus) ++ List.take j (List.map (muP k) c.wait)) := List.take_of_length_le (by simp; try omega)
       try simp only [List.append_assoc] at htk3
       refine SW.skip ?_; refine hK6 _ ?_; refine SW.seqK fun K7 hK7 => ?_; refine SW.block ?_; refine SW.rg fun K hK => ?_; simp -implicitDefEqProofs [hyk]
       repeat (refine And.intro (by clear hK; first | omega | (intros; simp_all; done) | (intros; grind)) ?_)
       refine hK _ ?_; clear hK K; refine SW.eb ?_; refine hK7 _ ?_; refine SW.eb ?_; try simp only [Em.then, Ex.then, Ex.ib]
       refine ⟨j + 1, by omega, by omega, ?_⟩; exact Wk.ren [2] (by simp) (by simp) (by simp) (by simp) (by simp [renE, renN, wrap1 j (by omega), Nat.add_assoc]) (by simp [renH, hps, htk3]) (by simp [lowE, lowN]) (by simp)
      intro hb3; have hj1 : j = c.wait.length := by simp at hb3; omega
      subst hj1; have htj : List.take c.wait.length (List.map (muP k) c.wait) = List.map (muP k) c.wait := List.take_of_length_le (by simp)
      refine SW.exit ?_; simp only [Ex.then, Ex.ib]; try simp only [if_true, if_false, reduceIte]
      refine hK5 _ ?_; refine SW.eb ?_; try simp only [Em.then, Ex.then, Ex.ib]
      refine ⟨k + 1, by omega, by omega, ?_⟩; exact Wk.cut (by simp) (by simp [subE, wrap1 k (by omega), hst, htj, Nat.add_assoc]) (by simp [cutH, hst, htj]) (by simp [lowE, lowN]) (by simp)
    intro hb2; have hk1 : k = e.mus.length := by simp at hb2; omega
    subst hk1; have htk : List.take e.mus.length e.mus = e.mus := List.take_length
    refine SW.exit ?_; simp only [Ex.then, Ex.ib]; try simp only [if_true, if_false, reduceIte]
    refine hK3 _ ?_; refine SW.rb ?_; refine SW.ret ?_; simp [Ex.then, Ex.ib, -strN]
    all_goals first
      | (rw [List.take_of_length_le (by simp)]; exact ⟨PlaceS_strM2 _, rfl⟩)
      | fail
end HT
