import Derived.Test.YtjalahhkhcmjaaaDoorHLQD
import Derived.Test.YtjalahhkhcmjaaaDoorHLQCM
/-
  My own texts (road H): HLQDI.
-/
set_option linter.unusedSimpArgs false
set_option linter.unusedVariables false
namespace HT
open Go Go.Proofs HK
set_option maxHeartbeats 4000000 in
theorem engText_i (e : Eng) (he : wt e.gs ≤ 1048576) : FnT gA tabA Tryd.prog 7 [.agg e.fr] (.str (engT e)) := by
  refine FnT.intro Tryd.func7 (by decide) rfl (rs := [.tmp 2]) rfl Tryd.ntmps7 (by simp) ?_; have hln := wt_len e.gs
  refine ST.regionK fun K hK => ?_; simp -implicitDefEqProofs; repeat (refine And.intro (by clear hK; first | omega | (intros; simp_all; done) | (intros; grind)) ?_)
  refine hK _ ?_; clear hK K; refine ST.regionK fun K hK => ?_; simp -implicitDefEqProofs; repeat (refine And.intro (by clear hK; first | omega | (intros; simp_all; done) | (intros; grind)) ?_)
  refine hK _ ?_; clear hK K; refine ST.seqK fun K1 hK1 => ?_; refine ST.regionK fun K hK => ?_; simp -implicitDefEqProofs; repeat (refine And.intro (by clear hK; first | omega | (intros; simp_all; done) | (intros; grind)) ?_)
  refine hK _ ?_; clear hK K; refine ST.block ?_
  refine ST.loop (α := Nat) (fun k => ⟨[(3, .str (catG 0 (e.gs.take k))), (12, .int .i64 k), (11, .int .i64 e.gs.length), (10, .fz (GorSf e.gs)), (1, .ptr 0 0 0)], [some ⟨3, [e.fr]⟩]⟩) (fun k => k ≤ e.gs.length ∧ (e.gs.take k).all gOk = true) (fun k => e.gs.length - k) (0) ?_ ?_ (fun k hx => ?_)
  case' refine_1 =>
   simp
  case' refine_2 =>
   exact Wk.cut (by simp) (by simp [subE, catG]) (by simp [cutH]) (by simp [lowE, lowN]) (by simp [lowB, lowN])
  case' refine_3 =>
   have hxo := hx
   refine ST.regionK fun K hK => ?_; simp -implicitDefEqProofs; repeat (refine And.intro (by clear hK; first | omega | (intros; simp_all; done) | (intros; grind)) ?_)
   refine hK _ ?_; clear hK K; refine ST.seqK fun K2 hK2 => ?_; refine ST.cond _ rfl (by simp) ?_ ?_
   case' refine_2 =>
    intro hb1
    first
    | (exfalso; simp at hb1; done)
    | (exfalso; simp at hb1; omega)
    | (
     have hk9 : k = e.gs.length := by simp at hb1; omega
     have hres : engT e = catG 0 (e.gs.take k) := by
       have h8 := hx.2
       rw [hk9, List.take_length] at h8 ⊢; exact if_pos h8
     refine ST.exit ?_; simp only [Ex.then, Ex.ib]; try simp only [if_true, if_false, reduceIte]
     refine hK1 _ ?_; refine ST.regionK fun K hK => ?_; simp -implicitDefEqProofs; repeat (refine And.intro (by clear hK; first | omega | (intros; simp_all; done) | (intros; grind)) ?_)
     refine hK _ ?_; clear hK K; refine ST.ret ?_; simp [Ex.then, Ex.ib]
     all_goals first
       | (rw [hres]; done)
       | fail)
   rotate_right
   case' _ =>
    intro hb1
    first
    | (exfalso; simp at hb1; done)
    | (exfalso; simp at hb1; omega)
    | (
     have hlt : k < e.gs.length := by simp at hb1; omega
     obtain ⟨g, hgk⟩ : ∃ g, e.gs[k]? = some g := ⟨_, List.getElem?_eq_getElem hlt⟩
     have hgE : ∀ h, e.gs[k]'h = g := fun h => (List.getElem?_eq_some_iff.1 hgk).2
     have hwt := wt_at hgk
     have hcs := catG_size 0 (e.gs.take k)
     have hnk := numB_size k
     have hhd := headB_size k g
     refine ST.skip ?_; refine hK2 _ ?_; refine ST.seqK fun K3 hK3 => ?_; refine ST.block ?_; refine ST.regionK fun K hK => ?_; simp -implicitDefEqProofs [hgk, hgE, hlt]
     repeat (refine And.intro (by clear hK; first | omega | (intros; simp_all; done) | (intros; grind)) ?_)
     refine hK _ ?_; clear hK K; refine ST.seqK fun K4 hK4 => ?_; refine ST.regionK fun K hK => ?_; simp -implicitDefEqProofs; repeat (refine And.intro (by clear hK; first | omega | (intros; simp_all; done) | (intros; grind)) ?_)
     refine hK _ ?_; clear hK K; refine ST.cond _ rfl (by simp) ?_ ?_
     case' refine_2 =>
      intro hb2
      first
      | (exfalso; simp at hb2; done)
      | (exfalso; simp at hb2; omega)
      | (
       obtain ⟨s, hs1, hs2, hs4⟩ : ∃ s : Nat, (g.state - 1).toNat = s ∧ g.state - 1 = s ∧ s < 4 := st_cases (by simp at hb2; omega) (by simp at hb2; omega)
       have hws : IntKind.i64.wrap (g.state - 1) = s := by rw [wrapI _ (by omega) (by omega)]; exact hs2
       have hst : ∀ h, ([[AV.str ⟨#[114, 101, 97, 100, 121]⟩], [AV.str ⟨#[119, 97, 105, 116]⟩], [AV.str ⟨#[100, 111, 110, 101]⟩], [AV.str ⟨#[100, 101, 97, 100]⟩]] : List (List AV))[s]'h = [AV.str (stW s)] := by
         intro h; rcases s with _ | _ | _ | _ | s
         · rfl
         · rfl
         · rfl
         · rfl
         · omega
       have hsz := stW_size s
       have hhE : headB k g = goB ++ (numB k ++ (spB ++ (stW s ++ nlB))) := by unfold headB; rw [hs1]
       refine ST.skip ?_; refine hK4 _ ?_
       refine ST.drawK mixed [.q [(0, false), (1, false), (2, false), (3, false), (4, false), (6, false), (7, false), (8, false), (5, true), (9, false), (10, false), (11, false), (12, false), (13, false), (14, false)]] (by kernel_rfl) rfl fun K hK => ?_
       simp -implicitDefEqProofs [ByteArray.size_append, bsz, hws, hst, hs4]; repeat (refine And.intro (by clear hK; first | omega | (intros; simp_all; done) | (intros; grind)) ?_)
       first
         | refine CallQ.fzE (numT_i k) (by simp) ?_
         | refine CallK.fzE (numT_i k) (by simp) ?_
       simp -implicitDefEqProofs [ByteArray.size_append, bsz, hws, hst, hs4]; repeat (refine And.intro (by clear hK; first | omega | (intros; simp_all; done) | (intros; grind)) ?_)
       refine hK _ ?_; clear hK K; refine ST.regionK fun K hK => ?_; simp -implicitDefEqProofs; repeat (refine And.intro (by clear hK; first | omega | (intros; simp_all; done) | (intros; grind)) ?_)
       refine hK _ ?_; clear hK K; refine ST.block ?_
       refine ST.loop (α := Nat) (fun j => ⟨[(42, .int .i64 j), (41, .int .i64 g.trace.length), (40, .fz (ItemS g.trace)), (3, .str (catG 0 (e.gs.take k) ++ (headB k g ++ trB (g.trace.take j)))), (12, .int .i64 k), (11, .int .i64 e.gs.length), (10, .fz (GorSf e.gs)), (1, .ptr 0 0 0)], [some ⟨3, [e.fr]⟩]⟩) (fun j => j ≤ g.trace.length ∧ trOk (g.trace.take j) = true) (fun j => g.trace.length - j) (0) ?_ ?_ (fun j hx => ?_)
       case' refine_1 =>
        exact ⟨by omega, by simp [trOk]⟩
       case' refine_2 =>
        exact Wk.cut (by simp) (by simp [subE, trB, app_nb, hhE, ByteArray.append_assoc]) (by simp [cutH]) (by simp [lowE, lowN]) (by simp [lowB, lowN])
       case' refine_3 =>
        skip
        refine ST.regionK fun K hK => ?_; simp -implicitDefEqProofs; repeat (refine And.intro (by clear hK; first | omega | (intros; simp_all; done) | (intros; grind)) ?_)
        refine hK _ ?_; clear hK K; refine ST.seqK fun K5 hK5 => ?_; refine ST.cond _ rfl (by simp) ?_ ?_
        case' refine_2 =>
         intro hb3
         first
         | (exfalso; simp at hb3; done)
         | (exfalso; simp at hb3; omega)
         | (
          have hjt : j = g.trace.length := by simp at hb3; omega
          have hgo : gOk g = true := by
            have h8 := hx.2
            rw [hjt, List.take_length] at h8; simp only [gOk, Bool.and_eq_true, decide_eq_true_eq]; exact ⟨by omega, h8⟩
          have hnx := gOk_next hgk hxo.2 hgo
          have hct := catG_take hgk
          have htk : g.trace.take j = g.trace := by rw [hjt, List.take_length]
          refine ST.exit ?_; simp only [Ex.then, Ex.ib]; try simp only [if_true, if_false, reduceIte]
          refine hK3 _ ?_; refine ST.regionE fun K hK => ?_; simp -implicitDefEqProofs; repeat (refine And.intro (by clear hK; first | omega | (intros; simp_all; done) | (intros; grind)) ?_)
          refine hK _ ?_; clear hK K; refine ⟨k + 1, ⟨by omega, hnx⟩, by omega, ?_⟩
          exact Wk.cut (by simp) (by simp [subE, hct, htk, gorB, wrap1 k (by omega)]) (by simp [cutH]) (by simp [lowE, lowN]) (by simp [lowB, lowN]))
        rotate_right
        case' _ =>
         intro hb3
         first
         | (exfalso; simp at hb3; done)
         | (exfalso; simp at hb3; omega)
         | (
          have hjt : j < g.trace.length := by simp at hb3; omega
          obtain ⟨i, hik⟩ : ∃ i, g.trace[j]? = some i := ⟨_, List.getElem?_eq_getElem hjt⟩
          have hiE : ∀ h, g.trace[j]'h = i := fun h => (List.getElem?_eq_some_iff.1 hik).2
          have hts := trB_size (g.trace.take j)
          have hjl : (g.trace.take j).length = j := by rw [List.length_take]; omega
          have his := itT_size i
          refine ST.skip ?_; refine hK5 _ ?_; refine ST.seqK fun K6 hK6 => ?_; refine ST.block ?_; refine ST.regionK fun K hK => ?_; simp -implicitDefEqProofs [hik, hiE, hjt]
          repeat (refine And.intro (by clear hK; first | omega | (intros; simp_all; done) | (intros; grind)) ?_)
          refine hK _ ?_; clear hK K; refine ST.regionTK fun K hK => ?_; simp -implicitDefEqProofs; refine CallT.fzE (itText_i i) (by simp) ?_; simp -implicitDefEqProofs; refine hK _ ?_; clear hK K; refine ST.seqK fun K7 hK7 => ?_
          refine ST.regionK fun K hK => ?_; simp -implicitDefEqProofs; repeat (refine And.intro (by clear hK; first | omega | (intros; simp_all; done) | (intros; grind)) ?_)
          refine hK _ ?_; clear hK K; refine ST.cond _ rfl (by simp) ?_ ?_
          case' refine_2 =>
           intro hb4
           first
           | (exfalso; simp at hb4; done)
           | (exfalso; simp at hb4; omega)
           | (
            have hni : ¬ itT i = noB := by simpa using hb4
            have hnj := trOk_next hik hx.2 hni
            have htj := trB_take hik
            refine ST.skip ?_; refine hK7 _ ?_; refine ST.regionE fun K hK => ?_; simp -implicitDefEqProofs [ByteArray.size_append, bsz]; repeat (refine And.intro (by clear hK; first | omega | (intros; simp_all; done) | (intros; grind)) ?_)
            refine hK _ ?_; clear hK K; refine hK6 _ ?_; refine ST.regionE fun K hK => ?_; simp -implicitDefEqProofs; repeat (refine And.intro (by clear hK; first | omega | (intros; simp_all; done) | (intros; grind)) ?_)
            refine hK _ ?_; clear hK K; refine ⟨j + 1, ⟨by omega, hnj⟩, by omega, ?_⟩
            exact Wk.cut (by simp) (by simp [subE, htj, lnB, ByteArray.append_assoc, wrap1 j (by omega)]) (by simp [cutH]) (by simp [lowE, lowN]) (by simp [lowB, lowN]))
          rotate_right
          case' _ =>
           intro hb4
           first
           | (exfalso; simp at hb4; done)
           | (exfalso; simp at hb4; omega)
           | (
            have hres : engT e = noB := engT_no hgk (by
              have h8 := trOk_no hik (by simpa using hb4)
              unfold gOk
              rw [h8]; simp)
            refine ST.regionK fun K hK => ?_; simp -implicitDefEqProofs; repeat (refine And.intro (by clear hK; first | omega | (intros; simp_all; done) | (intros; grind)) ?_)
            refine hK _ ?_; clear hK K; refine ST.ret ?_; simp [Ex.then, Ex.ib]
            all_goals first
              | (rw [hres]; done)
              | fail)))
     rotate_right
     case' _ =>
      intro hb2
      first
      | (exfalso; simp at hb2; done)
      | (exfalso; simp at hb2; omega)
      | (
       have hres : engT e = noB := engT_no hgk (by
         cases h9 : gOk g with
         | false => rfl
         | true =>
           exfalso; simp only [gOk, Bool.and_eq_true, decide_eq_true_eq] at h9; simp at hb2
           omega)
       refine ST.regionK fun K hK => ?_; simp -implicitDefEqProofs; repeat (refine And.intro (by clear hK; first | omega | (intros; simp_all; done) | (intros; grind)) ?_)
       refine hK _ ?_; clear hK K; refine ST.ret ?_; simp [Ex.then, Ex.ib]
       all_goals first
         | (rw [hres]; done)
         | fail))
end HT
