import Derived.Test.YtjalahhkhcmjaaaDoorHLQE
import Derived.Test.YtjalahhkhcmjaaaDoorRows
import Derived.Test.YtjalahhkhcmjaaaDoorCards
import Derived.Test.YtjalahhkhcmjaaaDoorTie
import Derived.Test.YtjalahhkhcmjaaaDoorG3
import Derived.Deep.DeepHandedRow
import Derived.Deep.DeepWitnessRowRef
import Derived.LaidMore
import Derived.Lib.LaidTab
import Derived.MakeChecks
/-
  My own texts (road H): HLQF.
-/
namespace HT
open Go Go.Proofs HK Go.RowKit Go.ChangeShapes
theorem own_c : ownKnob Tryd.prog.godebug = none := by kernel_rfl
theorem gTabType : (Tryd.prog.globals[gA]?).map (·.type) = some 89 := by kernel_rfl
theorem tab_c : (YtjalahhkhcmjaaaDoor.Rows.fnExactEngTextRow.laid.filter fun x => x.1 == "strings.asciiSpace") = [("strings.asciiSpace", Lib.tabData .u8 Lib.asciiSpaceTab)] := by kernel_rfl
theorem tab_of {W : World} (h : laidMetH Tryd.prog YtjalahhkhcmjaaaDoor.Rows.fnExactEngTextRow.laid W) : ∃ T z, W.heap[gA]? = some (.cells tabA T z) := by
  have h1 := h.filter fun x => x.1 == "strings.asciiSpace"
  rw [tab_c] at h1
  have h3 : Lib.TabIs Tryd.prog W "strings.asciiSpace" .u8 Lib.asciiSpaceTab := Lib.tabIs_of_head (rest := []) gTabA gTabType Tryd.underlying89 Tryd.underlying5 (by kernel_rfl) (by kernel_rfl) h1
  unfold Lib.TabIs World.var? at h3; rw [gTabA] at h3; simp only [Option.bind_some] at h3; split at h3
  · rename_i cs T z hc
    cases h3
    exact ⟨T, z, hc⟩
  · cases h3
theorem door_met (os : Os) (args : Array Value) : laidMetH Tryd.prog YtjalahhkhcmjaaaDoor.Rows.fnExactEngTextRow.laid ((World.doorLaid Tryd.prog 33 os).forCall (fun _ _ => 0) ⟨#[], args, []⟩).memory :=
  laidMetH_of_parts3 (fuel := 8) (laidMet_of_run' 8 (by kernel_rfl) (by kernel_rfl)) (by kernel_rfl) (by kernel_rfl)
def witA : Array Value := #[.agg #[.slice none 0 0, .slice none 0 0, .slice none 0 0]]
theorem reads_c (os : Os) {H : Type} (enc : TypeId × Value → H) : ∃ places, DataW.whole enc Tryd.prog ((World.doorLaid Tryd.prog 33 os).forCall (fun _ _ => 0) ⟨#[], witA, []⟩).memory Tryd.f3.params.toList YtjalahhkhcmjaaaDoor.Rows.fnExactEngTextSpec.vars false witA.toList 8 = some ([.agg [.nil, .nil, .nil]], [], places) :=
  ⟨[], by kernel_rfl⟩
set_option maxRecDepth 100000 in
theorem lifted_c (os : Os) (started : os.Started) (H : Type) (enc : TypeId × Value → H) (F : Stop.Interp) :
    ReturnsInHanded {} Tryd.checked os 3 .any ((OpenSpec.ofChange YtjalahhkhcmjaaaDoor.Rows.fnExactEngTextSpec).preRow enc Tryd.prog Tryd.f3 YtjalahhkhcmjaaaDoor.Rows.fnExactEngTextRow.domain false YtjalahhkhcmjaaaDoor.Rows.fnExactEngTextRow.laid) (((OpenSpec.ofChange YtjalahhkhcmjaaaDoor.Rows.fnExactEngTextSpec).at F).post enc Tryd.prog Tryd.f3 false true false false) := by
  obtain ⟨places, hx⟩ := reads_c os enc
  refine returnsInHanded_of_row (C := Tryd.checked) (s := OpenSpec.ofChange YtjalahhkhcmjaaaDoor.Rows.fnExactEngTextSpec) own_c started (by kernel_rfl) Tryd.func3
    (witness_row_atRef (enc := enc) (C := Tryd.checked) false (World.doorLaid Tryd.prog 33 os) witA rfl (by kernel_rfl) (by kernel_rfl) (by kernel_rfl)
      (OpenSpec.preRow_of_cond 8 hx (by kernel_rfl) (fun k hk => by cases hk) (by kernel_rfl) (door_met os _))) ?_
  intro W base args ds gs before hval hW _ _ _ hL _ _; have hts : Tryd.f3.params.toList = [26] := by kernel_rfl
  have hres : Tryd.f3.resultTypes = #[4] := by kernel_rfl
  have hv : YtjalahhkhcmjaaaDoor.Rows.fnExactEngTextSpec.vars = [] := rfl
  have hl : laidOutB Tryd.prog = true := by kernel_rfl
  have hr : ([26].all fun t => Tryd.prog.readableRec t && decide (t < Tryd.prog.types.size)) = true := by kernel_rfl
  have hs : ∀ ds : List (DataW H), ds.length = 1 → YtjalahhkhcmjaaaDoor.Rows.fnExactEngTextSpec.fn H ds = { results := [.lit (.bool true)], args := ds } := fun ds hd => by
    match ds, hd with
    | [d], _ => rfl
  have hA : AReads Tryd.prog [26] (fun a : Eng × Unit => .agg a.1.fr :: []) (fun a => a.1.fit ∧ True) := AReads.cons (rdEng.aggV (by kernel_rfl)) AReads.nil
  have hW' := hW
  obtain ⟨p, q, hA0, hV, rfl, hfz, hnd⟩ := hW
  replace hV : DataW.TrodVars enc Tryd.prog W (fun _ => true) YtjalahhkhcmjaaaDoor.Rows.fnExactEngTextSpec.vars gs q := hV
  replace hA0 : DataW.TrodAll enc Tryd.prog W 0 (fun _ => true) true Tryd.f3.params.toList args.toList ds p := hA0
  rw [hts] at hA0; rw [hv] at hV; have hg : gs = [] ∧ q = [] := by cases gs <;> simp [DataW.TrodVars] at hV; exact ⟨rfl, hV⟩
  obtain ⟨rfl, rfl⟩ := hg; obtain ⟨a, k1, k2⟩ := hA H enc W base args.toList ds p (fun j t v e1 e2 => hval j t v (by rw [← hts] at e1; simpa using e1) (by simpa using e2)) hA0
  refine ((law_engText a.1 k1.1).2 W args.toList (tab_of hL) k2).mono fun e W' ⟨v, S, he, hvr, _, _, hfr⟩ => ?_; cases hvr
  have hb : Below W.heap.size W W' := hfr.below
  have hlt : ∀ x ∈ p, x.block < W.heap.size := fun x hx => by simpa using hW'.lt x (by simpa using hx)
  have hr' : ∀ t ∈ [26], Tryd.prog.readableRec t = true ∧ t < Tryd.prog.types.size := fun t ht => by simpa using List.all_eq_true.1 hr t ht
  obtain ⟨m1, m2, m3⟩ := trodAll_below hl hb hr' hA0 hlt; refine ⟨_, he, ds, [], p ++ [], [], p, [], hW', ?_, ?_, ?_, hb.frame _, fun h => by cases h⟩
  · rw [List.append_nil]
    show DataW.TrodAll _ _ _ _ _ _ _ _ (YtjalahhkhcmjaaaDoor.Rows.fnExactEngTextSpec.fn H ds).results _
    rw [hs ds m3, hres]; exact trodAll_mk1 (shut_bool Tryd.underlying4 _)
  · rw [List.append_nil]
    show DataW.TrodAll _ _ _ _ _ _ _ _ (YtjalahhkhcmjaaaDoor.Rows.fnExactEngTextSpec.fn H ds).args _
    rw [hs ds m3, hts]; exact m1
  · rw [List.append_nil]
    show DataW.TrodVars _ _ _ _ YtjalahhkhcmjaaaDoor.Rows.fnExactEngTextSpec.vars (YtjalahhkhcmjaaaDoor.Rows.fnExactEngTextSpec.fn H ds).vars _
    rw [hs ds m3]; rfl
theorem said_c : YtjalahhkhcmjaaaDoor.Rows.FnExactEngTextSaid :=
  OpenClaim.holds_of_cond 3 Tryd.f3 rfl rfl rfl rfl rfl rfl rfl ⟨rfl, rfl, rfl, rfl, rfl⟩ rfl rfl rfl rfl rfl (by kernel_rfl) Tryd.func3 (by kernel_rfl)
    (of_decide_eq_true (by kernel_rfl)) (by unfold Func.isWrapper; first | (rw [if_pos (by decide +kernel)]; kernel_rfl) | (rw [if_neg (by decide +kernel)]; exact ⟨rfl, rfl⟩))
    (fun os started H enc _ F => by rw [OpenClaim.pre_eq_preRow]; exact lifted_c os started H enc F)
theorem plain_c (f : FuncId) (fn : Func) (hf : YtjalahhkhcmjaaaDoor.Tryd.pinned.checked.prog.funcNamed "loop.example/g00679/laws.FnExactEngText" = some f) (hfn : YtjalahhkhcmjaaaDoor.Tryd.pinned.checked.prog.funcs[f]? = some fn) :
    false = YtjalahhkhcmjaaaDoor.Tryd.pinned.checked.prog.looks [] ∧ ∀ (j : Nat) t, fn.params[j]? = some t → YtjalahhkhcmjaaaDoor.Tryd.pinned.checked.prog.wantsStandIn t = false := by
  obtain rfl : f = 3 := Option.some.inj ((show Tryd.prog.funcNamed "loop.example/g00679/laws.FnExactEngText" = some 3 by kernel_rfl).symm.trans hf) |>.symm
  obtain rfl : fn = Tryd.f3 := (Option.some.inj (Tryd.func3.symm.trans hfn)).symm; refine ⟨by kernel_rfl, fun j t ht => ?_⟩; have hts : Tryd.f3.params = #[26] := by kernel_rfl
  rw [hts] at ht; obtain rfl : t = 26 := by simpa using Array.mem_of_getElem? ht
  exact (show Tryd.prog.wantsStandIn 26 = false by kernel_rfl)
theorem card_c : YtjalahhkhcmjaaaDoor.Rows.FnExactEngTextCardSaid :=
  Claim7.holds_tied_plain_at .later [] _ _ _ _ said_c (fun _ h => by cases h) (by kernel_rfl) (fun _ h => by cases h) YtjalahhkhcmjaaaDoor.fnExactEngText_row_tie rfl ⟨rfl, rfl⟩ (by kernel_rfl) rfl plain_c (by kernel_rfl)
end HT
namespace Go.Proofs.YtjalahhkhcmjaaaDoor
theorem engText_holds : Rows.FnExactEngTextCardSaid := HT.card_c
end Go.Proofs.YtjalahhkhcmjaaaDoor
