import Derived.Test.YtdhoappjadnhcaaGreatHCA4
/-
  My own texts (road H): HCA5.
-/
set_option maxHeartbeats 8000000
set_option linter.unusedSimpArgs false
set_option linter.unusedVariables false
namespace HT
open Go Go.Proofs HK
theorem frE {f : FuncId} {args : List AV} {out : AV} {gs gs' : List Gor} {cs cs' : List Chan} {ms ms' : List Mutex} {ext : Heap}
    (hc : CallS Tryz.prog f args [some ⟨5, GorSo gs⟩, some ⟨5, ChanSo cs⟩, some ⟨2, MutexSo ms⟩] (fun o h' => o = out ∧ h' = [some ⟨5, GorSo gs'⟩, some ⟨5, ChanSo cs'⟩, some ⟨2, MutexSo ms'⟩] ++ ext))
    (ha : args.map (renN [0, 1, 2] 4) = args) (hl : args.all (lowN 4 3) = true) (ho : ∀ n, renN ([0, 1, 2] ++ n) 4 out = out) (hol : lowN 4 (3 + ext.length) out = true) (hon : nfz 4 out = true)
    (he : ∀ n, ext.map (renB ([0, 1, 2] ++ n)) = ext) (hen : ∀ x ∈ ext, nfzB (3 + ext.length) x = true) (rest : Heap) :
    CallS Tryz.prog f args (some ⟨5, GorSo gs⟩ :: some ⟨5, ChanSo cs⟩ :: some ⟨2, MutexSo ms⟩ :: rest) (fun o h' => o = out ∧ h' = some ⟨5, GorSo gs'⟩ :: some ⟨5, ChanSo cs'⟩ :: some ⟨2, MutexSo ms'⟩ :: (rest ++ ext)) := by
  refine CallS.mono (CallS.frame [0, 1, 2] hc ha.symm (by simpa using hl) (by simp) (by simp) (by simp [renH]) (by simp) (by simp) ?_) ?_
  · rintro o h' ⟨rfl, rfl⟩
    have hL : List.length (α := Option Blk) ([some ⟨5, GorSo gs'⟩, some ⟨5, ChanSo cs'⟩, some ⟨2, MutexSo ms'⟩] ++ ext) = 3 + ext.length := by simp; omega
    refine ⟨by simp, ?_, by rw [hL]; exact hol, hon⟩; intro x hx; rw [hL]; rcases List.mem_append.1 hx with hx | hx
    · simp only [List.mem_cons, List.not_mem_nil, or_false] at hx
      rcases hx with rfl | rfl | rfl
      · exact GorSo_nfz _ _
      · exact ChanSo_nfz _ _
      · exact MutexSo_nfz _ _
    · exact hen x hx
  · rintro o h' ⟨o0, h0, ⟨rfl, rfl⟩, rfl, rfl⟩
    refine ⟨ho _, ?_⟩; unfold frameH; rw [List.map_append, fids, he]; simp [merge, setAll]
def bitI (b : Bool) : Int := if b then 1 else 0
def okV (v : Int) (ok : Bool) : Int := if ok then v else 0
def gotG (g : Gor) (ch v : Int) (ok : Bool) (reg okReg : Int) : Gor := setR (setR (tell g ⟨2, ch, okV v ok, ok⟩) reg (okV v ok)) okReg (bitI ok)
theorem setR_all (g : Gor) (r v : Int) : (setR g r v).regs.length = g.regs.length ∧ (setR g r v).trace = g.trace ∧ (setR g r v).pc = g.pc ∧ (setR g r v).proc = g.proc ∧ (setR g r v).state = g.state := by
  unfold setR; split <;> simp
theorem tell_all (g : Gor) (i : Item) : (tell g i).regs = g.regs ∧ (tell g i).trace.length = g.trace.length + 1 ∧ (tell g i).pc = g.pc := by simp [tell]
theorem gotG_all (g : Gor) (ch v : Int) (ok : Bool) (reg okReg : Int) : (gotG g ch v ok reg okReg).regs.length = g.regs.length ∧ (gotG g ch v ok reg okReg).trace.length = g.trace.length + 1 := by
  unfold gotG; have h1 := setR_all (setR (tell g ⟨2, ch, okV v ok, ok⟩) reg (okV v ok)) okReg (bitI ok)
  have h2 := setR_all (tell g ⟨2, ch, okV v ok, ok⟩) reg (okV v ok)
  have h3 := tell_all g ⟨2, ch, okV v ok, ok⟩
  rw [h1.1, h1.2.1, h2.1, h2.2.1, h3.1, h3.2.1]; exact ⟨rfl, rfl⟩
theorem over_all (g : Gor) (why : Int) : (over g why).regs = g.regs ∧ (over g why).trace.length = g.trace.length + 1 ∧ (over g why).pc = g.pc := by
  unfold over; split <;> simp
theorem bit_i (b : Bool) : Fn Tryz.prog 209 [.bool b] (.int .i64 (bitI b)) := by
  refine Fn.intro Tryz.func209 (by decide) rfl (rs := [.tmp 2]) rfl Tryz.ntmps209 (by simp) ?_; refine SW.ra ?_; refine SW.seqK fun K1 hK1 => ?_; refine SW.ra ?_; refine SW.cond _ rfl (by simp) ?_ ?_
  case' refine_2 =>
   intro hb1; refine SW.skip ?_; refine hK1 _ ?_; refine SW.ra ?_; refine SW.ret ?_; simp [Ex.then, Ex.ib]
   all_goals (cases b <;> simp_all [bitI])
  rotate_right
  case' _ =>
   intro hb1; refine SW.ra ?_; refine SW.ret ?_; simp [Ex.then, Ex.ib]
   all_goals (cases b <;> simp_all [bitI])
theorem bit_s (b : Bool) : Fn Tryz.prog 191 [.bool b] (.int .i64 (bitI b)) := by
  refine Fn.intro Tryz.func191 (by decide) rfl (rs := [.tmp 2]) rfl Tryz.ntmps191 (by simp) ?_; refine SW.ra ?_; refine SW.seqK fun K1 hK1 => ?_; refine SW.ra ?_; refine SW.cond _ rfl (by simp) ?_ ?_
  case' refine_2 =>
   intro hb1; refine SW.skip ?_; refine hK1 _ ?_; refine SW.ra ?_; refine SW.ret ?_; simp [Ex.then, Ex.ib]
   all_goals (cases b <;> simp_all [bitI])
  rotate_right
  case' _ =>
   intro hb1; refine SW.ra ?_; refine SW.ret ?_; simp [Ex.then, Ex.ib]
   all_goals (cases b <;> simp_all [bitI])
theorem got_i (g : Gor) (ch v : Int) (ok : Bool) (reg okReg : Int) (hl : g.regs.length ≤ 2 ^ 28) (ht : g.trace.length ≤ 2 ^ 28) : Fn Tryz.prog 135 [.agg g.fr, .int .i64 ch, .int .i64 v, .bool ok, .int .i64 reg, .int .i64 okReg] (.agg (gotG g ch v ok reg okReg).ow) := by
  refine Fn.intro Tryz.func135 (by decide) rfl (rs := [.cell 12 97]) rfl Tryz.ntmps135 (by simp) ?_; have h1 := tell_all g ⟨2, ch, okV v ok, ok⟩
  have h2 := setR_all (tell g ⟨2, ch, okV v ok, ok⟩) reg (okV v ok)
  refine SW.rb ?_; refine SW.seqK fun K1 hK1 => ?_; refine SW.rb ?_; refine SW.cond _ rfl (by simp) ?_ ?_
  case' refine_2 =>
   intro hb1; have hok : ok = true := by simpa using hb1
   have hv : okV v ok = v := by rw [hok]; rfl
   rw [hok] at h1 h2; refine SW.skip ?_
  rotate_right
  case' _ =>
   intro hb1; have hok : ok = false := by simpa using hb1
   have hv : okV v ok = 0 := by rw [hok]; rfl
   rw [hok] at h1 h2; refine SW.eb ?_
  all_goals (
   refine hK1 _ ?_; refine SW.rg fun K hK => ?_; simp -implicitDefEqProofs; repeat (refine And.intro (by clear hK; first | omega | (intros; simp_all; done) | (intros; grind)) ?_)
   refine CallK.imE (tell_i g ⟨2, ch, okV v ok, ok⟩ (by omega) (by omega)) (by simp [hv]) (Gor_oI _) ?_; simp -implicitDefEqProofs; repeat (refine And.intro (by clear hK; first | omega | (intros; simp_all; done) | (intros; grind)) ?_)
   refine hK _ ?_; clear hK K; refine SW.rg fun K hK => ?_; simp -implicitDefEqProofs; repeat (refine And.intro (by clear hK; first | omega | (intros; simp_all; done) | (intros; grind)) ?_)
   refine CallK.imE (setReg_i (tell g ⟨2, ch, okV v ok, ok⟩) reg (okV v ok) (by rw [(tell_all _ _).1]; omega) (by rw [(tell_all _ _).2.1]; omega)) (by simp [hv]) (Gor_oI _) ?_; simp -implicitDefEqProofs
   repeat (refine And.intro (by clear hK; first | omega | (intros; simp_all; done) | (intros; grind)) ?_)
   first
     | refine CallQ.fzE (bit_i ok) (by simp) ?_
     | refine CallK.fzE (bit_i ok) (by simp) ?_
   simp -implicitDefEqProofs; repeat (refine And.intro (by clear hK; first | omega | (intros; simp_all; done) | (intros; grind)) ?_)
   refine CallK.imE (setReg_i (setR (tell g ⟨2, ch, okV v ok, ok⟩) reg (okV v ok)) okReg (bitI ok) (by rw [(setR_all _ _ _).1, (tell_all _ _).1]; omega) (by rw [(setR_all _ _ _).2.1, (tell_all _ _).2.1]; omega)) (by simp [hv]) (Gor_oI _) ?_
   simp -implicitDefEqProofs; repeat (refine And.intro (by clear hK; first | omega | (intros; simp_all; done) | (intros; grind)) ?_)
   refine hK _ ?_; clear hK K; refine SW.ret ?_; simp [Ex.then, Ex.ib, -strN]
   all_goals first
     | done
     | exact ⟨⟨rfl, rfl, rfl⟩, rfl, rfl, rfl, rfl, rfl⟩
     | fail)
theorem got_s (g : Gor) (ch v : Int) (ok : Bool) (reg okReg : Int) (hl : g.regs.length ≤ 2 ^ 28) (ht : g.trace.length ≤ 2 ^ 28) : Fn Tryz.prog 112 [.agg g.fr, .int .i64 ch, .int .i64 reg, .int .i64 okReg, .int .i64 v, .bool ok] (.agg (gotG g ch v ok reg okReg).ow) := by
  refine Fn.intro Tryz.func112 (by decide) rfl (rs := [.cell 12 97]) rfl Tryz.ntmps112 (by simp) ?_; have h1 := tell_all g ⟨2, ch, okV v ok, ok⟩
  have h2 := setR_all (tell g ⟨2, ch, okV v ok, ok⟩) reg (okV v ok)
  refine SW.rb ?_; refine SW.seqK fun K1 hK1 => ?_; refine SW.rb ?_; refine SW.cond _ rfl (by simp) ?_ ?_
  case' refine_2 =>
   intro hb1; have hok : ok = true := by simpa using hb1
   have hv : okV v ok = v := by rw [hok]; rfl
   rw [hok] at h1 h2; refine SW.skip ?_
  rotate_right
  case' _ =>
   intro hb1; have hok : ok = false := by simpa using hb1
   have hv : okV v ok = 0 := by rw [hok]; rfl
   rw [hok] at h1 h2; refine SW.eb ?_
  all_goals (
   refine hK1 _ ?_; refine SW.rg fun K hK => ?_; simp -implicitDefEqProofs; repeat (refine And.intro (by clear hK; first | omega | (intros; simp_all; done) | (intros; grind)) ?_)
   refine CallK.imE (tell_s g ⟨2, ch, okV v ok, ok⟩ (by omega) (by omega)) (by simp [hv]) (Gor_oI _) ?_; simp -implicitDefEqProofs; repeat (refine And.intro (by clear hK; first | omega | (intros; simp_all; done) | (intros; grind)) ?_)
   refine hK _ ?_; clear hK K; refine SW.rg fun K hK => ?_; simp -implicitDefEqProofs; repeat (refine And.intro (by clear hK; first | omega | (intros; simp_all; done) | (intros; grind)) ?_)
   refine CallK.imE (setReg_s (tell g ⟨2, ch, okV v ok, ok⟩) reg (okV v ok) (by rw [(tell_all _ _).1]; omega) (by rw [(tell_all _ _).2.1]; omega)) (by simp [hv]) (Gor_oI _) ?_; simp -implicitDefEqProofs
   repeat (refine And.intro (by clear hK; first | omega | (intros; simp_all; done) | (intros; grind)) ?_)
   first
     | refine CallQ.fzE (bit_s ok) (by simp) ?_
     | refine CallK.fzE (bit_s ok) (by simp) ?_
   simp -implicitDefEqProofs; repeat (refine And.intro (by clear hK; first | omega | (intros; simp_all; done) | (intros; grind)) ?_)
   refine CallK.imE (setReg_s (setR (tell g ⟨2, ch, okV v ok, ok⟩) reg (okV v ok)) okReg (bitI ok) (by rw [(setR_all _ _ _).1, (tell_all _ _).1]; omega) (by rw [(setR_all _ _ _).2.1, (tell_all _ _).2.1]; omega)) (by simp [hv]) (Gor_oI _) ?_
   simp -implicitDefEqProofs; repeat (refine And.intro (by clear hK; first | omega | (intros; simp_all; done) | (intros; grind)) ?_)
   refine hK _ ?_; clear hK K; refine SW.ret ?_; simp [Ex.then, Ex.ib, -strN]
   all_goals first
     | done
     | exact ⟨⟨rfl, rfl, rfl⟩, rfl, rfl, rfl, rfl, rfl⟩
     | fail)
theorem gave_i (g : Gor) (ch v : Int) (hl : g.regs.length ≤ 2 ^ 28) (ht : g.trace.length ≤ 2 ^ 28) : Fn Tryz.prog 134 [.agg g.fr, .int .i64 ch, .int .i64 v] (.agg (tell g ⟨1, ch, v, false⟩).ow) := by
  refine Fn.intro Tryz.func134 (by decide) rfl (rs := [.cell 6 97]) rfl Tryz.ntmps134 (by simp) ?_; refine SW.ra ?_; refine SW.rg fun K hK => ?_; simp -implicitDefEqProofs; iterate 2 (try refine ⟨by omega, ?_⟩)
  refine CallK.imE (tell_i g ⟨1, ch, v, false⟩ (by omega) (by omega)) (by simp) (Gor_oI _) ?_; simp -implicitDefEqProofs; repeat refine ⟨by omega, ?_⟩
  refine hK _ ?_; clear hK K; refine SW.ret ?_; simp [Ex.then, Ex.ib, -strN]
  all_goals first
    | done
    | exact ⟨rfl, rfl, rfl⟩
    | fail
end HT
