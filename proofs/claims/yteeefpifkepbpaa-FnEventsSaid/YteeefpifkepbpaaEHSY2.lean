import Derived.Test.YteeefpifkepbpaaEHSU
import Derived.Test.YteeefpifkepbpaaEHSB
import Derived.Test.YteeefpifkepbpaaEHK55
/-
  My own texts (road H): HSY2.
-/
set_option linter.unusedSimpArgs false
set_option linter.unusedVariables false
namespace HS
open Go Go.Proofs HK
abbrev cur (code : List Int) (i h : Int) : Blk := ⟨3, [[.fz (YS code), .int .i64 i, .int .i64 h]]⟩
theorem and255 (x : Int) : 0 ≤ bitv .and .i64 x 255 ∧ bitv .and .i64 x 255 < 256 := by
  unfold bitv; simp only []
  have h1 : (BitVec.ofInt (IntKind.bits .i64) x &&& BitVec.ofInt (IntKind.bits .i64) 255).toNat ≤ 255 := by
    rw [BitVec.toNat_and]; exact Nat.and_le_right
  rw [wrapI _ (by omega) (by omega)]; omega
theorem tm_b {x n : Int} (h0 : 0 ≤ x) (hn : 0 < n) : 0 ≤ x.tmod n ∧ x.tmod n < n := ⟨Int.tmod_nonneg _ h0, Int.tmod_lt_of_pos _ hn⟩
set_option maxHeartbeats 1000000 in
theorem byte0 (code : List Int) (hl : code.length ≤ 2 ^ 40) (i c : Int) (hi0 : 0 ≤ i) (hi1 : i ≤ code.length) (H : Heap) (id : Nat) (hid : id < H.length) : CallS Try.prog 92 [.ptr id 0 0] (H.set id (some (cur code i c))) (fun o h' => ∃ (x i2 c2 : Int), 0 ≤ x ∧ x < 256 ∧ 0 ≤ i2 ∧ i2 ≤ code.length ∧ o = .int .i64 x ∧ h' = H.set id (some (cur code i2 c2))) := by
  refine CallS.intro Try.func92 (by decide) rfl (rs := [.tmp 2]) rfl Try.ntmps92 (by simp) ?_; refine SW.rg fun K hK => ?_; simp -implicitDefEqProofs
  repeat (refine And.intro (by clear hK; first | omega | (intros; simp_all; done) | (intros; grind)) ?_)
  refine hK _ ?_; clear hK K; refine SW.rg fun K hK => ?_; simp -implicitDefEqProofs [hid]; repeat (refine And.intro (by clear hK; first | omega | (intros; simp_all; done) | (intros; grind)) ?_)
  refine hK _ ?_; clear hK K
  refine SW.drawK mixed [.q [(0, false), (1, false), (2, false), (3, false), (4, false), (5, false), (6, false), (7, false), (8, false), (9, false), (10, false), (11, false), (12, false)]] (by kernel_rfl) rfl fun K hK => ?_
  simp -implicitDefEqProofs [hid]; repeat (refine And.intro (by clear hK; first | omega | (intros; simp_all; done) | (intros; grind)) ?_)
  refine hK _ ?_; clear hK K; refine SW.seqK fun K1 hK1 => ?_
  refine SW.drawK mixed [.q [(0, false), (1, false), (2, false), (3, false), (4, false), (5, false), (6, false), (7, false), (8, false), (9, false)]] (by kernel_rfl) rfl fun K hK => ?_; simp -implicitDefEqProofs [hid]
  repeat (refine And.intro (by clear hK; first | omega | (intros; simp_all; done) | (intros; grind)) ?_)
  refine hK _ ?_; clear hK K; refine SW.cond _ rfl (by simp) ?_ ?_
  case' refine_2 =>
   intro hb1
   first
   | (exfalso; simp at hb1; done)
   | (exfalso; simp at hb1; omega)
   | (
    refine SW.skip ?_)
  rotate_right
  case' _ =>
   intro hb1
   first
   | (exfalso; simp at hb1; done)
   | (exfalso; simp at hb1; omega)
   | (
    have hlt : i < code.length := by simp at hb1; omega
    have hwi := wrapI (i + 1) (by omega) (by omega)
    obtain ⟨y, hxk⟩ : ∃ q, code[i.toNat]? = some q := ⟨_, List.getElem?_eq_getElem (by omega)⟩
    refine SW.drawK mixed [.q [(0, false), (1, false), (2, false), (3, false), (4, false), (5, false), (6, false), (7, false), (8, false), (9, false), (10, false), (11, false), (12, false), (13, false), (14, false)]] (by kernel_rfl) rfl fun K hK => ?_
    simp -implicitDefEqProofs [hid, hxk, hwi]; repeat (refine And.intro (by clear hK; first | omega | (intros; simp_all; done) | (intros; grind)) ?_)
    refine hK _ ?_; clear hK K; refine SW.regionE fun K hK => ?_; simp -implicitDefEqProofs [hid, hxk, hwi]; repeat (refine And.intro (by clear hK; first | omega | (intros; simp_all; done) | (intros; grind)) ?_)
    refine hK _ ?_
    clear hK K)
  all_goals (
   refine hK1 _ ?_; refine SW.rg fun K hK => ?_; simp -implicitDefEqProofs; repeat (refine And.intro (by clear hK; first | omega | (intros; simp_all; done) | (intros; grind)) ?_)
   refine hK _ ?_; clear hK K; refine SW.ret ?_; simp [Ex.then, Ex.ib]
   all_goals first
     | exact ⟨_, (and255 _).1, (and255 _).2, i, hi0, hi1, rfl, _, rfl⟩
     | exact ⟨_, (and255 _).1, (and255 _).2, i + 1, by omega, by omega, rfl, _, rfl⟩
     | fail)
set_option maxHeartbeats 1000000 in
theorem below0 (code : List Int) (hl : code.length ≤ 2 ^ 40) (i c : Int) (hi0 : 0 ≤ i) (hi1 : i ≤ code.length) (H : Heap) (id : Nat) (hid : id < H.length) (n : Int) (hn0 : 0 < n) (hn1 : n ≤ 256) : CallS Try.prog 77 [.ptr id 0 0, .int .i64 n] (H.set id (some (cur code i c))) (fun o h' => ∃ (x i2 c2 : Int), 0 ≤ x ∧ x < n ∧ 0 ≤ i2 ∧ i2 ≤ code.length ∧ o = .int .i64 x ∧ h' = H.set id (some (cur code i2 c2))) := by
  refine CallS.intro Try.func77 (by decide) rfl (rs := [.tmp 4]) rfl Try.ntmps77 (by simp) ?_; refine SW.rg fun K hK => ?_; simp -implicitDefEqProofs
  repeat (refine And.intro (by clear hK; first | omega | (intros; simp_all; done) | (intros; grind)) ?_)
  refine hK _ ?_; clear hK K; refine SW.seqK fun K1 hK1 => ?_; refine SW.rg fun K hK => ?_; simp -implicitDefEqProofs; repeat (refine And.intro (by clear hK; first | omega | (intros; simp_all; done) | (intros; grind)) ?_)
  refine hK _ ?_; clear hK K; refine SW.cond _ rfl (by simp) ?_ ?_
  case' refine_2 =>
   intro hb1
   first
   | (exfalso; simp at hb1; done)
   | (exfalso; simp at hb1; omega)
   | (
    refine SW.skip ?_; refine hK1 _ ?_; refine SW.seqK fun K2 hK2 => ?_; refine SW.rg fun K hK => ?_; simp -implicitDefEqProofs; repeat (refine And.intro (by clear hK; first | omega | (intros; simp_all; done) | (intros; grind)) ?_)
    refine hK _ ?_; clear hK K; refine SW.cond _ rfl (by simp) ?_ ?_
    case' refine_2 =>
     intro hb2
     first
     | (exfalso; simp at hb2; done)
     | (exfalso; simp at hb2; omega)
     | (
      refine SW.skip ?_; refine hK2 _ ?_; refine SW.rg fun K hK => ?_; simp -implicitDefEqProofs; repeat (refine And.intro (by clear hK; first | omega | (intros; simp_all; done) | (intros; grind)) ?_)
      refine CallS.mono (byte0 code hl i c hi0 hi1 H id hid) ?_
      rintro o h' ⟨x, i2, c2, hx0, hx1, h20, h21, rfl, rfl⟩
      simp -implicitDefEqProofs; repeat (refine And.intro (by clear hK; first | omega | (intros; simp_all; done) | (intros; grind)) ?_)
      refine hK _ ?_; clear hK K; refine SW.rg fun K hK => ?_; simp -implicitDefEqProofs; repeat (refine And.intro (by clear hK; first | omega | (intros; simp_all; done) | (intros; grind)) ?_)
      refine CallS.mono (byte0 code hl i c hi0 hi1 H id hid) ?_
      rintro o h' ⟨x, i2, c2, hx0, hx1, h20, h21, rfl, rfl⟩
      simp -implicitDefEqProofs; repeat (refine And.intro (by clear hK; first | omega | (intros; simp_all; done) | (intros; grind)) ?_)
      refine hK _ ?_; clear hK K; refine SW.rg fun K hK => ?_; simp -implicitDefEqProofs; repeat (refine And.intro (by clear hK; first | omega | (intros; simp_all; done) | (intros; grind)) ?_)
      refine CallS.mono (byte0 code hl i c hi0 hi1 H id hid) ?_
      rintro o h' ⟨x, i2, c2, hx0, hx1, h20, h21, rfl, rfl⟩
      simp -implicitDefEqProofs; repeat (refine And.intro (by clear hK; first | omega | (intros; simp_all; done) | (intros; grind)) ?_)
      refine hK _ ?_; clear hK K; refine SW.rg fun K hK => ?_; simp -implicitDefEqProofs; repeat (refine And.intro (by clear hK; first | omega | (intros; simp_all; done) | (intros; grind)) ?_)
      refine CallS.mono (byte0 code hl i c hi0 hi1 H id hid) ?_
      rintro o h' ⟨x, i2, c2, hx0, hx1, h20, h21, rfl, rfl⟩
      simp -implicitDefEqProofs; repeat (refine And.intro (by clear hK; first | omega | (intros; simp_all; done) | (intros; grind)) ?_)
      refine hK _ ?_; clear hK K; refine SW.rg fun K hK => ?_; simp -implicitDefEqProofs; repeat (refine And.intro (by clear hK; first | omega | (intros; simp_all; done) | (intros; grind)) ?_)
      refine hK _ ?_; clear hK K; refine SW.ret ?_; simp [Ex.then, Ex.ib]
      all_goals first
        | (have ht := tm_b (n := n) hx0 hn0; exact ⟨_, ht.1, ht.2, i2, h20, h21, rfl, c2, rfl⟩)
        | fail)
    rotate_right
    case' _ =>
     intro hb2
     first
     | (exfalso; simp at hb2; done)
     | (exfalso; simp at hb2; omega)
     | (
      refine SW.rg fun K hK => ?_; simp -implicitDefEqProofs; repeat (refine And.intro (by clear hK; first | omega | (intros; simp_all; done) | (intros; grind)) ?_)
      refine CallS.mono (byte0 code hl i c hi0 hi1 H id hid) ?_
      rintro o h' ⟨x, i2, c2, hx0, hx1, h20, h21, rfl, rfl⟩
      simp -implicitDefEqProofs; repeat (refine And.intro (by clear hK; first | omega | (intros; simp_all; done) | (intros; grind)) ?_)
      refine hK _ ?_; clear hK K; refine SW.ret ?_; simp [Ex.then, Ex.ib]
      all_goals first
        | (have ht := tm_b (n := n) hx0 hn0; exact ⟨_, ht.1, ht.2, i2, h20, h21, rfl, c2, rfl⟩)
        | fail))
  rotate_right
  case' _ =>
   intro hb1
   first
   | (exfalso; simp at hb1; done)
   | (exfalso; simp at hb1; omega)
   | (
    refine SW.rg fun K hK => ?_; simp -implicitDefEqProofs; repeat (refine And.intro (by clear hK; first | omega | (intros; simp_all; done) | (intros; grind)) ?_)
    refine hK _ ?_; clear hK K; refine SW.ret ?_; simp [Ex.then, Ex.ib]
    all_goals first
      | (have ht := tm_b (n := n) hx0 hn0; exact ⟨_, ht.1, ht.2, i2, h20, h21, rfl, c2, rfl⟩)
      | fail)
theorem below_ok (code : List Int) (hl : code.length ≤ 2 ^ 40) (i c : Int) (hi0 : 0 ≤ i) (hi1 : i ≤ code.length) (H : Heap) (id : Nat) (hid : id < H.length) (hh : hb H id = some (cur code i c)) (n : Int) (hn0 : 0 < n) (hn1 : n ≤ 256) :
    CallS Try.prog 77 [.ptr id 0 0, .int .i64 n] H (fun o h' => ∃ (x i2 c2 : Int), 0 ≤ x ∧ x < n ∧ 0 ≤ i2 ∧ i2 ≤ code.length ∧ o = .int .i64 x ∧ h' = H.set id (some (cur code i2 c2))) := by
  have := below0 code hl i c hi0 hi1 H id hid n hn0 hn1
  rwa [set_hb hh] at this
set_option maxHeartbeats 1000000 in
theorem new_ok (code : List Int) (hl : code.length ≤ 2 ^ 40) (H : Heap) : CallS Try.prog 76 [.fz (YS code)] (H) (fun o h' => ∃ (c2 : Int), o = .ptr H.length 0 0 ∧ h' = H ++ [some (cur code 0 c2)]) := by
  refine CallS.intro Try.func76 (by decide) rfl (rs := [.tmp 2]) rfl Try.ntmps76 (by simp) ?_; have hwn := wrapI (538233 + (code.length : Int)) (by omega) (by omega)
  refine SW.rg fun K hK => ?_; simp -implicitDefEqProofs; repeat (refine And.intro (by clear hK; first | omega | (intros; simp_all; done) | (intros; grind)) ?_)
  refine hK _ ?_; clear hK K; refine SW.rg fun K hK => ?_; simp -implicitDefEqProofs [hwn]; repeat (refine And.intro (by clear hK; first | omega | (intros; simp_all; done) | (intros; grind)) ?_)
  refine hK _ ?_; clear hK K; refine SW.seqK fun K1 hK1 => ?_; refine SW.rg fun K hK => ?_; simp -implicitDefEqProofs; repeat (refine And.intro (by clear hK; first | omega | (intros; simp_all; done) | (intros; grind)) ?_)
  refine hK _ ?_; clear hK K; refine SW.block ?_
  refine SW.loop (α := Nat × Int) (fun x => ⟨[(4, .int .i64 (x.1 : Nat)), (3, .int .i64 x.2), (0, .fz (YS code))], H⟩) (fun x => x.1 ≤ code.length) (fun x => code.length - x.1) ((0, 538233 + (code.length : Int))) ?_ ?_ (fun x hx => ?_)
  case' refine_1 =>
   simp
  case' refine_2 =>
   refine Wk.softH (by simp [softE, softV]) rfl
  case' refine_3 =>
   skip
   refine SW.seqK fun K2 hK2 => ?_; refine SW.rg fun K hK => ?_; simp -implicitDefEqProofs; repeat (refine And.intro (by clear hK; first | omega | (intros; simp_all; done) | (intros; grind)) ?_)
   refine hK _ ?_; clear hK K; refine SW.cond _ rfl (by simp) ?_ ?_
   case' refine_2 =>
    intro hb1
    first
    | (exfalso; simp at hb1; done)
    | (exfalso; simp at hb1; omega)
    | (
     refine SW.exit ?_; simp only [Ex.then, Ex.ib]; try simp only [if_true, if_false, reduceIte]
     refine hK1 _ ?_; refine SW.rg fun K hK => ?_; simp -implicitDefEqProofs; repeat (refine And.intro (by clear hK; first | omega | (intros; simp_all; done) | (intros; grind)) ?_)
     refine hK _ ?_; clear hK K; refine SW.ret ?_; simp [Ex.then, Ex.ib]
     all_goals first
       | done
       | (simp; done)
       | exact ⟨_, rfl⟩
       | fail)
   rotate_right
   case' _ =>
    intro hb1
    first
    | (exfalso; simp at hb1; done)
    | (exfalso; simp at hb1; omega)
    | (
     have hlt : x.1 < code.length := by simp at hb1; omega
     obtain ⟨y, hxk⟩ : ∃ q, code[x.1]? = some q := ⟨_, List.getElem?_eq_getElem hlt⟩
     refine SW.skip ?_; refine hK2 _ ?_; refine SW.seqK fun K3 hK3 => ?_; refine SW.block ?_; refine SW.regionE fun K hK => ?_; simp -implicitDefEqProofs [hxk]
     repeat (refine And.intro (by clear hK; first | omega | (intros; simp_all; done) | (intros; grind)) ?_)
     refine hK _ ?_; clear hK K; refine hK3 _ ?_; refine SW.regionE fun K hK => ?_; simp -implicitDefEqProofs; repeat (refine And.intro (by clear hK; first | omega | (intros; simp_all; done) | (intros; grind)) ?_)
     refine hK _ ?_; clear hK K; refine ⟨(x.1 + 1, bitv .and .i64 (IntKind.i64.wrap (IntKind.i64.wrap (IntKind.i64.wrap (x.2 * 163) + IntKind.i64.wrap y) + 7)) 1073741823), by simp only []; omega, by simp only []; omega, ?_⟩
     refine Wk.softH (by simp [softE, softV, wrap1 x.1 (by omega)]) rfl)
theorem hb_end (H : Heap) (b : Blk) : hb (H ++ [some b]) H.length = some b := by simp [hb]
set_option maxHeartbeats 1000000 in
theorem num_ok (code : List Int) (hl : code.length ≤ 2 ^ 40) (H : Heap) : CallS Try.prog 45 [.fz (YS code), .int .i64 256] (H) (fun o h' => ∃ (x : Int) (c : Blk), 0 ≤ x ∧ x < 256 ∧ o = .int .i64 x ∧ h' = H ++ [some c]) := by
  refine CallS.intro Try.func45 (by decide) rfl (rs := [.tmp 4]) rfl Try.ntmps45 (by simp) ?_; refine SW.rg fun K hK => ?_; simp -implicitDefEqProofs
  repeat (refine And.intro (by clear hK; first | omega | (intros; simp_all; done) | (intros; grind)) ?_)
  refine hK _ ?_; clear hK K; refine SW.rg fun K hK => ?_; simp -implicitDefEqProofs; repeat (refine And.intro (by clear hK; first | omega | (intros; simp_all; done) | (intros; grind)) ?_)
  refine CallS.mono (new_ok code hl H) ?_
  rintro o h' ⟨c2, rfl, rfl⟩
  simp -implicitDefEqProofs; repeat (refine And.intro (by clear hK; first | omega | (intros; simp_all; done) | (intros; grind)) ?_)
  refine hK _ ?_; clear hK K; refine SW.rg fun K hK => ?_; simp -implicitDefEqProofs [hb_end, set_end]; repeat (refine And.intro (by clear hK; first | omega | (intros; simp_all; done) | (intros; grind)) ?_)
  refine hK _ ?_; clear hK K; refine SW.rg fun K hK => ?_; simp -implicitDefEqProofs; repeat (refine And.intro (by clear hK; first | omega | (intros; simp_all; done) | (intros; grind)) ?_)
  refine CallS.mono (below_ok code hl 0 _ (by omega) (by omega) _ H.length (by simp) (hb_end _ _) 256 (by omega) (by omega)) ?_
  rintro o h' ⟨x, i2, c3, hx0, hx1, h20, h21, rfl, rfl⟩
  simp -implicitDefEqProofs; repeat (refine And.intro (by clear hK; first | omega | (intros; simp_all; done) | (intros; grind)) ?_)
  refine hK _ ?_; clear hK K; refine SW.ret ?_; simp [Ex.then, Ex.ib]
  all_goals first
    | exact ⟨hx0, hx1⟩
    | fail
set_option maxHeartbeats 1000000 in
theorem some_ok (code : List Int) (hl : code.length ≤ 2 ^ 40) : CallS Try.prog 44 [.fz (YS code)] ([]) (fun o h' => ∃ (l : List Deed) (c : Blk), l.length ≤ 9 ∧ l.all fitD = true ∧ o = .sl 1 0 l.length ∧ h' = [some c, some ⟨4, DS l⟩]) := by
  refine CallS.intro Try.func44 (by decide) rfl (rs := [.tmp 2]) rfl Try.ntmps44 (by simp) ?_; refine SW.rg fun K hK => ?_; simp -implicitDefEqProofs
  repeat (refine And.intro (by clear hK; first | omega | (intros; simp_all; done) | (intros; grind)) ?_)
  refine hK _ ?_; clear hK K; refine SW.rg fun K hK => ?_; simp -implicitDefEqProofs; repeat (refine And.intro (by clear hK; first | omega | (intros; simp_all; done) | (intros; grind)) ?_)
  refine CallS.mono (new_ok code hl []) ?_
  rintro o h' ⟨c2, rfl, rfl⟩
  simp -implicitDefEqProofs; repeat (refine And.intro (by clear hK; first | omega | (intros; simp_all; done) | (intros; grind)) ?_)
  refine hK _ ?_; clear hK K; refine SW.rg fun K hK => ?_; simp -implicitDefEqProofs; repeat (refine And.intro (by clear hK; first | omega | (intros; simp_all; done) | (intros; grind)) ?_)
  refine hK _ ?_; clear hK K; refine SW.seqK fun K1 hK1 => ?_; refine SW.rg fun K hK => ?_; simp -implicitDefEqProofs; repeat (refine And.intro (by clear hK; first | omega | (intros; simp_all; done) | (intros; grind)) ?_)
  refine CallS.mono (below_ok code hl 0 _ (by omega) (by omega) _ 0 (by simp) rfl 10 (by omega) (by omega)) ?_
  rintro o h' ⟨vz, iz, cz, z0, z1, jz, qz, rfl, rfl⟩
  obtain ⟨N, rfl⟩ : ∃ N : Nat, vz = (N : Int) := ⟨vz.toNat, by omega⟩
  simp -implicitDefEqProofs; repeat (refine And.intro (by clear hK; first | omega | (intros; simp_all; done) | (intros; grind)) ?_)
  refine hK _ ?_; clear hK K; refine SW.block ?_
  refine SW.loop (α := List Deed × Int × Int) (fun x => ⟨[(3, .ptr 0 0 0), (4, .sl 1 0 x.1.length), (5, .int .i64 ((N : Int) - (x.1.length : Nat)))], [some (cur code x.2.1 x.2.2), some ⟨4, DS x.1⟩]⟩) (fun x => x.1.length ≤ N ∧ x.1.all fitD = true ∧ 0 ≤ x.2.1 ∧ x.2.1 ≤ code.length) (fun x => N - x.1.length) (([], iz, cz)) ?_ ?_ (fun x hx => ?_)
  case' refine_1 =>
   exact ⟨by simp, by simp, jz, qz⟩
  case' refine_2 =>
   exact Wk.cut (by simp) (by simp [subE]) (by simp [cutH]) (by simp [lowE, lowN]) (by simp [lowB, lowN, lowEs])
  case' refine_3 =>
   skip
   refine SW.seqK fun K2 hK2 => ?_; refine SW.rg fun K hK => ?_; simp -implicitDefEqProofs; repeat (refine And.intro (by clear hK; first | omega | (intros; simp_all; done) | (intros; grind)) ?_)
   refine hK _ ?_; clear hK K; refine SW.cond _ rfl (by simp) ?_ ?_
   case' refine_2 =>
    intro hb1
    first
    | (exfalso; simp at hb1; done)
    | (exfalso; simp at hb1; omega)
    | (
     refine SW.exit ?_; simp only [Ex.then, Ex.ib]; try simp only [if_true, if_false, reduceIte]
     refine hK1 _ ?_; refine SW.rg fun K hK => ?_; simp -implicitDefEqProofs; repeat (refine And.intro (by clear hK; first | omega | (intros; simp_all; done) | (intros; grind)) ?_)
     refine hK _ ?_; clear hK K; refine SW.ret ?_; simp [Ex.then, Ex.ib]
     all_goals first
       | exact ⟨x.1, by omega, fun y hy => List.all_eq_true.1 hx.2.1 y hy, rfl, rfl⟩
       | fail)
   rotate_right
   case' _ =>
    intro hb1
    first
    | (exfalso; simp at hb1; done)
    | (exfalso; simp at hb1; omega)
    | (
     have hlt : x.1.length < N := by simp at hb1; omega
     refine SW.skip ?_; refine hK2 _ ?_; refine SW.seqK fun K3 hK3 => ?_; refine SW.block ?_; refine SW.regionE fun K hK => ?_; simp -implicitDefEqProofs
     repeat (refine And.intro (by clear hK; first | omega | (intros; simp_all; done) | (intros; grind)) ?_)
     refine CallS.mono (below_ok code hl x.2.1 x.2.2 hx.2.2.1 hx.2.2.2 _ 0 (by simp) rfl 10 (by omega) (by omega)) ?_
     rintro o h' ⟨va, ia, ca, a0, a1, ja, qa, rfl, rfl⟩
     simp -implicitDefEqProofs; repeat (refine And.intro (by clear hK; first | omega | (intros; simp_all; done) | (intros; grind)) ?_)
     refine CallS.mono (below_ok code hl ia ca ja qa _ 0 (by simp) rfl 8 (by omega) (by omega)) ?_
     rintro o h' ⟨vb, ib, cb, b0, b1, jb, qb, rfl, rfl⟩
     simp -implicitDefEqProofs; repeat (refine And.intro (by clear hK; first | omega | (intros; simp_all; done) | (intros; grind)) ?_)
     refine CallS.mono (below_ok code hl ib cb jb qb _ 0 (by simp) rfl 5 (by omega) (by omega)) ?_
     rintro o h' ⟨vd, id, cd, d0, d1, jd, qd, rfl, rfl⟩
     simp -implicitDefEqProofs; repeat (refine And.intro (by clear hK; first | omega | (intros; simp_all; done) | (intros; grind)) ?_)
     refine CallS.mono (below_ok code hl id cd jd qd _ 0 (by simp) rfl 5 (by omega) (by omega)) ?_
     rintro o h' ⟨ve, ie, ce, e0, e1, je, qe, rfl, rfl⟩
     simp -implicitDefEqProofs; repeat (refine And.intro (by clear hK; first | omega | (intros; simp_all; done) | (intros; grind)) ?_)
     refine hK _ ?_; clear hK K; refine hK3 _ ?_; refine SW.regionE fun K hK => ?_; simp -implicitDefEqProofs; repeat (refine And.intro (by clear hK; first | omega | (intros; simp_all; done) | (intros; grind)) ?_)
     refine hK _ ?_; clear hK K; have w1 := wrapI (8 + vb) (by omega) (by omega)
     have w2 := wrapI (vd - 1) (by omega) (by omega)
     have w3 := wrapI (ve - 3) (by omega) (by omega)
     have w4 := wrapI ((N : Int) - (x.1.length : Nat) - 1) (by omega) (by omega)
     have hfx : fitD ⟨va, 8 + vb, vd - 1, ve - 3⟩ = true := by simp [fitD]; omega
     refine ⟨(x.1 ++ [⟨va, 8 + vb, vd - 1, ve - 3⟩], ie, ce), ⟨by simp; omega, by simp only [List.all_append, hx.2.1, List.all_cons, hfx, List.all_nil, Bool.and_self], je, qe⟩, by simp; omega, ?_⟩
     exact Wk.ren [0, 3] (by simp) (by simp) (by simp) (by simp) (by simp [renE, renN, w4]; try omega) (by simp [renH, DS_app, DS, w1, w2, w3]) (by simp [lowE, lowN]) (by simp [lowB, lowN]; intro x hx y hy; obtain ⟨n, rfl⟩ := DS_int hx hy; rfl))
end HS
