import Derived.Test.YtjalahhkhcmjaaaDoorHLQ0
import Derived.Test.YtjalahhkhcmjaaaDoorHLVJ
/-
  My own texts (road H): HLQ1.
-/
set_option linter.unusedSimpArgs false
set_option linter.unusedVariables false
namespace HT
open Go Go.Proofs HK
def words : List ByteArray := [⟨#[]⟩, ⟨#[104, 97, 108, 116]⟩, ⟨#[115, 101, 116]⟩, ⟨#[97, 100, 100]⟩, ⟨#[115, 117, 98]⟩, ⟨#[108, 101, 115, 115]⟩, ⟨#[106, 117, 109, 112]⟩, ⟨#[105, 102]⟩, ⟨#[115, 101, 110, 100]⟩, ⟨#[114, 101, 99, 118]⟩, ⟨#[99, 108, 111, 115, 101]⟩, ⟨#[115, 101, 108, 101, 99, 116]⟩, ⟨#[108, 111, 99, 107]⟩, ⟨#[117, 110, 108, 111, 99, 107]⟩, ⟨#[115, 112, 97, 119, 110]⟩, ⟨#[112, 114, 105, 110, 116]⟩]
def wordB (op : Int) : ByteArray := if 0 ≤ op then (words[op.toNat]?).getD noB else noB
abbrev nilB : ByteArray := ⟨#[110, 105, 108]⟩
def chanB (n : Int) : ByteArray := if n = -1 then nilB else numB n
def anyB (n : Int) (w : ByteArray) : ByteArray := if n = -1 then w else numB n
def okA (n : Int) : Bool := decide (n = -1) || isNumB n
def joinW (xs : List ByteArray) (sep : ByteArray) : ByteArray := if xs.all (fun x => decide (¬ x = noB)) then joinB sep xs else noB
set_option maxHeartbeats 1000000 in
theorem l05Num_s (n : Int) (w : ByteArray) : Fn Tryd.prog 27 [.int .i64 n, .bool true, .str w] (.tup [.str (anyB n w), .bool (okA n)]) := by
  refine Fn.intro Tryd.func27 (by decide) rfl (rs := [.tmp 6, .tmp 7]) rfl Tryd.ntmps27 (by simp) ?_; refine SW.rg fun K hK => ?_; simp -implicitDefEqProofs
  repeat (refine And.intro (by clear hK; first | omega | (intros; simp_all; done) | (intros; grind)) ?_)
  refine hK _ ?_; clear hK K; refine SW.seqK fun K1 hK1 => ?_; refine SW.rg fun K hK => ?_; simp -implicitDefEqProofs; repeat (refine And.intro (by clear hK; first | omega | (intros; simp_all; done) | (intros; grind)) ?_)
  refine hK _ ?_; clear hK K; refine SW.cond _ rfl (by simp) ?_ ?_
  case' refine_2 =>
   intro hb1
   first
   | (exfalso; simp at hb1; done)
   | (exfalso; simp at hb1; omega)
   | (
    have h1 : ¬ n = -1 := by simpa using hb1
    have hw : anyB n w = numB n := if_neg h1
    refine SW.skip ?_; refine hK1 _ ?_; refine SW.rg fun K hK => ?_; simp -implicitDefEqProofs; repeat (refine And.intro (by clear hK; first | omega | (intros; simp_all; done) | (intros; grind)) ?_)
    first
      | refine CallQ.fzE (numT_s n) (by simp) ?_
      | refine CallK.fzE (numT_s n) (by simp) ?_
    simp -implicitDefEqProofs; repeat (refine And.intro (by clear hK; first | omega | (intros; simp_all; done) | (intros; grind)) ?_)
    first
      | refine CallQ.fzE (isNum_s n) (by simp) ?_
      | refine CallK.fzE (isNum_s n) (by simp) ?_
    simp -implicitDefEqProofs; repeat (refine And.intro (by clear hK; first | omega | (intros; simp_all; done) | (intros; grind)) ?_)
    refine hK _ ?_; clear hK K; refine SW.ret ?_; simp [Ex.then, Ex.ib]
    all_goals first | (simp [anyB, okA, h1]; done) | (simp [hw, okA, h1]; done))
  rotate_right
  case' _ =>
   intro hb1
   first
   | (exfalso; simp at hb1; done)
   | (exfalso; simp at hb1; omega)
   | (
    have h1 : n = -1 := by simpa using hb1
    have hw : anyB n w = w := if_pos h1
    refine SW.rg fun K hK => ?_; simp -implicitDefEqProofs; repeat (refine And.intro (by clear hK; first | omega | (intros; simp_all; done) | (intros; grind)) ?_)
    refine hK _ ?_; clear hK K; refine SW.ret ?_; simp [Ex.then, Ex.ib]
    all_goals first | (simp [anyB, okA, h1]; done) | (simp [hw, okA, h1]; done))
theorem joinE : Enter Tryd.prog 48 := ⟨_, Tryd.func48, by decide, by decide⟩
theorem join_ok (xs : List ByteArray) (sep : ByteArray) (hl : (joinB sep xs).size ≤ 2 ^ 40) (hz : xs.length ≤ 2 ^ 40) (n : Nat) (hn : xs.length = n) : CallS Tryd.prog 48 [.sl 0 0 n, .str sep] [some ⟨1, StrS xs⟩] (fun o h' => o = .str (joinB sep xs) ∧ h' = [some ⟨1, StrS xs⟩]) := by
  subst hn; exact CallS.of_join joinE Go.Proofs.Tryd.strings_Join_none Go.Proofs.Tryd.strings_Join (H := [some ⟨1, StrS xs⟩]) (id := 0) rfl hl hz
set_option maxHeartbeats 1000000 in
theorem joined_i (xs : List ByteArray) (sep : ByteArray) (hl : (joinB sep xs).size ≤ 2 ^ 40) (hz : xs.length ≤ 2 ^ 40) : CallS Tryd.prog 34 [.sl 0 0 xs.length, .str sep] ([some ⟨1, StrS xs⟩]) (fun o h' => o = .str (joinW xs sep) ∧ h' = [some ⟨1, StrS xs⟩]) := by
  refine CallS.intro Tryd.func34 (by decide) rfl (rs := [.tmp 4]) rfl Tryd.ntmps34 (by simp) ?_; refine SW.rg fun K hK => ?_; simp -implicitDefEqProofs; repeat refine ⟨by omega, ?_⟩
  refine hK _ ?_; clear hK K; refine SW.seqK fun K1 hK1 => ?_; refine SW.rg fun K hK => ?_; simp -implicitDefEqProofs; repeat refine ⟨by omega, ?_⟩
  refine hK _ ?_; clear hK K; refine SW.block ?_
  refine SW.loop (α := Nat) (fun k => ⟨[(9, .int .i64 k), (8, .int .i64 xs.length), (7, .sl 0 0 xs.length), (0, .sl 0 0 xs.length), (1, .str sep)], [some ⟨1, StrS xs⟩]⟩) (fun k => k ≤ xs.length ∧ (xs.take k).all (fun x => decide (¬ x = noB)) = true) (fun k => xs.length - k) (0) ?_ ?_ (fun k hx => ?_)
  case' refine_1 =>
   simp
  case' refine_2 =>
   refine Wk.softH (by simp [softE, softV]) (by simp)
  case' refine_3 =>
   skip
   refine SW.rg fun K hK => ?_; simp -implicitDefEqProofs; repeat refine ⟨by omega, ?_⟩
   refine hK _ ?_; clear hK K; refine SW.seqK fun K2 hK2 => ?_; refine SW.cond _ rfl (by simp) ?_ ?_
   case' refine_2 =>
    intro hb1
    first
    | (exfalso; simp at hb1; done)
    | (exfalso; simp at hb1; omega)
    | (
     have hk9 : k = xs.length := by simp at hb1; omega
     have hres : joinW xs sep = joinB sep xs := if_pos (by have h8 := hx.2; rw [hk9, List.take_length] at h8; exact h8)
     refine SW.exit ?_; simp only [Ex.then, Ex.ib]; try simp only [if_true, if_false, reduceIte]
     refine hK1 _ ?_; refine SW.rg fun K hK => ?_; simp -implicitDefEqProofs; iterate 2 (try refine ⟨by omega, ?_⟩)
     refine CallS.mono (join_ok xs sep hl hz _ rfl) ?_
     rintro o h' ⟨rfl, rfl⟩
     simp -implicitDefEqProofs; repeat refine ⟨by omega, ?_⟩
     refine hK _ ?_; clear hK K; refine SW.ret ?_; simp [Ex.then, Ex.ib]
     all_goals first
       | (rw [hres]; done)
       | fail)
   rotate_right
   case' _ =>
    intro hb1
    first
    | (exfalso; simp at hb1; done)
    | (exfalso; simp at hb1; omega)
    | (
     have hlt : k < xs.length := by simp at hb1; omega
     obtain ⟨x, hxk⟩ : ∃ q, xs[k]? = some q := ⟨_, List.getElem?_eq_getElem hlt⟩
     have hxE : ∀ h, xs[k]'h = x := fun h => (List.getElem?_eq_some_iff.1 hxk).2
     refine SW.skip ?_; refine hK2 _ ?_; refine SW.seqK fun K3 hK3 => ?_; refine SW.block ?_; refine SW.rg fun K hK => ?_; simp -implicitDefEqProofs [hxk, hxE, hlt]; repeat refine ⟨by omega, ?_⟩
     refine hK _ ?_; clear hK K; refine SW.rg fun K hK => ?_; simp -implicitDefEqProofs; repeat refine ⟨by omega, ?_⟩
     refine hK _ ?_; clear hK K; refine SW.cond _ rfl (by simp) ?_ ?_
     case' refine_2 =>
      intro hb2
      first
      | (exfalso; simp at hb2; done)
      | (exfalso; simp at hb2; omega)
      | (
       have hnx : (xs.take (k + 1)).all (fun x => decide (¬ x = noB)) = true := by rw [List.take_add_one, hxk]; simp only [Option.toList, List.all_append, hx.2, Bool.true_and]; simpa using hb2
       refine SW.skip ?_; refine hK3 _ ?_; refine SW.regionE fun K hK => ?_; simp -implicitDefEqProofs; repeat refine ⟨by omega, ?_⟩
       refine hK _ ?_; clear hK K; refine ⟨k + 1, ⟨by omega, hnx⟩, by omega, ?_⟩
       refine Wk.softH (by simp [softE, softV, wrap1 k (by omega)]) (by simp))
     rotate_right
     case' _ =>
      intro hb2
      first
      | (exfalso; simp at hb2; done)
      | (exfalso; simp at hb2; omega)
      | (
       have hx0 : x = noB := by simpa using hb2
       have hres : joinW xs sep = noB := if_neg (by intro h; have := List.all_eq_true.1 h x (List.mem_of_getElem? hxk); simp [hx0] at this)
       refine SW.rg fun K hK => ?_; simp -implicitDefEqProofs; repeat refine ⟨by omega, ?_⟩
       refine hK _ ?_; clear hK K; refine SW.ret ?_; simp [Ex.then, Ex.ib]
       all_goals first
         | (rw [hres]; done)
         | fail))
end HT
