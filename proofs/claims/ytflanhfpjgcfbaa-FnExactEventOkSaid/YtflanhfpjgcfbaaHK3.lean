/-
  My own text (road H): HK3.
-/
import Derived.Test.YtflanhfpjgcfbaaHK2
namespace HK
open Go

/-! ### tables -/
/-- Is a type an aggregate, and how many cells it has. -/
def tk (P : Program) (t : TypeId) : Option (Bool × Nat) :=
  match P.underlying t, P.info? t with
  | some (.struct _), some i | some (.array _ _), some i => some (true, i.size)
  | some _, some i => some (false, i.size)
  | _, _ => none
/-- A field's first cell. -/
def toff (P : Program) (s : TypeId) (f : Nat) : Option Nat :=
  match P.underlying s with
  | some (.struct fs) => match fs[f]? with
    | some d => match P.info? d.type with
      | some i => if i.size = 0 then none else some d.offset
      | none => none
    | none => none
  | _ => none
/-- A slice type's element: its cells, its bytes. -/
def tel (P : Program) (t : TypeId) : Option (Nat × Nat) :=
  match P.underlying t with
  | some (.slice e) => match P.info? e with
    | some i => some (i.size, i.bytes)
    | none => none
  | _ => none
def tint (P : Program) (t : TypeId) : Option IntKind :=
  match P.underlying t with
  | some (.int k) => some k
  | _ => none
def tstr (P : Program) (t : TypeId) : Bool := match P.underlying t with | some .string => true | _ => false

/-! ### operands -/
abbrev Env := List (Nat × AV)
def lk : Env → Nat → AV
  | [], _ => .undef
  | (k, v) :: e, t => if t = k then v else lk e t
def absC : Value → AV
  | .bool b => .bool b
  | .int k n => .int k n
  | .string s => .str s
  | .slice _ 0 0 => .nil
  | v => .con v
def absV : Value → AV
  | .agg cs => .agg (cs.toList.map absC)
  | v => absC v
def ev (env : Env) : Operand → AV
  | .tmp t => lk env t
  | .const v => absV v
  | .global g => .con (.pointer (some ⟨g, 0, none⟩))
  | .func f => .fn (.func f) [] []
/-- A value behind its condition. -/
def st1 : AV → AV
  | .cond _ v => v
  | v => v
def gk : AV → Prop
  | .cond g _ => g = true
  | _ => True

section
variable {w : World} {own : Nat → Prop} {φ : Refs}
theorem VR.absC (v : Value) : VR w own φ (absC v) v [] := by
  unfold HK.absC
  split
  · exact .bool _
  · exact .int _ _
  · exact .str _
  · exact .nil _
  · exact .con _
theorem CR.absC : ∀ (l : List Value), CR w own φ (l.map HK.absC) l []
  | [] => .nil
  | v :: l => by have := CR.cons _ _ _ _ _ _ (VR.absC (w := w) (own := own) (φ := φ) v) (CR.absC l); simpa using this
theorem VR.absV (v : Value) : VR w own φ (absV v) v [] := by
  unfold HK.absV
  split
  · rename_i cs; exact .agg _ cs.toList _ (CR.absC _)
  · exact VR.absC _
theorem VR.strip {v : AV} {x : Value} {S : List Nat} (h : VR w own φ v x S) (hg : gk v) : VR w own φ (st1 v) x S := by
  cases h <;> first
    | assumption
    | (simp [gk] at hg; done)
    | (simp only [st1]; constructor <;> assumption)
end

/-! ### numbers, texts -/
def bitv (op : BinOp) (k : IntKind) (x y : Int) : Int :=
  k.wrap (((match op with
    | .and => BitVec.ofInt k.bits x &&& BitVec.ofInt k.bits y
    | .or => BitVec.ofInt k.bits x ||| BitVec.ofInt k.bits y
    | .xor => BitVec.ofInt k.bits x ^^^ BitVec.ofInt k.bits y
    | _ => BitVec.ofInt k.bits x &&& ~~~(BitVec.ofInt k.bits y) : BitVec k.bits)).toNat : Nat)
def binI (op : BinOp) (k : IntKind) (x y : Int) : Prop × AV :=
  match op with
  | .add => (True, .int k (k.wrap (x + y)))
  | .sub => (True, .int k (k.wrap (x - y)))
  | .mul => (True, .int k (k.wrap (x * y)))
  | .quo => (y ≠ 0, .int k (k.wrap (x.tdiv y)))
  | .rem => (y ≠ 0, .int k (x.tmod y))
  | .and | .or | .xor | .andNot => (True, .int k (bitv op k x y))
  | .eql => (True, .bool (x == y))
  | .neq => (True, .bool (x != y))
  | .lss => (True, .bool (decide (x < y)))
  | .leq => (True, .bool (decide (x ≤ y)))
  | .gtr => (True, .bool (decide (y < x)))
  | .geq => (True, .bool (decide (y ≤ x)))
  | _ => (False, .undef)
def binS (op : BinOp) (x y : ByteArray) : Prop × AV :=
  match op with
  | .add => (((x.size + y.size : Nat) : Int) ≤ 9223372036854775807, .str (x ++ y))
  | .eql => (True, .bool (decide (x = y)))
  | .neq => (True, .bool (!decide (x = y)))
  | _ => (False, .undef)
/-- Cells of one struct type, all alike. -/
def eqc : List AV → List AV → Bool
  | [], [] => true
  | .int _ a :: as, .int _ b :: bs => a == b && eqc as bs
  | .bool a :: as, .bool b :: bs => a == b && eqc as bs
  | .str a :: as, .str b :: bs => decide (a = b) && eqc as bs
  | _, _ => false
def eqk : List AV → List AV → Prop
  | [], [] => True
  | .int k _ :: as, .int k' _ :: bs => k = k' ∧ eqk as bs
  | .bool _ :: as, .bool _ :: bs => eqk as bs
  | .str _ :: as, .str _ :: bs => eqk as bs
  | _, _ => False
/-- Of a struct type whose fields are numbers, Bools, texts, one cell each: what kinds they are of (0, 1, 2). -/
def fkind (P : Program) (f : Field) (j : Nat) : Option Nat := if f.name ≠ "_" ∧ f.offset = j then match P.underlying f.type with
    | some (.int _) => some 0
    | some .bool => some 1
    | some .string => some 2
    | _ => none
  else none
def fkinds (P : Program) : List Field → Nat → Option (List Nat)
  | [], _ => some []
  | f :: fs, j => match fkind P f j, fkinds P fs (j + 1) with
    | some a, some l => some (a :: l)
    | _, _ => none
def tsh (P : Program) (t : TypeId) : Option (List Nat) := match P.underlying t with
  | some (.struct fs) => if P.stoodInHeld t = false ∧ P.eqGuardType P.depth t = false then fkinds P fs.toList 0 else none
  | _ => none
def avk : AV → Nat
  | .int _ _ => 0
  | .bool _ => 1
  | .str _ => 2
  | _ => 9
def binV (P : Program) (op : BinOp) (t : TypeId) : AV → AV → Prop × AV
  | .int k x, .int k' y => match op with
    | .shl => (0 ≤ y, .int k (k.wrap (x * 2 ^ (min y.toNat k.bits))))
    | .shr => (0 ≤ y, .int k (x.fdiv (2 ^ (min y.toNat k.bits))))
    | _ => (k = k' ∧ (binI op k x y).1, (binI op k x y).2)
  | .str x, .str y => binS op x y
  | .bool x, .bool y => match op with
    | .eql => (P.underlying t = some .bool, .bool (x == y))
    | .neq => (P.underlying t = some .bool, .bool (!(x == y)))
    | _ => (False, .undef)
  | .agg xs, .agg ys => match op with
    | .eql => (tsh P t = some (xs.map avk) ∧ eqk xs ys, .bool (eqc xs ys))
    | .neq => (tsh P t = some (xs.map avk) ∧ eqk xs ys, .bool (!eqc xs ys))
    | _ => (False, .undef)
  | _, _ => (False, .undef)
def unV (op : UnOp) : AV → Prop × AV
  | .int k n => match op with
    | .neg => (True, .int k (k.wrap (0 - n)))
    | _ => (False, .undef)
  | .bool b => match op with
    | .not => (True, .bool !b)
    | _ => (False, .undef)
  | _ => (False, .undef)
/-- One of two Bools: by a third. -/
def pb (t x y : Bool) : Bool := if t then x else y
def pickV (t : Bool) : AV → AV → AV
  | .bool x, .bool y => .bool (pb t x y)
  | a, b => if t then a else b
def bt (s : ByteArray) (i : Nat) : Int := ((s.data.toList.getD i 0).toNat : Int)
/-- The bytes of a list of cells. -/
def byt : List AV → Option (List UInt8)
  | [] => some []
  | .int .u8 n :: l => (byt l).map (UInt8.ofNat n.toNat :: ·)
  | _ => none
def cvV (P : Program) (src dst : TypeId) : AV → Prop × AV
  | .int _ n => match tint P dst with
    | some k => ((P.underlying src).isSome = true, .int k (k.wrap n))
    | none => match tstr P dst, P.underlying src with
      | true, some (.int _) => (True, .str (Utf8.encode n))
      | _, _ => (False, .undef)
  | .str s => match tstr P dst with
    | true => ((P.underlying src).isSome = true, .str s)
    | false => (False, .undef)
  | _ => (False, .undef)

/-- Of an array type: its length, the cells of an element. -/
def tarr (P : Program) (t : TypeId) : Option (Nat × Nat) := match P.underlying t with
  | some (.array n e) => match P.info? e with | some i => some (n, i.size) | none => none
  | _ => none
/-- The cells of an array's zero value. -/
def tarrZ (P : Program) (t : TypeId) : Option (List AV) := match P.underlying t, P.info? t with
  | some (.array _ e), some i => match P.info? e, i.zero with
    | some _, some z => some (z.cells.toList.map absC)
    | _, _ => none
  | _, _ => none
/-- A slice of bytes? -/
def tbyt (P : Program) (t : TypeId) : Bool := match P.underlying t with
  | some (.slice e) => match P.underlying e with
    | some (.int .u8) => true
    | _ => false
  | _ => false
/-- The bytes of elements of one byte each. -/
def bytC : List (List AV) → Option (List Int)
  | [] => some []
  | [.int .u8 n] :: l => (bytC l).map (n :: ·)
  | _ => none
/-- A text of these bytes. -/
def strB (ns : List Int) : ByteArray := ns.foldl (fun r n => r.push (UInt8.ofNat n.toNat)) ByteArray.empty
def elemV (n sz : Nat) (k : Int) : AV → Prop × AV
  | .ptr id i j => (0 ≤ k ∧ k < n, .ptr id i (j + k.toNat * sz))
  | .fptr es i j => (0 ≤ k ∧ k < n, .fptr es i (j + k.toNat * sz))
  | _ => (False, .undef)

/-! ### operations that only compute, or only read -/
def plain : AV → Bool
  | .own _ _ | .agg _ | .tup _ | .cond _ _ => false
  | _ => true
def cellsAt (e : List AV) (j n : Nat) : List AV := (e.drop j).take n
def asV (g : Bool) (cs : List AV) : AV := if g then .agg cs else cs.getD 0 .undef
def hb (h : Heap) (id : Nat) : Option Blk := match h[id]? with | some (some b) => some b | _ => none
def loadV (h : Heap) (g : Bool) (n : Nat) : AV → Prop × AV
  | .ptr id i j => match hb h id with
    | some b => (i < b.es.length ∧ j + n ≤ b.sz ∧ (cellsAt (b.es.getD i []) j n).all plain = true ∧ (g = false → n = 1), asV g (cellsAt (b.es.getD i []) j n))
    | none => (False, .undef)
  | .fptr es i j => (i < es.length ∧ j + n ≤ (es.getD i []).length ∧ (g = false → n = 1), asV g (cellsAt (es.getD i []) j n))
  | _ => (False, .undef)
def fieldV (off : Nat) : AV → Prop × AV
  | .ptr id i j => (True, .ptr id i (j + off))
  | .fptr es i j => (True, .fptr es i (j + off))
  | _ => (False, .undef)
def indexV (h : Heap) (sz : Nat) (n : Int) : AV → Prop × AV
  | .sl id off len => match hb h id with
    | some b => (0 ≤ n ∧ n < len ∧ b.sz = sz, .ptr id (off + n.toNat) 0)
    | none => (False, .undef)
  | .fz es => (0 ≤ n ∧ n < es.length ∧ (es.getD n.toNat []).length = sz, .fptr es n.toNat 0)
  | _ => (False, .undef)
/-- The bounds of a slice expression, as far as they are given. -/
def bnd (d : Nat) : Option AV → Option Int
  | none => some d
  | some (.int _ n) => some n
  | _ => none
def sliceV (h : Heap) (sz : Nat) (lo hi : Option AV) : AV → Prop × AV
  | .str s => match bnd 0 lo, bnd s.size hi with
    | some l, some u => (0 ≤ l ∧ l ≤ u ∧ u ≤ s.size, .str (s.extract l.toNat u.toNat))
    | _, _ => (False, .undef)
  | .sl id off len => match bnd 0 lo, bnd len hi, hb h id with
    | some l, some u, some b => (0 ≤ l ∧ l ≤ u ∧ u ≤ len ∧ b.sz = sz, .sl id (off + l.toNat) (u - l).toNat)
    | _, _, _ => (False, .undef)
  | .fz es => match bnd 0 lo, bnd es.length hi with
    | some l, some u => (0 ≤ l ∧ l ≤ u ∧ u ≤ es.length ∧ (l < u → (es.getD l.toNat []).length = sz), .fz ((es.drop l.toNat).take (u - l).toNat))
    | _, _ => (False, .undef)
  | .nil => match bnd 0 lo, bnd 0 hi with
    | some l, some u => (l = 0 ∧ u = 0, .nil)
    | _, _ => (False, .undef)
  | _ => (False, .undef)
def lenV (P : Program) (t : TypeId) : AV → Prop × AV
  | .str s => (P.underlying t = some .string, .int .i64 s.size)
  | .sl _ _ len => ((tel P t).isSome = true, .int .i64 len)
  | .fz es => ((tel P t).isSome = true, .int .i64 es.length)
  | .nil => ((tel P t).isSome = true, .int .i64 0)
  | _ => (False, .undef)
def minV : List AV → Prop × AV
  | [.int k x, .int _ y] => (True, .int k (if y < x then y else x))
  | _ => (False, .undef)
def maxV : List AV → Prop × AV
  | [.int k x, .int _ y] => (True, .int k (if y > x then y else x))
  | _ => (False, .undef)
/-- The elements of a slice. -/
def partE (h : Heap) : AV → Option (List (List AV))
  | .nil => some []
  | .fz es => some es
  | .sl id off len => match hb h id with
    | some b => if b.sz = 1 ∧ off + len ≤ b.es.length then some ((b.es.drop off).take len) else none
    | none => none
  | _ => none
def cvH (P : Program) (h : Heap) (src dst : TypeId) (v : AV) : Prop × AV := match tbyt P src with
  | true => match tstr P dst, partE h v with
    | true, some es => match bytC es with
      | some s => (True, .str (strB s))
      | none => (False, .undef)
    | _, _ => (False, .undef)
  | false => cvV P src dst v
def allGk (ρ : Operand → AV) : List Operand → Prop
  | [] => True
  | x :: l => gk (ρ x) ∧ allGk ρ l
/-- Surely the value of one cell. -/
def oc : AV → Bool
  | .undef | .con _ | .agg _ | .tup _ | .cond _ _ => false
  | _ => true
def cellsA : AV → Option (List AV)
  | .agg l => some l
  | v => if oc v then some [v] else none
/-- Parts filled into the cells of a zero value: at first cell, so many cells. -/
def fillV (places : Nat → Option (Nat × Nat)) : List AV → List (Nat × AV) → Option (List AV)
  | cs, [] => some cs
  | cs, (i, v) :: rest => match places i, cellsA v with
    | some (off, n), some xs => if xs.length = n ∧ off + n ≤ cs.length then fillV places (splice cs off xs) rest else none
    | _, _ => none
def tplaces (P : Program) (t : TypeId) : Option (List (Nat × Nat) × List AV) :=
  match P.underlying t, P.info? t with
  | some (.struct fs), some i => match i.zero with
    | some z => if fs.toList.all (fun f => (P.info? f.type).isSome) then some (fs.toList.map (fun f => (f.offset, P.cellsOf f.type)), z.cells.toList.map absC) else none
    | none => none
  | _, _ => none

def evP (P : Program) (h : Heap) (ρ : Operand → AV) : Op → Prop × AV
  | .move x | .assign x => (gk (ρ x), st1 (ρ x))
  | .pick c a b => match st1 (ρ c) with
    | .bool t => (gk (ρ c) ∧ (t = true → gk (ρ a)) ∧ (t = false → gk (ρ b)), pickV t (st1 (ρ a)) (st1 (ρ b)))
    | _ => (False, .undef)
  | .load t a => match tk P t with
    | some (g, n) => (gk (ρ a) ∧ (loadV h g n (st1 (ρ a))).1, (loadV h g n (st1 (ρ a))).2)
    | none => (False, .undef)
  | .fieldAddr s x f => match toff P s f with
    | some off => (gk (ρ x) ∧ (fieldV off (st1 (ρ x))).1, (fieldV off (st1 (ρ x))).2)
    | none => (False, .undef)
  | .indexAddr t x i => match tel P t, st1 (ρ i) with
    | some (sz, _), .int _ n => (gk (ρ x) ∧ gk (ρ i) ∧ (indexV h sz n (st1 (ρ x))).1, (indexV h sz n (st1 (ρ x))).2)
    | none, .int _ n => match tarr P t with
      | some (m, sz) => (gk (ρ x) ∧ gk (ρ i) ∧ (elemV m sz n (st1 (ρ x))).1, (elemV m sz n (st1 (ρ x))).2)
      | none => (False, .undef)
    | _, _ => (False, .undef)
  | .index t x i => match tstr P t, st1 (ρ x), st1 (ρ i) with
    | true, .str s, .int _ n => (gk (ρ x) ∧ gk (ρ i) ∧ 0 ≤ n ∧ n < s.size, .int .u8 (bt s n.toNat))
    | _, _, _ => (False, .undef)
  | .slice t x lo hi none => match tstr P t, tel P t with
    | true, _ => (gk (ρ x) ∧ allGk ρ lo.toList ∧ allGk ρ hi.toList ∧ (∃ s, st1 (ρ x) = .str s) ∧ (sliceV h 0 (lo.map (st1 <| ρ ·)) (hi.map (st1 <| ρ ·)) (st1 (ρ x))).1, (sliceV h 0 (lo.map (st1 <| ρ ·)) (hi.map (st1 <| ρ ·)) (st1 (ρ x))).2)
    | false, some (sz, _) => (gk (ρ x) ∧ allGk ρ lo.toList ∧ allGk ρ hi.toList ∧ (¬ ∃ s, st1 (ρ x) = .str s) ∧ (sliceV h sz (lo.map (st1 <| ρ ·)) (hi.map (st1 <| ρ ·)) (st1 (ρ x))).1, (sliceV h sz (lo.map (st1 <| ρ ·)) (hi.map (st1 <| ρ ·)) (st1 (ρ x))).2)
    | _, _ => (False, .undef)
  | .extract x i => match st1 (ρ x) with
    | .tup vs => (gk (ρ x) ∧ i < vs.length, vs.getD i .undef)
    | _ => (False, .undef)
  | .binOp op t x y _ => (gk (ρ x) ∧ gk (ρ y) ∧ (binV P op t (st1 (ρ x)) (st1 (ρ y))).1, (binV P op t (st1 (ρ x)) (st1 (ρ y))).2)
  | .unOp op _ x => (gk (ρ x) ∧ (unV op (st1 (ρ x))).1, (unV op (st1 (ρ x))).2)
  | .convert src dst x => (gk (ρ x) ∧ (cvH P h src dst (st1 (ρ x))).1, (cvH P h src dst (st1 (ρ x))).2)
  | .nilCheck x => match st1 (ρ x) with
    | .ptr id i j => (gk (ρ x), .ptr id i j)
    | .fptr es i j => (gk (ρ x), .fptr es i j)
    | _ => (False, .undef)
  | .build t parts => match tplaces P t with
    | some (pl, z) => match fillV (fun i => pl[i]?) z (parts.toList.map fun p => (p.1, st1 (ρ p.2))) with
      | some cs => (allGk ρ (parts.toList.map (·.2)), .agg cs)
      | none => (False, .undef)
    | none => match tarrZ P t, parts.toList with
      | some z, [] => (True, .agg z)
      | _, _ => (False, .undef)
  | .makeFunc fn first cap => (allGk ρ first.toList ∧ allGk ρ cap.toList, .fn fn (first.toList.map fun x => st1 (ρ x)) (cap.toList.map fun x => st1 (ρ x)))
  | .call { callee := .builtin b, args, argTypes } => match b, args.toList, argTypes.toList with
    | .len, [x], [t] => (gk (ρ x) ∧ (lenV P t (st1 (ρ x))).1, (lenV P t (st1 (ρ x))).2)
    | .min, [x, y], _ => (gk (ρ x) ∧ gk (ρ y) ∧ (minV [st1 (ρ x), st1 (ρ y)]).1, (minV [st1 (ρ x), st1 (ρ y)]).2)
    | .max, [x, y], _ => (gk (ρ x) ∧ gk (ρ y) ∧ (maxV [st1 (ρ x), st1 (ρ y)]).1, (maxV [st1 (ρ x), st1 (ρ y)]).2)
    | _, _, _ => (False, .undef)
  | _ => (False, .undef)
end HK
