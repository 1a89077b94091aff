/- The deterministic reading of Go code on trees and owned blocks: values, operations, their effects. -/
import GoSem.Claims
import Derived.Orders
import Derived.Still
set_option linter.unusedSimpArgs false
set_option linter.unusedVariables false
namespace Go.AM

/-- Abstract values: scalars, owned references (a block's number), and immutable trees. -/
inductive AV where
  | any
  | bool (b : Bool)
  | int (k : IntKind) (n : Int)
  | str (s : ByteArray)
  | nilp | nils | nilm | nilf | nili
  | ptr (sz b i j : Nat)
  | cptr (cs : List AV)
  | sl (sz b i n : Nat)
  | tsl (sz : Nat) (es : List (List AV))
  | map (b : Nat)
  | fn (f : Nat) (first caps : List AV)
  | iface (t : Nat) (v : AV)
  | agg (cs : List AV)
  | tup (vs : List AV)
  deriving Inhabited

inductive Blk where
  | rows (sz : Nat) (es : List (List AV))
  | mp (es : List (AV × AV))
  deriving Inhabited

/-- Sorted association lists. -/
def get {α : Type} : List (Nat × α) → Nat → Option α
  | [], _ => none
  | (k, v) :: l, x => if k = x then some v else get l x

def ins {α : Type} (x : Nat) (v : α) : List (Nat × α) → List (Nat × α)
  | [] => [(x, v)]
  | (k, u) :: l => if x < k then (x, v) :: (k, u) :: l else if x = k then (x, v) :: l else (k, u) :: ins x v l

def del {α : Type} (x : Nat) : List (Nat × α) → List (Nat × α)
  | [] => []
  | (k, u) :: l => if k = x then del x l else (k, u) :: del x l

abbrev Vars := List (Nat × AV)
abbrev Heap := List (Nat × Blk)

inductive LArg where
  | t (x : Nat)
  | c (v : AV)
  deriving Inhabited

def LArg.ev (vs : Vars) : LArg → AV
  | .t x => (get vs x).getD .any
  | .c v => v

/-- Kinds that are compared at sight. -/
inductive EK where
  | b | i | s
  deriving DecidableEq, Inhabited

inductive LK where
  | str | sli | mp
  deriving DecidableEq, Inhabited

inductive KT where
  | sc (k : EK)
  | ag (ks : List EK)
  deriving Inhabited

inductive LOp where
  | mv (x : LArg)
  | own (sz : Nat)
  | pick (c a b : LArg)
  | newv (zero : List AV)
  | box (sz : Nat) (x : LArg)
  | build (zero : List AV) (parts : List (Nat × Nat × LArg))
  | bsl (sz n : Nat) (zero : List AV) (parts : List (Nat × LArg))
  | btsl (sz n : Nat) (zero : List AV) (parts : List (Nat × LArg))
  | load (agg : Bool) (n : Nat) (a : LArg)
  | store (n : Nat) (a x : LArg)
  | bin (op : BinOp) (x y : LArg)
  | eq (neg : Bool) (t : KT) (x y : LArg)
  | not (x : LArg)
  | neg (x : LArg)
  | conv (k : IntKind) (x : LArg)
  | mkfn (f : Nat) (first caps : List LArg)
  | mkmap
  | mksl (sz : Nat) (zero : List AV) (bytes : Nat) (l c : LArg)
  | slice (sz : Nat) (x : LArg) (lo hi mx : Option LArg)
  | substr (x : LArg) (lo hi : Option LArg)
  | fadr (off : Nat) (x : LArg)
  | idxa (sz : Nat) (x i : LArg)
  | idxp (esz len : Nat) (x i : LArg)
  | field (agg : Bool) (off n : Nat) (x : LArg)
  | idxs (x i : LArg)
  | idxc (agg : Bool) (esz len : Nat) (x i : LArg)
  | lookup (ok : Bool) (t : KT) (zero : AV) (x k : LArg)
  | mapupd (t : KT) (x k v : LArg)
  | extract (x : LArg) (i : Nat)
  | len (k : LK) (x : LArg)
  | lenc (n : Nat)
  | append (sz bytes : Nat) (x y : LArg)
  | copy (sz : Nat) (x y : LArg)
  | maxs (xs : List LArg)
  | mins (xs : List LArg)
  | nilck (x : LArg)
  | call (q : Bool) (f : LArg) (args : List LArg)
  deriving Inhabited

structure LOper where
  dst : Option Nat
  op : LOp
  guard : Option (Nat × Bool)
  deriving Inhabited

inductive LCode where
  | skip
  | region (ops : List LOper) (draw : Bool)
  | seq (a b : LCode)
  | cond (c : LArg) (a b : LCode)
  | block (id : Nat) (c : LCode)
  | loop (c : LCode)
  | exit (id : Nat)
  | ret
  deriving Inhabited

/-- What an operation does: its value, a new block under its own number, a block that is used up, a block that is changed. -/
structure Eff where
  val : AV
  new : Option Blk := none
  kill : Option Nat := none
  upd : Option (Nat × Blk) := none

def grd {α : Type} (b : Bool) (x : Option α) : Option α := match b with | true => x | false => none

def AV.cells : AV → List AV
  | .agg cs => cs
  | v => [v]

def AV.scalar : AV → Bool
  | .agg _ | .tup _ | .any => false
  | _ => true

def ldCells (agg : Bool) (n : Nat) (cs : List AV) : Option AV :=
  match agg with
  | true => grd (decide (n ≤ cs.length)) (some (.agg (cs.take n)))
  | false => match cs with | c :: _ => some c | [] => none

def setAt (cs : List AV) (off : Nat) (vs : List AV) : List AV := cs.take off ++ (vs ++ cs.drop (off + vs.length))

def AV.known : AV → Bool
  | .any => false
  | _ => true

def chunks (sz : Nat) : Nat → List AV → List (List AV)
  | 0, _ => []
  | n + 1, cs => cs.take sz :: chunks sz n (cs.drop sz)

def fillL : List AV → List (Nat × Nat × AV) → Option (List AV)
  | cs, [] => some cs
  | cs, (off, n, v) :: r => grd (v.known && (decide (v.cells.length = n) && (decide (off + n ≤ cs.length) && v.cells.all AV.scalar))) (fillL (setAt cs off v.cells) r)

def binI (op : BinOp) (k : IntKind) (a b : Int) : Option AV :=
  match op with
  | .add => some (.int k (k.wrap (a + b)))
  | .sub => some (.int k (k.wrap (a - b)))
  | .mul => some (.int k (k.wrap (a * b)))
  | .quo => grd (decide (b ≠ 0)) (some (.int k (k.wrap (a.tdiv b))))
  | .rem => grd (decide (b ≠ 0)) (some (.int k (a.tmod b)))
  | .eql => some (.bool (a == b))
  | .neq => some (.bool (a != b))
  | .lss => some (.bool (decide (a < b)))
  | .leq => some (.bool (decide (a ≤ b)))
  | .gtr => some (.bool (decide (a > b)))
  | .geq => some (.bool (decide (a ≥ b)))
  | .and => some (.int k (k.wrap (BitVec.ofInt k.bits a &&& BitVec.ofInt k.bits b).toNat))
  | .or => some (.int k (k.wrap (BitVec.ofInt k.bits a ||| BitVec.ofInt k.bits b).toNat))
  | .xor => some (.int k (k.wrap (BitVec.ofInt k.bits a ^^^ BitVec.ofInt k.bits b).toNat))
  | .andNot => some (.int k (k.wrap (BitVec.ofInt k.bits a &&& ~~~(BitVec.ofInt k.bits b)).toNat))
  | .shl => none
  | .shr => none

def binSh (op : BinOp) (k : IntKind) (a b : Int) : Option AV :=
  match op with
  | .shl => grd (decide (0 ≤ b)) (some (.int k (k.wrap (a * 2 ^ min b.toNat k.bits))))
  | .shr => grd (decide (0 ≤ b)) (some (.int k (a.fdiv (2 ^ min b.toNat k.bits))))
  | _ => none

def binS (op : BinOp) (a b : ByteArray) : Option AV :=
  match op with
  | .add => grd (decide (a.size + b.size ≤ 1099511627776)) (some (.str (a ++ b)))
  | .eql => some (.bool (a.toList == b.toList))
  | .neq => some (.bool (!(a.toList == b.toList)))
  | .lss => some (.bool (Op.bytesLess a.toList b.toList))
  | .leq => some (.bool (Op.bytesLess a.toList b.toList || a.toList == b.toList))
  | .gtr => some (.bool (!(Op.bytesLess a.toList b.toList || a.toList == b.toList)))
  | .geq => some (.bool (!(Op.bytesLess a.toList b.toList)))
  | _ => none

def binV (op : BinOp) (x y : AV) : Option AV :=
  match x, y with
  | .int k a, .int k' b => match op with
    | .shl => binSh .shl k a b
    | .shr => binSh .shr k a b
    | op => grd (decide (k = k')) (binI op k a b)
  | .str a, .str b => binS op a b
  | _, _ => none

/-- Equality of scalars, and of aggregates of scalars. -/
def eqS : EK → AV → AV → Option Bool
  | .b, .bool a, .bool b => some (a == b)
  | .i, .int k a, .int k' b => grd (decide (k = k')) (some (a == b))
  | .s, .str a, .str b => some (a == b)
  | _, _, _ => none

def eqL : List EK → List AV → List AV → Option Bool
  | [], [], [] => some true
  | k :: ks, a :: x, b :: y => match eqS k a b with
    | some true => eqL ks x y
    | some false => some false
    | none => none
  | _, _, _ => none

def eqV : KT → AV → AV → Option Bool
  | .ag ks, .agg x, .agg y => eqL ks x y
  | .sc k, x, y => eqS k x y
  | _, _, _ => none

def findKV (t : KT) (k : AV) : List (AV × AV) → Nat → Option (Option (Nat × AV))
  | [], _ => some none
  | (k', v) :: es, i => match eqV t k k' with
    | some true => some (some (i, v))
    | some false => findKV t k es (i + 1)
    | none => none

/-- A key that may be one. -/
def keyOK (kt : KT) : AV → Bool
  | .agg cs => match kt with
    | .ag ks => decide (cs.length = ks.length)
    | .sc _ => false
  | _ => match kt with
    | .ag _ => false
    | .sc _ => true

def lkV (ok : Bool) (zero : AV) (r : Option (Nat × AV)) : AV := match r with
  | some p => (match ok with | true => .tup [p.2, .bool true] | false => p.2)
  | none => (match ok with | true => .tup [zero, .bool false] | false => zero)

def eqOp (ng : Bool) : BinOp := match ng with
  | true => .neq
  | false => .eql

def updE (r : Option (Nat × AV)) (l : List (AV × AV)) (k y : AV) : List (AV × AV) := match r with
  | some p => l.modify p.1 fun _ => (k, y)
  | none => l ++ [(k, y)]

def bytesRows (s : ByteArray) : List (List AV) := s.data.toList.map fun b => [.int .u8 b.toNat]

/-- A slice's elements. -/
def elems (H : Heap) (sz : Nat) : AV → Option (List (List AV))
  | .nils => some []
  | .tsl sz' es => grd (decide (sz' = sz)) (some es)
  | .sl sz' b i n => grd (decide (sz' = sz)) (match get H b with
    | some (.rows sz'' es) => grd (decide (sz'' = sz) && decide (i + n ≤ es.length)) (some ((es.drop i).take n))
    | _ => none)
  | .str s => grd (decide (sz = 1)) (some (bytesRows s))
  | _ => none

/-- A bound of a slice expression. -/
def bnd (d : Nat) : Option AV → Option Int
  | none => some d
  | some (.int _ n) => some n
  | some _ => none

def mxI : AV → List AV → Option AV
  | x, [] => some x
  | .int k x, .int k' y :: r => grd (decide (k = k')) (mxI (.int k (if y > x then y else x)) r)
  | _, _ => none

def mnI : AV → List AV → Option AV
  | x, [] => some x
  | .int k x, .int k' y :: r => grd (decide (k = k')) (mnI (.int k (if y < x then y else x)) r)
  | _, _ => none

def splice (es : List (List AV)) (i : Nat) (ys : List (List AV)) : List (List AV) := es.take i ++ (ys ++ es.drop (i + ys.length))

def opEff (H : Heap) (vs : Vars) (id : Nat) : LOp → Option Eff
  | .mv x => some { val := x.ev vs }
  | .own sz => some { val := .sl sz id 0 0, new := some (.rows sz []) }
  | .pick c a b => match c.ev vs with
    | .bool t => some { val := match t with | true => a.ev vs | false => b.ev vs }
    | _ => none
  | .newv zero => some { val := .ptr zero.length id 0 0, new := some (.rows zero.length [zero]) }
  | .box sz x => grd (decide ((x.ev vs).cells.length = sz) && (x.ev vs).cells.all AV.scalar) (some { val := .ptr sz id 0 0, new := some (.rows sz [(x.ev vs).cells]) })
  | .build zero parts => match fillL zero (parts.map fun p => (p.1, p.2.1, p.2.2.ev vs)) with
    | some cs => some { val := .agg cs }
    | none => none
  | .bsl sz n zero parts => match fillL (List.replicate n zero).flatten (parts.map fun p => (p.1 * sz, sz, p.2.ev vs)) with
    | some cs => some { val := .sl sz id 0 n, new := some (.rows sz (chunks sz n cs)) }
    | none => none
  | .btsl sz n zero parts => match fillL (List.replicate n zero).flatten (parts.map fun p => (p.1 * sz, sz, p.2.ev vs)) with
    | some cs => some { val := .tsl sz (chunks sz n cs) }
    | none => none
  | .load ag n a => match a.ev vs with
    | .ptr sz b i j => match get H b with
      | some (.rows sz' es) => grd (decide (sz' = sz) && decide (i < es.length)) (match ldCells ag n ((es.getD i []).drop j) with
        | some v => some { val := v }
        | none => none)
      | _ => none
    | .cptr cs => match ldCells ag n cs with
      | some v => some { val := v }
      | none => none
    | _ => none
  | .store n a x => match a.ev vs with
    | .ptr sz b i j => match get H b with
      | some (.rows sz' es) => grd (decide (sz' = sz) && (decide (i < es.length) && (decide ((x.ev vs).cells.length = n) && (decide (j + n ≤ sz) && (x.ev vs).cells.all AV.scalar))))
          (some { val := .any, upd := some (b, .rows sz (es.set i (setAt (es.getD i []) j (x.ev vs).cells))) })
      | _ => none
    | _ => none
  | .bin op x y => match binV op (x.ev vs) (y.ev vs) with
    | some v => some { val := v }
    | none => none
  | .eq ng t x y => match eqV t (x.ev vs) (y.ev vs) with
    | some b => some { val := .bool (ng ^^ b) }
    | none => none
  | .not x => match x.ev vs with
    | .bool b => some { val := .bool (!b) }
    | _ => none
  | .neg x => match x.ev vs with
    | .int k n => some { val := .int k (k.wrap (0 - n)) }
    | _ => none
  | .conv k x => match x.ev vs with
    | .int _ n => some { val := .int k (k.wrap n) }
    | _ => none
  | .mkfn f first caps => some { val := .fn f (first.map (·.ev vs)) (caps.map (·.ev vs)) }
  | .mkmap => some { val := .map id, new := some (.mp []) }
  | .mksl sz zero bytes l c => match l.ev vs, c.ev vs with
    | .int _ l, .int _ c => grd (decide (0 ≤ l) && (decide (l ≤ c) && decide (c * bytes ≤ 17592186044416))) (some { val := .sl sz id 0 l.toNat, new := some (.rows sz (List.replicate l.toNat zero)) })
    | _, _ => none
  | .slice sz x lo hi mx => match x.ev vs with
    | .sl sz' b i n => match bnd 0 (lo.map (·.ev vs)), bnd n (hi.map (·.ev vs)), bnd n (mx.map (·.ev vs)) with
      | some l, some h, some m => grd (decide (sz' = sz) && (decide (0 ≤ l) && (decide (l ≤ h) && (decide (h ≤ m) && decide (m ≤ n))))) (some { val := .sl sz b (i + l.toNat) (h - l).toNat })
      | _, _, _ => none
    | .tsl sz' es => match bnd 0 (lo.map (·.ev vs)), bnd es.length (hi.map (·.ev vs)), bnd es.length (mx.map (·.ev vs)) with
      | some l, some h, some m => grd (decide (sz' = sz) && (decide (0 ≤ l) && (decide (l ≤ h) && (decide (h ≤ m) && decide (m ≤ es.length))))) (some { val := .tsl sz ((es.drop l.toNat).take (h - l).toNat) })
      | _, _, _ => none
    | .nils => match bnd 0 (lo.map (·.ev vs)), bnd 0 (hi.map (·.ev vs)), bnd 0 (mx.map (·.ev vs)) with
      | some l, some h, some m => grd (decide (l = 0) && (decide (h = 0) && decide (m = 0))) (some { val := .nils })
      | _, _, _ => none
    | _ => none
  | .substr x lo hi => match x.ev vs with
    | .str s => match bnd 0 (lo.map (·.ev vs)), bnd s.size (hi.map (·.ev vs)) with
      | some l, some h => grd (decide (0 ≤ l) && (decide (l ≤ h) && decide (h ≤ s.size))) (some { val := .str (s.extract l.toNat h.toNat) })
      | _, _ => none
    | _ => none
  | .fadr off x => match x.ev vs with
    | .ptr sz b i j => some { val := .ptr sz b i (j + off) }
    | .cptr cs => some { val := .cptr (cs.drop off) }
    | _ => none
  | .idxa sz x i => match i.ev vs with
    | .int _ k => match x.ev vs with
      | .sl sz' b o n => grd (decide (sz' = sz) && (decide (0 ≤ k) && decide (k < n))) (some { val := .ptr sz b (o + k.toNat) 0 })
      | .tsl sz' es => grd (decide (sz' = sz) && (decide (0 ≤ k) && decide (k < es.length))) (some { val := .cptr (es.getD k.toNat []) })
      | _ => none
    | _ => none
  | .idxp esz len x i => match i.ev vs with
    | .int _ k => grd (decide (0 ≤ k) && decide (k < len)) (match x.ev vs with
      | .ptr sz b o j => some { val := .ptr sz b o (j + k.toNat * esz) }
      | .cptr cs => some { val := .cptr (cs.drop (k.toNat * esz)) }
      | _ => none)
    | _ => none
  | .field ag off n x => match x.ev vs with
    | .agg cs => match ldCells ag n (cs.drop off) with
      | some v => some { val := v }
      | none => none
    | _ => none
  | .idxs x i => match i.ev vs with
    | .int _ k => match x.ev vs with
      | .str s => grd (decide (0 ≤ k) && decide (k < s.size)) (some { val := .int .u8 (s.data.toList.getD k.toNat 0).toNat })
      | _ => none
    | _ => none
  | .idxc ag esz len x i => match i.ev vs with
    | .int _ k => grd (decide (0 ≤ k) && decide (k < len)) (match x.ev vs with
      | .agg cs => match ldCells ag esz (cs.drop (k.toNat * esz)) with
        | some v => some { val := v }
        | none => none
      | _ => none)
    | _ => none
  | .lookup ok t zero x k => grd (keyOK t (k.ev vs)) (match x.ev vs with
    | .map b => match get H b with
      | some (.mp es) => match findKV t (k.ev vs) es 0 with
        | some r => some { val := lkV ok zero r }
        | none => none
      | _ => none
    | .nilm => some { val := lkV ok zero none }
    | _ => none)
  | .mapupd t x k v => grd (keyOK t (k.ev vs)) (match x.ev vs with
    | .map b => match get H b with
      | some (.mp es) => match findKV t (k.ev vs) es 0 with
        | some r => some { val := .any, upd := some (b, .mp (updE r es (k.ev vs) (v.ev vs))) }
        | none => none
      | _ => none
    | _ => none)
  | .extract x i => match x.ev vs with
    | .tup l => match l[i]? with
      | some v => some { val := v }
      | none => none
    | _ => none
  | .len k x => match k with
    | .str => match x.ev vs with
      | .str s => some { val := .int .i64 s.size }
      | _ => none
    | .sli => match x.ev vs with
      | .nils => some { val := .int .i64 0 }
      | .sl _ _ _ n => some { val := .int .i64 n }
      | .tsl _ es => some { val := .int .i64 es.length }
      | _ => none
    | .mp => match x.ev vs with
      | .nilm => some { val := .int .i64 0 }
      | .map b => match get H b with
        | some (.mp es) => some { val := .int .i64 es.length }
        | _ => none
      | _ => none
  | .lenc n => some { val := .int .i64 n }
  | .append sz bytes x y => match elems H sz (y.ev vs) with
    | some ys => match x.ev vs with
      | .nils => grd (decide (ys.length * bytes ≤ 17592186044416)) (some { val := .sl sz id 0 ys.length, new := some (.rows sz ys) })
      | .sl sz' b i n => match get H b with
        | some (.rows sz'' es) => grd (decide (sz' = sz) && (decide (sz'' = sz) && (decide (i + n ≤ es.length) && decide ((n + ys.length) * bytes ≤ 17592186044416))))
            (some { val := .sl sz id 0 (n + ys.length), new := some (.rows sz ((es.drop i).take n ++ ys)), kill := some b })
        | _ => none
      | _ => none
    | none => none
  | .copy sz x y => match elems H sz (y.ev vs) with
    | some ys => match x.ev vs with
      | .nils => some { val := .int .i64 0 }
      | .sl sz' b i n => match get H b with
        | some (.rows sz'' es) => grd (decide (sz' = sz) && (decide (sz'' = sz) && (decide (i + n ≤ es.length))))
            (some { val := .int .i64 (min ys.length n : Nat), upd := some (b, .rows sz (splice es i (ys.take n))) })
        | _ => none
      | _ => none
    | none => none
  | .maxs xs => match xs.map (·.ev vs) with
    | x :: r => match mxI x r with
      | some v => some { val := v }
      | none => none
    | [] => none
  | .mins xs => match xs.map (·.ev vs) with
    | x :: r => match mnI x r with
      | some v => some { val := v }
      | none => none
    | [] => none
  | .nilck x => match x.ev vs with
    | .ptr sz b i j => some { val := .ptr sz b i j }
    | .cptr cs => some { val := .cptr cs }
    | .fn f fs cs => some { val := .fn f fs cs }
    | _ => none
  | .call _ _ _ => none
end Go.AM
