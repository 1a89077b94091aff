/- A part of a proof about the given program: what its name says. No premise beyond the statements'. -/
import GoSem.Claims
import Derived.Orders
import Derived.Still
import Derived.Laws.Sem
import Derived.Laws.StructEq
import Derived.ChangeKeysEq
set_option linter.unusedSimpArgs false
set_option linter.unusedVariables false
/- The deterministic reading of Go code on trees and owned blocks: values, operations, their effects. -/
namespace Go.AM
noncomputable section

/-- Abstract values: scalars, owned references (a block's number), and immutable trees. -/
inductive AV where
  | any
  | bool (b : Bool)
  | int (k : IntKind) (n : Int)
  | str (s : ByteArray)
  | nilp | nils | nilm | nilf | nili
  | ptr (sz b i j : Nat)
  | cptr (cs : List AV)
  | sl (sz b i n : Nat)
  | tsl (sz : Nat) (es : List (List AV))
  | map (b : Nat)
  | fn (f : Nat) (first caps : List AV)
  | iface (t : Nat) (v : AV)
  | agg (cs : List AV)
  | tup (vs : List AV)
  deriving Inhabited

inductive Blk where
  | rows (sz : Nat) (es : List (List AV))
  | mp (es : List (AV × AV))
  | it (s : ByteArray) (pos : Nat)
  deriving Inhabited

/-- Sorted association lists. -/
def get {α : Type} (l : List (Nat × α)) (x : Nat) : Option α :=
  List.rec (motive := fun _ => Option α) none (fun p _ ih => Bool.casesOn (motive := fun _ => Option α) (Nat.beq p.1 x) ih (some p.2)) l
theorem get_e0 {α : Type} (x : Nat) : get ([] : List (Nat × α)) x = none := rfl
theorem get_e1 {α : Type} (k : Nat) (v : α) (l : List (Nat × α)) (x : Nat) : get ((k, v) :: l) x = if k = x then some v else get l x := by
  show Bool.casesOn (motive := fun _ => Option α) (Nat.beq k x) (get l x) (some v) = _
  by_cases h : k = x
  · subst h; rw [if_pos rfl, Nat.beq_refl]
  · rw [if_neg h]
    cases hb : Nat.beq k x with
    | false => rfl
    | true => exact absurd (Nat.eq_of_beq_eq_true hb) h

/-- The greatest stands first. -/
def ins {α : Type} (x : Nat) (v : α) (l : List (Nat × α)) : List (Nat × α) :=
  List.rec (motive := fun _ => List (Nat × α)) [(x, v)] (fun p l ih => Bool.casesOn (motive := fun _ => List (Nat × α)) (Nat.ble (Nat.succ p.1) x) (Bool.casesOn (motive := fun _ => List (Nat × α)) (Nat.beq x p.1) (p :: ih) ((x, v) :: l)) ((x, v) :: p :: l)) l
theorem ins_e0 {α : Type} (x : Nat) (v : α) : ins x v [] = [(x, v)] := rfl
theorem ins_e1 {α : Type} (x : Nat) (v : α) (k : Nat) (u : α) (l : List (Nat × α)) : ins x v ((k, u) :: l) = if k < x then (x, v) :: (k, u) :: l else if x = k then (x, v) :: l else (k, u) :: ins x v l := by
  show Bool.casesOn (motive := fun _ => List (Nat × α)) (Nat.ble (Nat.succ k) x) (Bool.casesOn (motive := fun _ => List (Nat × α)) (Nat.beq x k) ((k, u) :: ins x v l) ((x, v) :: l)) ((x, v) :: (k, u) :: l) = _
  by_cases h : k < x
  · rw [if_pos h, Nat.ble_eq_true_of_le h]
  · rw [if_neg h]
    have hb : Nat.ble (Nat.succ k) x = false := by
      cases hb : Nat.ble (Nat.succ k) x with
      | false => rfl
      | true => exact absurd (Nat.le_of_ble_eq_true hb) h
    rw [hb]
    by_cases h : x = k
    · subst h; rw [if_pos rfl, Nat.beq_refl]
    · rw [if_neg h]
      cases hb : Nat.beq x k with
      | false => rfl
      | true => exact absurd (Nat.eq_of_beq_eq_true hb) h

def del {α : Type} (x : Nat) : List (Nat × α) → List (Nat × α)
  | [] => []
  | (k, u) :: l => if k = x then del x l else (k, u) :: del x l

abbrev Vars := List (Nat × AV)
abbrev Heap := List (Nat × Blk)

inductive LArg where
  | t (x : Nat)
  | c (v : AV)
  deriving Inhabited

def LArg.ev (vs : Vars) : LArg → AV
  | .t x => (get vs x).getD .any
  | .c v => v

/-- Kinds that are compared at sight. -/
inductive EK where
  | b | i | s
  deriving DecidableEq, Inhabited

inductive LK where
  | str | sli | mp
  deriving DecidableEq, Inhabited

inductive KT where
  | sc (k : EK)
  | ag (ks : List EK)
  deriving Inhabited

inductive LOp where
  | mv (x : LArg)
  | own (sz : Nat)
  | pick (c a b : LArg)
  | newv (zero : List AV)
  | box (sz : Nat) (x : LArg)
  | boxt (sz : Nat) (x : LArg)
  | build (zero : List AV) (parts : List (Nat × Nat × LArg))
  | bsl (sz n : Nat) (zero : List AV) (parts : List (Nat × LArg))
  | btsl (sz n : Nat) (zero : List AV) (parts : List (Nat × LArg))
  | load (agg : Bool) (n : Nat) (a : LArg)
  | store (n : Nat) (a x : LArg)
  | bin (op : BinOp) (x y : LArg)
  | eq (neg : Bool) (t : KT) (x y : LArg)
  | not (x : LArg)
  | neg (x : LArg)
  | conv (k : IntKind) (x : LArg)
  | mkfn (f : Nat) (first caps : List LArg)
  | mkmap
  | mksl (sz : Nat) (zero : List AV) (bytes : Nat) (l c : LArg)
  | slice (sz : Nat) (x : LArg) (lo hi mx : Option LArg)
  | substr (x : LArg) (lo hi : Option LArg)
  | fadr (off : Nat) (x : LArg)
  | idxa (sz : Nat) (x i : LArg)
  | idxp (esz len : Nat) (x i : LArg)
  | field (agg : Bool) (off n : Nat) (x : LArg)
  | idxs (x i : LArg)
  | idxc (agg : Bool) (esz len : Nat) (x i : LArg)
  | lookup (ok : Bool) (t : KT) (zero : AV) (x k : LArg)
  | mapupd (t : KT) (x k v : LArg)
  | extract (x : LArg) (i : Nat)
  | len (k : LK) (x : LArg)
  | lenc (n : Nat)
  | append (sz bytes : Nat) (x y : LArg)
  | copy (sz : Nat) (x y : LArg)
  | maxs (xs : List LArg)
  | mins (xs : List LArg)
  | nilck (x : LArg)
  | appendH (sz bytes : Nat) (x y : LArg)
  | clr (sz : Nat) (zero : List AV) (x : LArg)
  | nilS (ng : Bool) (x : LArg)
  | capn (x : LArg)
  | appn (sz : Nat) (x y : LArg)
  | appz (sz : Nat) (zero : List AV) (bytes : Nat) (x y : LArg)
  | bad
  | ifnil (ng : Bool) (x : LArg)
  | loadF (agg : Bool) (n : Nat) (a : LArg)
  | storeF (n : Nat) (a x : LArg)
  | ibs (x c : LArg)
  | rng (x : LArg)
  | nxt (x : LArg)
  | call (q : Bool) (f : LArg) (args : List LArg)
  deriving Inhabited

structure LOper where
  dst : Option Nat
  op : LOp
  guard : Option (Nat × Bool)
  deriving Inhabited

inductive LCode where
  | skip
  | region (ops : List LOper) (draw : Bool)
  | seq (a b : LCode)
  | cond (c : LArg) (a b : LCode)
  | block (id : Nat) (c : LCode)
  | loop (c : LCode)
  | scope (c : LCode)
  | exit (id : Nat)
  | goto (l : Nat)
  | jump (l : Nat) (x y : LCode)
  | regionL (ops : List LOper) (l : LOper)
  | regionH (os : List (LOper × Nat × Nat))
  | ret
  deriving Inhabited

/-- What an operation does: its value, a new block under its own number, a block that is used up, a block that is changed. -/
structure Eff where
  val : AV
  new : Option Blk := none
  kill : Option Nat := none
  upd : Option (Nat × Blk) := none

def grd {α : Type} (b : Bool) (x : Option α) : Option α := match b with | true => x | false => none

def AV.cells : AV → List AV
  | .agg cs => cs
  | v => [v]

def AV.scalar : AV → Bool
  | .agg _ | .tup _ | .any => false
  | _ => true

def ldCells (agg : Bool) (n : Nat) (cs : List AV) : Option AV :=
  match agg with
  | true => grd (decide (n ≤ cs.length)) (some (.agg (cs.take n)))
  | false => match cs with | c :: _ => some c | [] => none

def setAt (cs : List AV) (off : Nat) (vs : List AV) : List AV := cs.take off ++ (vs ++ cs.drop (off + vs.length))

def AV.known : AV → Bool
  | .any => false
  | _ => true

def chunks (sz : Nat) : Nat → List AV → List (List AV)
  | 0, _ => []
  | n + 1, cs => cs.take sz :: chunks sz n (cs.drop sz)

def fillL : List AV → List (Nat × Nat × AV) → Option (List AV)
  | cs, [] => some cs
  | cs, (off, n, v) :: r => grd (v.known && (decide (v.cells.length = n) && (decide (off + n ≤ cs.length) && v.cells.all AV.scalar))) (fillL (setAt cs off v.cells) r)

def binI (op : BinOp) (k : IntKind) (a b : Int) : Option AV :=
  match op with
  | .add => some (.int k (k.wrap (a + b)))
  | .sub => some (.int k (k.wrap (a - b)))
  | .mul => some (.int k (k.wrap (a * b)))
  | .quo => grd (decide (b ≠ 0)) (some (.int k (k.wrap (a.tdiv b))))
  | .rem => grd (decide (b ≠ 0)) (some (.int k (a.tmod b)))
  | .eql => some (.bool (a == b))
  | .neq => some (.bool (a != b))
  | .lss => some (.bool (decide (a < b)))
  | .leq => some (.bool (decide (a ≤ b)))
  | .gtr => some (.bool (decide (a > b)))
  | .geq => some (.bool (decide (a ≥ b)))
  | .and => some (.int k (k.wrap (BitVec.ofInt k.bits a &&& BitVec.ofInt k.bits b).toNat))
  | .or => some (.int k (k.wrap (BitVec.ofInt k.bits a ||| BitVec.ofInt k.bits b).toNat))
  | .xor => some (.int k (k.wrap (BitVec.ofInt k.bits a ^^^ BitVec.ofInt k.bits b).toNat))
  | .andNot => some (.int k (k.wrap (BitVec.ofInt k.bits a &&& ~~~(BitVec.ofInt k.bits b)).toNat))
  | .shl => none
  | .shr => none

def binSh (op : BinOp) (k : IntKind) (a b : Int) : Option AV :=
  match op with
  | .shl => grd (decide (0 ≤ b)) (some (.int k (k.wrap (a * 2 ^ min b.toNat k.bits))))
  | .shr => grd (decide (0 ≤ b)) (some (.int k (a.fdiv (2 ^ min b.toNat k.bits))))
  | _ => none

def binS (op : BinOp) (a b : ByteArray) : Option AV :=
  match op with
  | .add => grd (decide (a.size + b.size ≤ 1099511627776)) (some (.str (a ++ b)))
  | .eql => some (.bool (a.toList == b.toList))
  | .neq => some (.bool (!(a.toList == b.toList)))
  | .lss => some (.bool (Op.bytesLess a.toList b.toList))
  | .leq => some (.bool (Op.bytesLess a.toList b.toList || a.toList == b.toList))
  | .gtr => some (.bool (!(Op.bytesLess a.toList b.toList || a.toList == b.toList)))
  | .geq => some (.bool (!(Op.bytesLess a.toList b.toList)))
  | _ => none

def binV (op : BinOp) (x y : AV) : Option AV :=
  match x, y with
  | .int k a, .int k' b => match op with
    | .shl => binSh .shl k a b
    | .shr => binSh .shr k a b
    | op => grd (decide (k = k')) (binI op k a b)
  | .str a, .str b => binS op a b
  | _, _ => none

/-- Equality of scalars, and of aggregates of scalars. -/
def eqS : EK → AV → AV → Option Bool
  | .b, .bool a, .bool b => some (a == b)
  | .i, .int k a, .int k' b => grd (decide (k = k')) (some (a == b))
  | .s, .str a, .str b => some (a == b)
  | _, _, _ => none

def eqL : List EK → List AV → List AV → Option Bool
  | [], [], [] => some true
  | k :: ks, a :: x, b :: y => match eqS k a b with
    | some true => eqL ks x y
    | some false => some false
    | none => none
  | _, _, _ => none

def eqV : KT → AV → AV → Option Bool
  | .ag ks, .agg x, .agg y => eqL ks x y
  | .sc k, x, y => eqS k x y
  | _, _, _ => none

def findKV (t : KT) (k : AV) : List (AV × AV) → Nat → Option (Option (Nat × AV))
  | [], _ => some none
  | (k', v) :: es, i => match eqV t k k' with
    | some true => some (some (i, v))
    | some false => findKV t k es (i + 1)
    | none => none

/-- A key that may be one. -/
def keyOK (kt : KT) : AV → Bool
  | .agg cs => match kt with
    | .ag ks => decide (cs.length = ks.length)
    | .sc _ => false
  | _ => match kt with
    | .ag _ => false
    | .sc _ => true

def lkV (ok : Bool) (zero : AV) (r : Option (Nat × AV)) : AV := match r with
  | some p => (match ok with | true => .tup [p.2, .bool true] | false => p.2)
  | none => (match ok with | true => .tup [zero, .bool false] | false => zero)

def eqOp (ng : Bool) : BinOp := match ng with
  | true => .neq
  | false => .eql

def updE (r : Option (Nat × AV)) (l : List (AV × AV)) (k y : AV) : List (AV × AV) := match r with
  | some p => l.modify p.1 fun _ => (k, y)
  | none => l ++ [(k, y)]

def bytesRows (s : ByteArray) : List (List AV) := s.data.toList.map fun b => [.int .u8 b.toNat]

/-- A slice's elements. -/
def elems (H : Heap) (sz : Nat) : AV → Option (List (List AV))
  | .nils => some []
  | .tsl sz' es => grd (decide (sz' = sz)) (some es)
  | .sl sz' b i n => grd (decide (sz' = sz)) (match get H b with
    | some (.rows sz'' es) => grd (decide (sz'' = sz) && decide (i + n ≤ es.length)) (some ((es.drop i).take n))
    | _ => none)
  | .str s => grd (decide (sz = 1)) (some (bytesRows s))
  | _ => none

/-- A bound of a slice expression. -/
def bnd (d : Nat) : Option AV → Option Int
  | none => some d
  | some (.int _ n) => some n
  | some _ => none

def mxI : AV → List AV → Option AV
  | x, [] => some x
  | .int k x, .int k' y :: r => grd (decide (k = k')) (mxI (.int k (if y > x then y else x)) r)
  | _, _ => none

def mnI : AV → List AV → Option AV
  | x, [] => some x
  | .int k x, .int k' y :: r => grd (decide (k = k')) (mnI (.int k (if y < x then y else x)) r)
  | _, _ => none

def splice (es : List (List AV)) (i : Nat) (ys : List (List AV)) : List (List AV) := es.take i ++ (ys ++ es.drop (i + ys.length))

/-- What 'append' does. -/
def appEff (H : Heap) (vs : Vars) (id sz bytes : Nat) (x y : LArg) : Option Eff := match elems H sz (y.ev vs) with
  | some ys => match x.ev vs with
    | .nils => grd (decide (ys.length * bytes ≤ 17592186044416)) (some { val := .sl sz id 0 ys.length, new := some (.rows sz ys) })
    | .sl sz' b i n => match get H b with
      | some (.rows sz'' es) => grd (decide (sz' = sz) && (decide (sz'' = sz) && (decide (i + n ≤ es.length) && decide ((n + ys.length) * bytes ≤ 17592186044416))))
          (some { val := .sl sz id 0 (n + ys.length), new := some (.rows sz ((es.drop i).take n ++ ys)), kill := some b })
      | _ => none
    | _ => none
  | none => none

/-- Where a byte is first. -/
def ibsI (s : ByteArray) (b : Int) : Int := match (List.range s.size).find? fun i => s[i]! == b.toNat.toUInt8 with
  | some i => (i : Int)
  | none => -1

/-- What an iterator over a string yields next. -/
def itEff (b : Nat) (s : ByteArray) (pos : Nat) : Eff := match decide (pos < s.size) with
  | true => { val := .tup [.bool true, .int .i64 pos, .int .i32 (Utf8.decode s pos).1], upd := some (b, .it s (pos + (Utf8.decode s pos).2)) }
  | false => { val := .tup [.bool false] }

def opEff (H : Heap) (vs : Vars) (id : Nat) : LOp → Option Eff
  | .mv x => some { val := x.ev vs }
  | .own sz => some { val := .sl sz id 0 0, new := some (.rows sz []) }
  | .pick c a b => match c.ev vs with
    | .bool t => some { val := match t with | true => a.ev vs | false => b.ev vs }
    | _ => none
  | .newv zero => some { val := .ptr zero.length id 0 0, new := some (.rows zero.length [zero]) }
  | .box sz x => grd (decide ((x.ev vs).cells.length = sz) && (x.ev vs).cells.all AV.scalar) (some { val := .ptr sz id 0 0, new := some (.rows sz [(x.ev vs).cells]) })
  | .boxt sz x => grd (decide ((x.ev vs).cells.length = sz) && (x.ev vs).cells.all AV.scalar) (some { val := .cptr (x.ev vs).cells })
  | .build zero parts => match fillL zero (parts.map fun p => (p.1, p.2.1, p.2.2.ev vs)) with
    | some cs => some { val := .agg cs }
    | none => none
  | .bsl sz n zero parts => match fillL (List.replicate n zero).flatten (parts.map fun p => (p.1 * sz, sz, p.2.ev vs)) with
    | some cs => some { val := .sl sz id 0 n, new := some (.rows sz (chunks sz n cs)) }
    | none => none
  | .btsl sz n zero parts => match fillL (List.replicate n zero).flatten (parts.map fun p => (p.1 * sz, sz, p.2.ev vs)) with
    | some cs => some { val := .tsl sz (chunks sz n cs) }
    | none => none
  | .load ag n a => match a.ev vs with
    | .ptr sz b i j => match get H b with
      | some (.rows sz' es) => grd (decide (sz' = sz) && decide (i < es.length)) (match ldCells ag n ((es.getD i []).drop j) with
        | some v => some { val := v }
        | none => none)
      | _ => none
    | .cptr cs => match ldCells ag n cs with
      | some v => some { val := v }
      | none => none
    | _ => none
  | .store n a x => match a.ev vs with
    | .ptr sz b i j => match get H b with
      | some (.rows sz' es) => grd (decide (sz' = sz) && (decide (i < es.length) && (decide ((x.ev vs).cells.length = n) && (decide (j + n ≤ sz) && (x.ev vs).cells.all AV.scalar))))
          (some { val := .any, upd := some (b, .rows sz (es.set i (setAt (es.getD i []) j (x.ev vs).cells))) })
      | _ => none
    | _ => none
  | .bin op x y => match binV op (x.ev vs) (y.ev vs) with
    | some v => some { val := v }
    | none => none
  | .eq ng t x y => match eqV t (x.ev vs) (y.ev vs) with
    | some b => some { val := .bool (ng ^^ b) }
    | none => none
  | .not x => match x.ev vs with
    | .bool b => some { val := .bool (!b) }
    | _ => none
  | .neg x => match x.ev vs with
    | .int k n => some { val := .int k (k.wrap (0 - n)) }
    | _ => none
  | .conv k x => match x.ev vs with
    | .int _ n => some { val := .int k (k.wrap n) }
    | _ => none
  | .mkfn f first caps => some { val := .fn f (first.map (·.ev vs)) (caps.map (·.ev vs)) }
  | .mkmap => some { val := .map id, new := some (.mp []) }
  | .mksl sz zero bytes l c => match l.ev vs, c.ev vs with
    | .int _ l, .int _ c => grd (decide (0 ≤ l) && (decide (l ≤ c) && decide (c * bytes ≤ 17592186044416))) (some { val := .sl sz id 0 l.toNat, new := some (.rows sz (List.replicate l.toNat zero)) })
    | _, _ => none
  | .slice sz x lo hi mx => match x.ev vs with
    | .sl sz' b i n => match bnd 0 (lo.map (·.ev vs)), bnd n (hi.map (·.ev vs)), bnd n (mx.map (·.ev vs)) with
      | some l, some h, some m => grd (decide (sz' = sz) && (decide (0 ≤ l) && (decide (l ≤ h) && (decide (h ≤ m) && decide (m ≤ n))))) (some { val := .sl sz b (i + l.toNat) (h - l).toNat })
      | _, _, _ => none
    | .tsl sz' es => match bnd 0 (lo.map (·.ev vs)), bnd es.length (hi.map (·.ev vs)), bnd es.length (mx.map (·.ev vs)) with
      | some l, some h, some m => grd (decide (sz' = sz) && (decide (0 ≤ l) && (decide (l ≤ h) && (decide (h ≤ m) && decide (m ≤ es.length))))) (some { val := .tsl sz ((es.drop l.toNat).take (h - l).toNat) })
      | _, _, _ => none
    | .nils => match bnd 0 (lo.map (·.ev vs)), bnd 0 (hi.map (·.ev vs)), bnd 0 (mx.map (·.ev vs)) with
      | some l, some h, some m => grd (decide (l = 0) && (decide (h = 0) && decide (m = 0))) (some { val := .nils })
      | _, _, _ => none
    | _ => none
  | .substr x lo hi => match x.ev vs with
    | .str s => match bnd 0 (lo.map (·.ev vs)), bnd s.size (hi.map (·.ev vs)) with
      | some l, some h => grd (decide (0 ≤ l) && (decide (l ≤ h) && decide (h ≤ s.size))) (some { val := .str (s.extract l.toNat h.toNat) })
      | _, _ => none
    | _ => none
  | .fadr off x => match x.ev vs with
    | .ptr sz b i j => some { val := .ptr sz b i (j + off) }
    | .cptr cs => some { val := .cptr (cs.drop off) }
    | _ => none
  | .idxa sz x i => match i.ev vs with
    | .int _ k => match x.ev vs with
      | .sl sz' b o n => grd (decide (sz' = sz) && (decide (0 ≤ k) && decide (k < n))) (some { val := .ptr sz b (o + k.toNat) 0 })
      | .tsl sz' es => grd (decide (sz' = sz) && (decide (0 ≤ k) && decide (k < es.length))) (some { val := .cptr (es.getD k.toNat []) })
      | _ => none
    | _ => none
  | .idxp esz len x i => match i.ev vs with
    | .int _ k => grd (decide (0 ≤ k) && decide (k < len)) (match x.ev vs with
      | .ptr sz b o j => some { val := .ptr sz b o (j + k.toNat * esz) }
      | .cptr cs => some { val := .cptr (cs.drop (k.toNat * esz)) }
      | _ => none)
    | _ => none
  | .field ag off n x => match x.ev vs with
    | .agg cs => match ldCells ag n (cs.drop off) with
      | some v => some { val := v }
      | none => none
    | _ => none
  | .idxs x i => match i.ev vs with
    | .int _ k => match x.ev vs with
      | .str s => grd (decide (0 ≤ k) && decide (k < s.size)) (some { val := .int .u8 (s.data.toList.getD k.toNat 0).toNat })
      | _ => none
    | _ => none
  | .idxc ag esz len x i => match i.ev vs with
    | .int _ k => grd (decide (0 ≤ k) && decide (k < len)) (match x.ev vs with
      | .agg cs => match ldCells ag esz (cs.drop (k.toNat * esz)) with
        | some v => some { val := v }
        | none => none
      | _ => none)
    | _ => none
  | .lookup ok t zero x k => grd (keyOK t (k.ev vs)) (match x.ev vs with
    | .map b => match get H b with
      | some (.mp es) => match findKV t (k.ev vs) es 0 with
        | some r => some { val := lkV ok zero r }
        | none => none
      | _ => none
    | .nilm => some { val := lkV ok zero none }
    | _ => none)
  | .mapupd t x k v => grd (keyOK t (k.ev vs)) (match x.ev vs with
    | .map b => match get H b with
      | some (.mp es) => match findKV t (k.ev vs) es 0 with
        | some r => some { val := .any, upd := some (b, .mp (updE r es (k.ev vs) (v.ev vs))) }
        | none => none
      | _ => none
    | _ => none)
  | .extract x i => match x.ev vs with
    | .tup l => match l[i]? with
      | some v => some { val := v }
      | none => none
    | _ => none
  | .len k x => match k with
    | .str => match x.ev vs with
      | .str s => some { val := .int .i64 s.size }
      | _ => none
    | .sli => match x.ev vs with
      | .nils => some { val := .int .i64 0 }
      | .sl _ _ _ n => some { val := .int .i64 n }
      | .tsl _ es => some { val := .int .i64 es.length }
      | _ => none
    | .mp => match x.ev vs with
      | .nilm => some { val := .int .i64 0 }
      | .map b => match get H b with
        | some (.mp es) => some { val := .int .i64 es.length }
        | _ => none
      | _ => none
  | .lenc n => some { val := .int .i64 n }
  | .append sz bytes x y => appEff H vs id sz bytes x y
  | .appendH sz bytes x y => appEff H vs id sz bytes x y
  | .copy sz x y => match elems H sz (y.ev vs) with
    | some ys => match x.ev vs with
      | .nils => some { val := .int .i64 0 }
      | .sl sz' b i n => match get H b with
        | some (.rows sz'' es) => grd (decide (sz' = sz) && (decide (sz'' = sz) && (decide (i + n ≤ es.length))))
            (some { val := .int .i64 (min ys.length n : Nat), upd := some (b, .rows sz (splice es i (ys.take n))) })
        | _ => none
      | _ => none
    | none => none
  | .maxs xs => match xs.map (·.ev vs) with
    | x :: r => match mxI x r with
      | some v => some { val := v }
      | none => none
    | [] => none
  | .mins xs => match xs.map (·.ev vs) with
    | x :: r => match mnI x r with
      | some v => some { val := v }
      | none => none
    | [] => none
  | .nilS ng x => match x.ev vs with
    | .nils => some { val := .bool (!ng) }
    | .sl _ _ _ n => match n with
      | 0 => none
      | _ + 1 => some { val := .bool ng }
    | .tsl _ es => match es with
      | [] => none
      | _ :: _ => some { val := .bool ng }
    | _ => none
  | .appz sz zero bytes x y => match x.ev vs with
    | .nils => match y.ev vs with
      | .int _ n => grd (decide (1 ≤ n) && decide (n * bytes ≤ 17592186044416)) (some { val := .sl sz id 0 n.toNat, new := some (.rows sz (List.replicate n.toNat zero)) })
      | _ => none
    | _ => none
  | .capn x => match x.ev vs with
    | .nils => some { val := .int .i64 0 }
    | _ => none
  | .appn sz x y => match x.ev vs with
    | .nils => match y.ev vs with
      | .nils => some { val := .nils }
      | .tsl sz' es => match es with
        | [] => grd (decide (sz' = sz)) (some { val := .nils })
        | _ :: _ => none
      | _ => none
    | _ => none
  | .clr sz zero x => match x.ev vs with
    | .nils => some { val := .tup [] }
    | .tsl _ [] => some { val := .tup [] }
    | .sl sz' b i n => match n with
      | 0 => some { val := .tup [] }
      | n + 1 => match get H b with
        | some (.rows sz'' es) => grd (decide (sz' = sz) && (decide (sz'' = sz) && decide (i + (n + 1) ≤ es.length))) (some { val := .tup [], upd := some (b, .rows sz (es.take i ++ (List.replicate (n + 1) zero ++ es.drop (i + (n + 1))))) })
        | _ => none
    | _ => none
  | .bad => none
  | .ifnil ng x => match x.ev vs with
    | .nili => some { val := .bool (!ng) }
    | .iface _ _ => some { val := .bool ng }
    | _ => none
  | .nilck x => match x.ev vs with
    | .ptr sz b i j => some { val := .ptr sz b i j }
    | .cptr cs => some { val := .cptr cs }
    | .fn f fs cs => some { val := .fn f fs cs }
    | _ => none
  | .loadF ag n a => match a.ev vs with
    | .ptr sz b i j => match get H b with
      | some (.rows sz' es) => grd (decide (sz' = sz) && (decide (i < es.length) && decide (1 ≤ n))) (match ldCells ag n ((es.getD i []).drop j) with
        | some v => some { val := v }
        | none => none)
      | _ => none
    | .cptr cs => match ldCells ag n cs with
      | some v => some { val := v }
      | none => none
    | _ => none
  | .storeF n a x => match a.ev vs with
    | .ptr sz b i j => match get H b with
      | some (.rows sz' es) => grd (decide (sz' = sz) && (decide (i < es.length) && (decide ((x.ev vs).cells.length = n) && (decide (j + n ≤ sz) && ((x.ev vs).cells.all AV.scalar && decide ((es.getD i []).length = sz))))))
          (some { val := .any, upd := some (b, .rows sz (es.set i (setAt (es.getD i []) j (x.ev vs).cells))) })
      | _ => none
    | _ => none
  | .ibs x c => match x.ev vs with
    | .str s => match c.ev vs with
      | .int k b => grd (decide (k = .u8)) (some { val := .int .i64 (ibsI s b) })
      | _ => none
    | _ => none
  | .rng x => match x.ev vs with
    | .str s => some { val := .ptr 0 id 0 0, new := some (.it s 0) }
    | _ => none
  | .nxt x => match x.ev vs with
    | .ptr sz b i j => match get H b with
      | some (.it s pos) => grd (decide (i = 0) && decide (j = 0)) (some (itEff b s pos))
      | _ => none
    | _ => none
  | .call _ _ _ => none
end
end Go.AM

/- How abstract values and blocks stand in memory; what stays when memory grows. -/
namespace Go.AM
noncomputable section

def hcell (h : Array Obj) (c o : Nat) : Option Value := match h[c]? with
  | some (.cells cs _ _) => cs[o]?
  | _ => none
def hsize (h : Array Obj) (c : Nat) : Option Nat := match h[c]? with
  | some (.cells cs _ _) => some cs.size
  | _ => none

section
variable (h : Array Obj) (φ : Nat → Option (Nat × Nat)) (I : Nat → Prop) (A : Nat → Prop)
mutual
def relV : AV → Value → Prop
  | .any, _ => True
  | .bool b, v => v = .bool b
  | .int k n, v => v = .int k n
  | .str s, v => v = .string s
  | .nilp, v => v = .pointer none
  | .nils, v => v = .slice none 0 0
  | .nilm, v => v = .map none
  | .nilf, v => v = .nilFunc
  | .nili, v => v = .nilIface
  | .ptr sz b i j, v => A b ∧ ∃ c o, φ b = some (c, o) ∧ v = .pointer (some ⟨c, o + i * sz + j, none⟩)
  | .cptr cs, v => ∃ c o, v = .pointer (some ⟨c, o, none⟩) ∧ I c ∧ relM cs c o
  | .sl sz b i n, v => A b ∧ ∃ base cap, v = .slice base n cap ∧ ((n = 0 ∧ cap = 0) ∨
      ∃ c o s, φ b = some (c, o) ∧ base = some ⟨c, o + i * sz, none⟩ ∧ n ≤ cap ∧ hsize h c = some s ∧ o + (i + cap) * sz ≤ s)
  | .tsl sz es, v => ∃ base cap, v = .slice base es.length cap ∧ es.length ≤ cap ∧ (es = [] ∨
      ∃ c o, base = some ⟨c, o, none⟩ ∧ I c ∧ relR sz es c o)
  | .map b, v => A b ∧ ∃ c, φ b = some (c, 0) ∧ v = .map (some c)
  | .fn f fs cs, v => ∃ fs' cs' : List Value, v = .func (.func f) fs'.toArray cs'.toArray ∧ relL fs fs' ∧ relL cs cs'
  | .iface t x, v => ∃ y, v = .iface t y ∧ relV x y
  | .agg cs, v => ∃ vs : List Value, v = .agg vs.toArray ∧ relL cs vs
  | .tup cs, v => ∃ vs : List Value, v = .tuple vs.toArray ∧ relL cs vs
def relM : List AV → Nat → Nat → Prop
  | [], _, _ => True
  | x :: cs, c, o => (∃ v, hcell h c o = some v ∧ Value.oneCell' v = true ∧ relV x v) ∧ relM cs c (o + 1)
def relR (sz : Nat) : List (List AV) → Nat → Nat → Prop
  | [], _, _ => True
  | e :: es, c, o => e.length = sz ∧ relM e c o ∧ relR sz es c (o + sz)
def relL : List AV → List Value → Prop
  | [], vs => vs = []
  | x :: l, vs => ∃ v r, vs = v :: r ∧ relV x v ∧ relL l r
end
end

structure Ext (h : Array Obj) (φ : Nat → Option (Nat × Nat)) (I A : Nat → Prop) (h' : Array Obj) (φ' : Nat → Option (Nat × Nat)) (I' A' : Nat → Prop) : Prop where
  cells : ∀ c o v, I c → hcell h c o = some v → hcell h' c o = some v
  sizes : ∀ c s, hsize h c = some s → hsize h' c = some s
  agree : ∀ b, A b → φ' b = φ b
  inI : ∀ c, I c → I' c
  inA : ∀ b, A b → A' b

section
variable {h h' : Array Obj} {φ φ' : Nat → Option (Nat × Nat)} {I A I' A' : Nat → Prop}
mutual
theorem relV_mono (E : Ext h φ I A h' φ' I' A') : ∀ (x : AV) (v : Value), relV h φ I A x v → relV h' φ' I' A' x v
  | .any, _, _ => by simp [relV]
  | .bool _, _, H => by simpa [relV] using H
  | .int _ _, _, H => by simpa [relV] using H
  | .str _, _, H => by simpa [relV] using H
  | .nilp, _, H => by simpa [relV] using H
  | .nils, _, H => by simpa [relV] using H
  | .nilm, _, H => by simpa [relV] using H
  | .nilf, _, H => by simpa [relV] using H
  | .nili, _, H => by simpa [relV] using H
  | .ptr sz b i j, v, H => by
    simp only [relV] at H ⊢
    obtain ⟨h1, c, o, h2, h3⟩ := H
    exact ⟨E.inA _ h1, c, o, by rw [E.agree _ h1, h2], h3⟩
  | .cptr cs, v, H => by
    simp only [relV] at H ⊢
    obtain ⟨c, o, h1, h2, h3⟩ := H
    exact ⟨c, o, h1, E.inI _ h2, relM_mono E cs c o (fun o' v' => E.cells c o' v' h2) h3⟩
  | .sl sz b i n, v, H => by
    simp only [relV] at H ⊢
    obtain ⟨h1, base, cap, h2, h3⟩ := H
    refine ⟨E.inA _ h1, base, cap, h2, ?_⟩
    rcases h3 with h3 | ⟨c, o, s, h3, h4, h5, h6, h7⟩
    · exact .inl h3
    · exact .inr ⟨c, o, s, by rw [E.agree _ h1, h3], h4, h5, E.sizes _ _ h6, h7⟩
  | .tsl sz es, v, H => by
    simp only [relV] at H ⊢
    obtain ⟨base, cap, h1, h2, h3⟩ := H
    refine ⟨base, cap, h1, h2, ?_⟩
    rcases h3 with h3 | ⟨c, o, h3, h4, h5⟩
    · exact .inl h3
    · exact .inr ⟨c, o, h3, E.inI _ h4, relR_mono E sz es c o (fun o' v' => E.cells c o' v' h4) h5⟩
  | .map b, v, H => by
    simp only [relV] at H ⊢
    obtain ⟨h1, c, h2, h3⟩ := H
    exact ⟨E.inA _ h1, c, by rw [E.agree _ h1, h2], h3⟩
  | .fn f fs cs, v, H => by
    simp only [relV] at H ⊢
    obtain ⟨fs', cs', h1, h2, h3⟩ := H
    exact ⟨fs', cs', h1, relL_mono E fs fs' h2, relL_mono E cs cs' h3⟩
  | .iface t x, v, H => by
    simp only [relV] at H ⊢
    obtain ⟨y, h1, h2⟩ := H
    exact ⟨y, h1, relV_mono E x y h2⟩
  | .agg cs, v, H => by
    simp only [relV] at H ⊢
    obtain ⟨vs, h1, h2⟩ := H
    exact ⟨vs, h1, relL_mono E cs vs h2⟩
  | .tup cs, v, H => by
    simp only [relV] at H ⊢
    obtain ⟨vs, h1, h2⟩ := H
    exact ⟨vs, h1, relL_mono E cs vs h2⟩
theorem relM_mono (E : Ext h φ I A h' φ' I' A') : ∀ (cs : List AV) (c o : Nat), (∀ o' v, hcell h c o' = some v → hcell h' c o' = some v) → relM h φ I A cs c o → relM h' φ' I' A' cs c o
  | [], _, _, _, _ => by simp [relM]
  | x :: cs, c, o, hc, H => by
    simp only [relM] at H ⊢
    obtain ⟨⟨v, h1, h0, h2⟩, h3⟩ := H
    exact ⟨⟨v, hc _ _ h1, h0, relV_mono E x v h2⟩, relM_mono E cs c (o + 1) hc h3⟩
theorem relR_mono (E : Ext h φ I A h' φ' I' A') (sz : Nat) : ∀ (es : List (List AV)) (c o : Nat), (∀ o' v, hcell h c o' = some v → hcell h' c o' = some v) → relR h φ I A sz es c o → relR h' φ' I' A' sz es c o
  | [], _, _, _, _ => by simp [relR]
  | e :: es, c, o, hc, H => by
    simp only [relR] at H ⊢
    obtain ⟨h1, h2, h3⟩ := H
    exact ⟨h1, relM_mono E e c o hc h2, relR_mono E sz es c (o + sz) hc h3⟩
theorem relL_mono (E : Ext h φ I A h' φ' I' A') : ∀ (l : List AV) (vs : List Value), relL h φ I A l vs → relL h' φ' I' A' l vs
  | [], _, H => by simpa [relL] using H
  | x :: l, vs, H => by
    simp only [relL] at H ⊢
    obtain ⟨v, r, h1, h2, h3⟩ := H
    exact ⟨v, r, h1, relV_mono E x v h2, relL_mono E l r h3⟩
end

/-- The same, where the cells of one place alone are told. -/
theorem relM_congr {cs : List AV} {c o : Nat} (E : Ext h φ I A h' φ' I' A') (hc : ∀ o' v, o ≤ o' → o' < o + cs.length → hcell h c o' = some v → hcell h' c o' = some v) (H : relM h φ I A cs c o) : relM h' φ' I' A' cs c o := by
  induction cs generalizing o with
  | nil => simp [relM]
  | cons x cs ih =>
    simp only [relM] at H ⊢
    obtain ⟨⟨v, h1, h0, h2⟩, h3⟩ := H
    exact ⟨⟨v, hc _ _ (Nat.le_refl _) (by simp) h1, h0, relV_mono E x v h2⟩, ih (fun o' v' h1 h2 => hc o' v' (by omega) (by simp at h2 ⊢; omega)) h3⟩
theorem relR_congr {sz : Nat} {es : List (List AV)} {c o : Nat} (E : Ext h φ I A h' φ' I' A') (hc : ∀ o' v, o ≤ o' → o' < o + es.length * sz → hcell h c o' = some v → hcell h' c o' = some v) (H : relR h φ I A sz es c o) : relR h' φ' I' A' sz es c o := by
  induction es generalizing o with
  | nil => simp [relR]
  | cons e es ih =>
    simp only [relR] at H ⊢
    obtain ⟨h1, h2, h3⟩ := H
    refine ⟨h1, relM_congr E (fun o' v' a b => hc o' v' a ?_) h2, ih (fun o' v' a b => hc o' v' (by omega) ?_) h3⟩
    · simp only [List.length_cons, Nat.add_mul, Nat.one_mul]; omega
    · simp only [List.length_cons, Nat.add_mul, Nat.one_mul]; omega
end

section
variable {h : Array Obj} {φ : Nat → Option (Nat × Nat)} {I A : Nat → Prop}
theorem relL_length : ∀ {l : List AV} {vs : List Value}, relL h φ I A l vs → vs.length = l.length
  | [], vs, H => by simp only [relL] at H; simp [H]
  | x :: l, vs, H => by
    simp only [relL] at H
    obtain ⟨v, r, rfl, _, h3⟩ := H
    simp [relL_length h3]
theorem relL_get : ∀ {l : List AV} {vs : List Value} {i : Nat} {x : AV}, relL h φ I A l vs → l[i]? = some x → ∃ v, vs[i]? = some v ∧ relV h φ I A x v
  | [], vs, i, x, _, hx => by simp at hx
  | y :: l, vs, i, x, H, hx => by
    simp only [relL] at H
    obtain ⟨v, r, rfl, h2, h3⟩ := H
    cases i with
    | zero => simp at hx; subst hx; exact ⟨v, by simp, h2⟩
    | succ i => simp at hx; obtain ⟨u, h4, h5⟩ := relL_get h3 hx; exact ⟨u, by simpa using h4, h5⟩
theorem relL_append : ∀ {l m : List AV} {vs us : List Value}, relL h φ I A l vs → relL h φ I A m us → relL h φ I A (l ++ m) (vs ++ us)
  | [], m, vs, us, H, K => by simp only [relL] at H; subst H; simpa using K
  | x :: l, m, vs, us, H, K => by
    simp only [relL] at H
    obtain ⟨v, r, rfl, h2, h3⟩ := H
    simp only [List.cons_append, relL]
    exact ⟨v, r ++ us, rfl, h2, relL_append h3 K⟩
theorem relL_drop : ∀ (n : Nat) {l : List AV} {vs : List Value}, relL h φ I A l vs → relL h φ I A (l.drop n) (vs.drop n)
  | 0, l, vs, H => by simpa using H
  | n + 1, [], vs, H => by simp only [relL] at H; subst H; simp [relL]
  | n + 1, x :: l, vs, H => by
    simp only [relL] at H
    obtain ⟨v, r, rfl, h2, h3⟩ := H
    simpa using relL_drop n h3
theorem relL_take : ∀ (n : Nat) {l : List AV} {vs : List Value}, relL h φ I A l vs → relL h φ I A (l.take n) (vs.take n)
  | 0, l, vs, H => by simp [relL]
  | n + 1, [], vs, H => by simp only [relL] at H; subst H; simp [relL]
  | n + 1, x :: l, vs, H => by
    simp only [relL] at H
    obtain ⟨v, r, rfl, h2, h3⟩ := H
    simp only [List.take_succ_cons, relL]
    exact ⟨v, r.take n, rfl, h2, relL_take n h3⟩
theorem relM_append : ∀ {l m : List AV} {c o : Nat}, relM h φ I A (l ++ m) c o ↔ relM h φ I A l c o ∧ relM h φ I A m c (o + l.length)
  | [], m, c, o => by simp [relM]
  | x :: l, m, c, o => by
    simp only [List.cons_append, relM, relM_append (l := l), List.length_cons]
    rw [show o + 1 + l.length = o + (l.length + 1) by omega, and_assoc]
theorem relM_drop {l : List AV} {c o : Nat} (n : Nat) (H : relM h φ I A l c o) : relM h φ I A (l.drop n) c (o + n) := by
  by_cases hn : n ≤ l.length
  case neg => rw [List.drop_eq_nil_of_le (by omega)]; simp [relM]
  have h0 := H
  rw [← List.take_append_drop n l, relM_append] at h0
  simpa [Nat.min_eq_left hn] using h0.2
theorem relM_take {l : List AV} {c o : Nat} (n : Nat) (H : relM h φ I A l c o) : relM h φ I A (l.take n) c o := by
  rw [← List.take_append_drop n l, relM_append] at H
  exact H.1
theorem relR_append {sz : Nat} : ∀ {l m : List (List AV)} {c o : Nat}, relR h φ I A sz (l ++ m) c o ↔ relR h φ I A sz l c o ∧ relR h φ I A sz m c (o + l.length * sz)
  | [], m, c, o => by simp [relR]
  | x :: l, m, c, o => by
    simp only [List.cons_append, relR, relR_append (l := l), List.length_cons]
    rw [show o + sz + l.length * sz = o + (l.length + 1) * sz by rw [Nat.add_mul]; omega]
    simp only [and_assoc]
theorem relR_drop {sz : Nat} {l : List (List AV)} {c o : Nat} (n : Nat) (H : relR h φ I A sz l c o) (hn : n ≤ l.length) : relR h φ I A sz (l.drop n) c (o + n * sz) := by
  have h0 := H
  rw [← List.take_append_drop n l, relR_append] at h0
  simpa [Nat.min_eq_left hn] using h0.2
theorem relR_take {sz : Nat} {l : List (List AV)} {c o : Nat} (n : Nat) (H : relR h φ I A sz l c o) : relR h φ I A sz (l.take n) c o := by
  rw [← List.take_append_drop n l, relR_append] at H
  exact H.1
theorem relR_get {sz : Nat} {es : List (List AV)} {c o i : Nat} (H : relR h φ I A sz es c o) (hi : i < es.length) : (es.getD i []).length = sz ∧ relM h φ I A (es.getD i []) c (o + i * sz) := by
  have h1 := relR_drop i H (by omega)
  rw [List.drop_eq_getElem_cons hi] at h1
  simp only [relR] at h1
  simp only [List.getD_eq_getElem?_getD, List.getElem?_eq_getElem hi, Option.getD_some]
  exact ⟨h1.1, h1.2.1⟩
theorem relR_flat {sz : Nat} : ∀ {es : List (List AV)} {c o : Nat}, relR h φ I A sz es c o → relM h φ I A es.flatten c o ∧ es.flatten.length = es.length * sz
  | [], c, o, _ => by simp [relM]
  | e :: es, c, o, H => by
    simp only [relR] at H
    obtain ⟨h1, h2, h3⟩ := H
    obtain ⟨h4, h5⟩ := relR_flat h3
    refine ⟨?_, by simp [h5, h1, Nat.add_mul]; omega⟩
    simp only [List.flatten_cons, relM_append, h1]
    exact ⟨h2, h4⟩
/-- What stands in memory, as a list of values. -/
theorem relM_vals : ∀ {l : List AV} {c o : Nat}, relM h φ I A l c o → ∃ vs : List Value, relL h φ I A l vs ∧ (∀ i, i < l.length → hcell h c (o + i) = vs[i]?) ∧ ∀ v ∈ vs, Value.oneCell' v = true
  | [], c, o, _ => ⟨[], by simp [relL], by simp, by simp⟩
  | x :: l, c, o, H => by
    simp only [relM] at H
    obtain ⟨⟨v, h1, h0, h2⟩, h3⟩ := H
    obtain ⟨vs, h4, h5, h6⟩ := relM_vals h3
    refine ⟨v :: vs, by simp only [relL]; exact ⟨v, vs, rfl, h2, h4⟩, fun i hi => ?_, fun u hu => (List.mem_cons.1 hu).elim (fun h => h ▸ h0) (h6 u)⟩
    cases i with
    | zero => simpa using h1
    | succ i => rw [show o + (i + 1) = o + 1 + i by omega, h5 i (by simpa using hi)]; simp
theorem relM_of_vals : ∀ {l : List AV} {vs : List Value} {c o : Nat}, relL h φ I A l vs → (∀ v ∈ vs, Value.oneCell' v = true) → (∀ i, i < l.length → hcell h c (o + i) = vs[i]?) → relM h φ I A l c o
  | [], vs, c, o, _, _, _ => by simp [relM]
  | x :: l, vs, c, o, H, K0, K => by
    simp only [relL] at H
    obtain ⟨v, r, rfl, h2, h3⟩ := H
    simp only [relM]
    refine ⟨⟨v, by simpa using K 0 (by simp), K0 v (by simp), h2⟩, relM_of_vals h3 (fun u hu => K0 u (List.mem_cons_of_mem _ hu)) fun i hi => ?_⟩
    have := K (i + 1) (by simp; omega)
    rw [show o + 1 + i = o + (i + 1) by omega, this]; simp
end

section
variable {α : Type}
theorem get_ins (l : List (Nat × α)) (x y : Nat) (v : α) : get (ins x v l) y = if x = y then some v else get l y := by
  induction l with
  | nil => simp [ins_e0, ins_e1, get_e0, get_e1]
  | cons p l ih =>
    obtain ⟨k, u⟩ := p
    simp only [ins_e0, ins_e1]
    split
    · simp only [get_e0, get_e1]
    · split
      · rename_i h1; subst h1; simp only [get_e0, get_e1]; split <;> rfl
      · rename_i h1 h2
        simp only [get_e0, get_e1, ih]
        split <;> split <;> simp_all
theorem get_del (l : List (Nat × α)) (x y : Nat) : get (del x l) y = if x = y then none else get l y := by
  induction l with
  | nil => simp [del, get_e0, get_e1]
  | cons p l ih =>
    obtain ⟨k, u⟩ := p
    simp only [del]
    split
    · rename_i h1; subst h1; rw [ih]; simp only [get_e0, get_e1]; split <;> rfl
    · rename_i h1; simp only [get_e0, get_e1, ih]; split <;> split <;> simp_all
theorem ins_comm (l : List (Nat × α)) {x y : Nat} (v u : α) (hxy : x ≠ y) : ins x v (ins y u l) = ins y u (ins x v l) := by
  induction l with
  | nil =>
    simp only [ins_e0, ins_e1]
    rcases Nat.lt_trichotomy x y with h | h | h
    · simp [h, Nat.not_lt.2 (Nat.le_of_lt h), hxy]
    · exact absurd h hxy
    · simp [h, Nat.not_lt.2 (Nat.le_of_lt h), Ne.symm hxy]
  | cons p l ih =>
    obtain ⟨k, w⟩ := p
    simp only [ins_e0, ins_e1]
    split <;> split <;> (try split) <;> (try split) <;> simp only [ins_e0, ins_e1] <;> (repeat' split) <;> first | (exfalso; omega) | rfl | (rw [ih])
end
end
end Go.AM

/- Reading and writing rows of cells; the relation of a state to a frame and a world. -/
namespace Go.AM
noncomputable section

theorem cell_hcell (w : World) (c o : Nat) : w.cell? ⟨c, o, none⟩ = hcell w.heap c o := by
  cases hh : w.heap[c]? with
  | none => simp [World.cell?, hcell, hh]
  | some ob => cases ob <;> simp [World.cell?, hcell, hh]

theorem addr_add (c o n : Nat) : (⟨c, o, none⟩ : Addr).add n = ⟨c, o + n, none⟩ := by
  unfold Addr.add; split
  · rename_i h; simp [h]
  · rfl

theorem run_loadCellsFrom (P : Program) (w : World) (c o : Nat) : ∀ (vs : List Value) (i : Nat) (acc : Array Value), (∀ j, j < vs.length → hcell w.heap c (o + i + j) = vs[j]?) →
    (loadCellsFrom ⟨c, o, none⟩ i vs.length acc).run P w = .ok (acc ++ vs.toArray) w
  | [], i, acc, _ => by simp [loadCellsFrom]
  | v :: vs, i, acc, H => by
    have h0 : w.cell? ⟨c, o + i, none⟩ = some v := by rw [cell_hcell]; simpa using H 0 (by simp)
    simp only [List.length_cons, loadCellsFrom, Sem.run_bind, run_load, addr_add, h0, Result.andThen_ok]
    rw [run_loadCellsFrom P w c o vs (i + 1) (acc.push v) fun j hj => by
      have := H (j + 1) (by simp; omega)
      rw [show o + (i + 1) + j = o + i + (j + 1) by omega, this]; simp]
    simp

theorem run_loadCells (P : Program) (w : World) (c o : Nat) (vs : List Value) (H : ∀ j, j < vs.length → hcell w.heap c (o + j) = vs[j]?) :
    (loadCells ⟨c, o, none⟩ vs.length).run P w = .ok vs.toArray w := by
  unfold loadCells
  rw [run_loadCellsFrom P w c o vs 0 #[] (by simpa using H)]
  simp

/-- What of a world is no memory stays. -/
def Keep (w w' : World) : Prop := w'.os = w.os ∧ w'.tape = w.tape ∧ w'.output = w.output
theorem Keep.refl (w : World) : Keep w w := ⟨rfl, rfl, rfl⟩
theorem Keep.trans {a b c : World} (h : Keep a b) (k : Keep b c) : Keep a c := ⟨k.1.trans h.1, k.2.1.trans h.2.1, k.2.2.trans h.2.2⟩

/-- One value is no aggregate. -/
def oneC (v : Value) : Bool := Value.oneCell' v

theorem relV_scalar {h : Array Obj} {φ : Nat → Option (Nat × Nat)} {I A : Nat → Prop} {x : AV} {v : Value} (hx : x.scalar = true) (H : relV h φ I A x v) : Value.oneCell' v = true := by
  cases x <;> simp only [relV, AV.scalar, Bool.false_eq_true] at H hx
  case bool => subst H; rfl
  case int => subst H; rfl
  case str => subst H; rfl
  case nilp => subst H; rfl
  case nils => subst H; rfl
  case nilm => subst H; rfl
  case nilf => subst H; rfl
  case nili => subst H; rfl
  case ptr => obtain ⟨_, c, o, _, rfl⟩ := H; rfl
  case cptr => obtain ⟨c, o, rfl, _⟩ := H; rfl
  case sl => obtain ⟨_, b, c, rfl, _⟩ := H; rfl
  case tsl => obtain ⟨b, c, rfl, _⟩ := H; rfl
  case map => obtain ⟨_, c, _, rfl⟩ := H; rfl
  case fn => obtain ⟨_, _, rfl, _⟩ := H; rfl
  case iface => obtain ⟨_, rfl, _⟩ := H; rfl

theorem relL_scalars {h : Array Obj} {φ : Nat → Option (Nat × Nat)} {I A : Nat → Prop} : ∀ {l : List AV} {vs : List Value}, l.all AV.scalar = true → relL h φ I A l vs → ∀ v ∈ vs, Value.oneCell' v = true
  | [], vs, _, H => by simp only [relL] at H; subst H; simp
  | x :: l, vs, hx, H => by
    simp only [relL] at H
    obtain ⟨v, r, rfl, h2, h3⟩ := H
    simp only [List.all_cons, Bool.and_eq_true] at hx
    intro u hu
    rcases List.mem_cons.1 hu with rfl | hu
    · exact relV_scalar hx.1 h2
    · exact relL_scalars hx.2 h3 u hu

/-- The cells of a value. -/
theorem relV_cells {h : Array Obj} {φ : Nat → Option (Nat × Nat)} {I A : Nat → Prop} {x : AV} {v : Value} (hk : x.known = true) (H : relV h φ I A x v) : relL h φ I A x.cells v.cells.toList := by
  cases x
  case agg cs =>
    simp only [relV] at H
    obtain ⟨vs, rfl, h2⟩ := H
    simpa [AV.cells, Value.cells] using h2
  case any => simp [AV.known] at hk
  case tup =>
    have H0 := H
    simp only [relV] at H
    obtain ⟨vs, rfl, h2⟩ := H
    simp only [AV.cells, Value.cells, relL]
    exact ⟨_, [], rfl, H0, rfl⟩
  all_goals
    have h1 := relV_scalar (by rfl) H
    simp only [AV.cells, relL]
    refine ⟨v, [], ?_, H, rfl⟩
    cases v <;> first | rfl | (simp [Value.oneCell'] at h1)

/-- A heap in which a row of cells has been written. -/
structure Wrote (h : Array Obj) (c o : Nat) (vs : List Value) (h' : Array Obj) : Prop where
  size : h'.size = h.size
  other : ∀ c', c' ≠ c → h'[c']? = h[c']?
  here : ∀ cs el, h[c]? = some (.cells cs el (0, 0)) → ∃ cs', h'[c]? = some (.cells cs' el (0, 0)) ∧ cs'.size = cs.size
  cell : ∀ o', hcell h' c o' = if o ≤ o' ∧ o' < o + vs.length then (if (hcell h c o').isSome then vs[o' - o]? else none) else hcell h c o'

theorem Wrote.hsize {h h' : Array Obj} {c o : Nat} {vs : List Value} {cs : Array Value} {el : TypeId} (W : Wrote h c o vs h') (hc : h[c]? = some (.cells cs el (0, 0))) (c' : Nat) : hsize h' c' = hsize h c' := by
  by_cases h1 : c' = c
  · subst h1
    obtain ⟨cs', h2, h3⟩ := W.here _ _ hc
    simp [AM.hsize, h2, hc, h3]
  · simp [AM.hsize, W.other _ h1]

theorem run_storeCells (P : Program) (c o : Nat) : ∀ (vs : List Value) (i : Nat) (w : World) (cs : Array Value) (el : TypeId), w.heap[c]? = some (.cells cs el (0, 0)) → o + i + vs.length ≤ cs.size → (∀ v ∈ vs, Value.oneCell' v = true) →
    ∃ h', (storeCells ⟨c, o, none⟩ vs i).run P w = .ok () { w with heap := h' } ∧ Wrote w.heap c (o + i) vs h'
  | [], i, w, cs, el, hc, _, _ => by
    refine ⟨w.heap, by simp [storeCells], rfl, fun _ _ => rfl, fun cs' el' h => ⟨cs', h, rfl⟩, fun o' => ?_⟩
    rw [if_neg (by simp only [List.length_nil]; omega)]
  | v :: vs, i, w, cs, el, hc, hle, h1 => by
    simp only [List.length_cons] at hle
    have hlt : o + i < cs.size := by omega
    have hcell0 : w.cell? ⟨c, o + i, none⟩ = some (cs[o + i]'hlt) := by simp [World.cell?, hc, hlt]
    have hfz : w.frozen? ⟨c, o + i, none⟩ = false := by simp [World.frozen?, hc]
    have hcs : c < w.heap.size := by
      rcases Nat.lt_or_ge c w.heap.size with h | h
      · exact h
      · simp [Array.getElem?_eq_none h] at hc
    have hget : w.heap[c] = .cells cs el (0, 0) := by simpa [Array.getElem?_eq_getElem hcs] using hc
    let w1 : World := w.setCell ⟨c, o + i, none⟩ v
    have hw1 : w1.heap = w.heap.set c (.cells (cs.setIfInBounds (o + i) v) el (0, 0)) hcs := by
      simp only [w1, World.setCell]
      apply Array.ext_getElem?
      intro j
      rw [Array.getElem?_modify, Array.getElem?_set]
      by_cases hj : c = j
      · subst hj; simp [hget, hcs]
      · simp [hj]
    have hc1 : w1.heap[c]? = some (.cells (cs.setIfInBounds (o + i) v) el (0, 0)) := by rw [hw1]; simp [hcs]
    obtain ⟨h', hr, W⟩ := run_storeCells P c o vs (i + 1) w1 _ el hc1 (by simp; omega) (fun u hu => h1 u (List.mem_cons_of_mem _ hu))
    refine ⟨h', ?_, ?_⟩
    · simp only [storeCells, Sem.run_bind, addr_add]
      rw [run_store P w _ v .plain (h1 v (by simp)), hcell0]
      simp only [hfz, Bool.false_eq_true, if_false, Result.andThen_ok]
      rw [hr]
      rfl
    · refine ⟨by rw [W.size, hw1]; simp, fun c' h2 => by rw [W.other _ h2, hw1, Array.getElem?_set]; simp [Ne.symm h2], fun cs0 el0 h2 => ?_, fun o' => ?_⟩
      · rw [hc] at h2
        injection h2 with h2
        injection h2 with h3 h4 h5
        subst h3 h4
        obtain ⟨cs', h6, h7⟩ := W.here _ _ hc1
        exact ⟨cs', h6, by simpa using h7⟩
      · rw [W.cell o']
        have h3 : hcell w1.heap c o' = if o' = o + i then some v else hcell w.heap c o' := by
          simp only [hcell, hc1, hc]
          rw [Array.getElem?_setIfInBounds]
          by_cases h4 : o + i = o'
          · subst h4; simp [hlt]
          · simp [h4, Ne.symm h4]
        rw [h3]
        by_cases h4 : o' = o + i
        · subst h4
          rw [if_neg (by omega), if_pos rfl, if_pos ⟨by omega, by simp⟩]
          have h5 : (hcell w.heap c (o + i)).isSome = true := by simp [hcell, hc, hlt]
          rw [if_pos h5]; simp
        · by_cases h5 : o + i ≤ o' ∧ o' < o + i + (v :: vs).length
          · rw [if_pos h5, if_pos ⟨by omega, by have := h5.2; simp at this; omega⟩, if_neg h4]
            have h6 : o' - (o + i) = o' - (o + (i + 1)) + 1 := by omega
            rw [h6]; simp
          · rw [if_neg h5, if_neg (by simp at h5 ⊢; omega), if_neg h4]

structure AS where
  vars : Vars
  heap : Heap
  next : Nat
  used : List (Nat × Unit)
  dead : List (Nat × Unit)

def AS.A (S : AS) (b : Nat) : Prop := b < S.next ∨ get S.used b = some ()

def relE (h : Array Obj) (φ : Nat → Option (Nat × Nat)) (I A : Nat → Prop) : List (AV × AV) → List MapEntry → Prop
  | [], es => es = []
  | (k, v) :: l, es => ∃ e r, es = e :: r ∧ relV h φ I A k e.key ∧ relV h φ I A v e.val ∧ relE h φ I A l r

def relB (h : Array Obj) (φ : Nat → Option (Nat × Nat)) (I A : Nat → Prop) (b : Nat) : Blk → Prop
  | .rows sz es => (φ b = none ∧ es = []) ∨ ∃ c o cs el, φ b = some (c, o) ∧ h[c]? = some (.cells cs el (0, 0)) ∧ relR h φ I A sz es c o
  | .mp l => ∃ c es clk, φ b = some (c, 0) ∧ h[c]? = some (.map es clk) ∧ relE h φ I A l es.toList
  | .it s pos => ∃ c, φ b = some (c, 0) ∧ h[c]? = some (.stringIter s pos)

structure Ctx where
  h0 : Array Obj
  F : Nat → Prop
  φ0 : Nat → Option (Nat × Nat)
  n0 : Nat
  I0 : Nat → Prop

structure RelH (X : Ctx) (φ : Nat → Option (Nat × Nat)) (I : Nat → Prop) (S : AS) (h : Array Obj) : Prop where
  heap : ∀ b blk, get S.heap b = some blk → S.A b ∧ relB h φ I S.A b blk
  live : ∀ b blk c o, get S.heap b = some blk → φ b = some (c, o) → c < h.size ∧ ¬ I c ∧ (X.F c ∨ X.h0.size ≤ c)
  inj : ∀ b b' c o c' o', get S.heap b ≠ none → get S.heap b' ≠ none → b ≠ b' → ((get S.dead b = none ∧ get S.dead b' = none) ∨ (b < S.next ∧ b' < S.next)) →
    φ b = some (c, o) → φ b' = some (c', o') → c ≠ c'
  idom : ∀ c, I c → c < h.size
  isub : ∀ c, I c → X.I0 c ∨ X.F c ∨ X.h0.size ≤ c
  isup : ∀ c, X.I0 c → I c
  frame : ∀ c, c < X.h0.size → ¬ X.F c → h[c]? = X.h0[c]?
  size : X.h0.size ≤ h.size
  sizes : ∀ c s, hsize X.h0 c = some s → hsize h c = some s
  agree : ∀ b, b < X.n0 → φ b = X.φ0 b
  n0 : X.n0 ≤ S.next

structure RelA (φ : Nat → Option (Nat × Nat)) (I : Nat → Prop) (S : AS) (nt : Nat) (a : Act) (h : Array Obj) : Prop where
  vars : ∀ x v, get S.vars x = some v → relV h φ I S.A v (a.tmps.getD x undef)
  nt : a.tmps.size = nt
  defers : a.defers = []

theorem relE_mono {h h' : Array Obj} {φ φ' : Nat → Option (Nat × Nat)} {I A I' A' : Nat → Prop} (E : Ext h φ I A h' φ' I' A') : ∀ (l : List (AV × AV)) (es : List MapEntry), relE h φ I A l es → relE h' φ' I' A' l es
  | [], _, H => by simpa [relE] using H
  | (k, v) :: l, es, H => by
    simp only [relE] at H ⊢
    obtain ⟨e, r, h1, h2, h3, h4⟩ := H
    exact ⟨e, r, h1, relV_mono E _ _ h2, relV_mono E _ _ h3, relE_mono E l r h4⟩

/-- A block whose cells stay. -/
theorem relB_mono {h h' : Array Obj} {φ φ' : Nat → Option (Nat × Nat)} {I A I' A' : Nat → Prop} (E : Ext h φ I A h' φ' I' A') {b : Nat} {blk : Blk} (hb : A b)
    (hc : ∀ c o, φ b = some (c, o) → (∀ cs el, h[c]? = some (.cells cs el (0, 0)) → ∃ cs' el', h'[c]? = some (.cells cs' el' (0, 0))) ∧ (∀ o' v, hcell h c o' = some v → hcell h' c o' = some v) ∧ (∀ es clk, h[c]? = some (.map es clk) → h'[c]? = some (.map es clk)) ∧ (∀ s p, h[c]? = some (.stringIter s p) → h'[c]? = some (.stringIter s p)))
    (H : relB h φ I A b blk) : relB h' φ' I' A' b blk := by
  cases blk with
  | rows sz es =>
    simp only [relB] at H ⊢
    rcases H with ⟨h1, h2⟩ | ⟨c, o, cs, el, h1, h2, h3⟩
    · exact .inl ⟨by rw [E.agree _ hb, h1], h2⟩
    · obtain ⟨k1, k2, k3, _⟩ := hc c o h1
      obtain ⟨cs', el', h4⟩ := k1 _ _ h2
      exact .inr ⟨c, o, cs', el', by rw [E.agree _ hb, h1], h4, relR_mono E sz es c o k2 h3⟩
  | mp l =>
    simp only [relB] at H ⊢
    obtain ⟨c, es, clk, h1, h2, h3⟩ := H
    exact ⟨c, es, clk, by rw [E.agree _ hb, h1], (hc c 0 h1).2.2.1 _ _ h2, relE_mono E _ _ h3⟩
  | it s pos =>
    simp only [relB] at H ⊢
    obtain ⟨c, h1, h2⟩ := H
    exact ⟨c, by rw [E.agree _ hb, h1], (hc c 0 h1).2.2.2 _ _ h2⟩

/-- A block whose object is the very same. -/
theorem relB_same {h h' : Array Obj} {φ φ' : Nat → Option (Nat × Nat)} {I A I' A' : Nat → Prop} (E : Ext h φ I A h' φ' I' A') {b : Nat} {blk : Blk} (hb : A b)
    (hc : ∀ c o, φ b = some (c, o) → h'[c]? = h[c]?) (H : relB h φ I A b blk) : relB h' φ' I' A' b blk :=
  relB_mono E hb (fun c o hφ => by
    have h1 := hc c o hφ
    exact ⟨fun cs el h2 => ⟨cs, el, by rw [h1, h2]⟩, fun o' v h2 => by simpa [hcell, h1] using h2, fun es clk h2 => by rw [h1, h2], fun s p h2 => by rw [h1, h2]⟩) H

end
end Go.AM

/- What an operation's effect makes of a state, and that the relation to memory is kept. -/
namespace Go.AM
noncomputable section

def khp (hard : Bool) (b : Nat) (H : Heap) : Heap := match hard with
  | true => del b H
  | false => H
def kdd (hard : Bool) (b : Nat) (D : List (Nat × Unit)) : List (Nat × Unit) := match hard with
  | true => D
  | false => ins b () D

def putV (dst : Option Nat) (v : AV) (vs : Vars) : Vars := match dst with
  | some d => ins d v vs
  | none => vs

def AS.app (S : AS) (dst : Option Nat) (id : Nat) (hard : Bool) (e : Eff) : AS where
  vars := putV dst e.val S.vars
  heap :=
    let h1 := match e.upd with
      | some p => ins p.1 p.2 S.heap
      | none => S.heap
    let h2 := match e.kill with
      | some b => khp hard b h1
      | none => h1
    match e.new with
    | some blk => ins id blk h2
    | none => h2
  next := S.next
  used := match e.new with
    | some _ => ins id () S.used
    | none => S.used
  dead := match e.kill with
    | some b => kdd hard b S.dead
    | none => S.dead

theorem RelA.app {φ φ' : Nat → Option (Nat × Nat)} {I I' : Nat → Prop} {S : AS} {nt : Nat} {a : Act} {h h' : Array Obj} {dst : Option Nat} {id : Nat} {hard : Bool} {e : Eff} {cv : Value}
    (R : RelA φ I S nt a h) (E : Ext h φ I S.A h' φ' I' (S.app dst id hard e).A) (hd : ∀ d, dst = some d → d < nt) (hv : relV h' φ' I' (S.app dst id hard e).A e.val cv) :
    RelA φ' I' (S.app dst id hard e) nt (a.put dst cv) h' := by
  cases dst with
  | none => exact ⟨fun x v hx => relV_mono E _ _ (R.vars x v hx), R.nt, R.defers⟩
  | some d =>
    have hdn := hd d rfl
    refine ⟨fun x v hx => ?_, by simp [Act.put, R.nt], R.defers⟩
    simp only [AS.app, putV, get_ins] at hx
    simp only [Act.put, Array.getD_eq_getD_getElem?, Array.getElem?_setIfInBounds]
    by_cases h1 : d = x
    · subst h1
      simp only [if_true] at hx
      injection hx with hx
      subst hx
      simpa [R.nt, hdn] using hv
    · rw [if_neg h1] at hx
      have := relV_mono E _ _ (R.vars x v hx)
      simpa [h1, Array.getD_eq_getD_getElem?] using this

section
variable {X : Ctx} {φ : Nat → Option (Nat × Nat)} {I : Nat → Prop} {S : AS} {h h' : Array Obj}

theorem RelH.vars (R : RelH X φ I S h) (vs : Vars) : RelH X φ I { S with vars := vs } h :=
  ⟨R.heap, R.live, R.inj, R.idom, R.isub, R.isup, R.frame, R.size, R.sizes, R.agree, R.n0⟩

theorem Ext.refl' {A A' : Nat → Prop} (hA : ∀ b, A b → A' b) : Ext h φ I A h φ I A' := ⟨fun _ _ _ _ h => h, fun _ _ h => h, fun _ _ => rfl, fun _ h => h, hA⟩

/-- Memory has grown; what was there stays. -/
theorem Ext.grown {φ' : Nat → Option (Nat × Nat)} {A A' : Nat → Prop} (hs : ∀ c, c < h.size → h'[c]? = h[c]?) (hφ : ∀ b, A b → φ' b = φ b) (hA : ∀ b, A b → A' b) : Ext h φ I A h' φ' I A' := by
  have key : ∀ c x, h[c]? = some x → h'[c]? = some x := fun c x hc => by
    have : c < h.size := by
      rcases Nat.lt_or_ge c h.size with h1 | h1
      · exact h1
      · rw [Array.getElem?_eq_none h1] at hc; cases hc
    rw [hs c this, hc]
  refine ⟨fun c o v _ hc => ?_, fun c s hc => ?_, hφ, fun _ h => h, hA⟩
  · unfold hcell at hc ⊢
    cases hx : h[c]? with
    | none => simp [hx] at hc
    | some x => rw [key c x hx]; simpa [hx] using hc
  · unfold hsize at hc ⊢
    cases hx : h[c]? with
    | none => simp [hx] at hc
    | some x => rw [key c x hx]; simpa [hx] using hc

def upφ (φ : Nat → Option (Nat × Nat)) (id : Nat) (p : Option (Nat × Nat)) : Nat → Option (Nat × Nat) := fun b => if b = id then p else φ b

theorem upφ_agree {id : Nat} {p : Option (Nat × Nat)} (hid : ¬ S.A id) : ∀ b, S.A b → upφ φ id p b = φ b := fun b hb => by
  unfold upφ; split
  · rename_i h1; subst h1; exact absurd hb hid
  · rfl

theorem A_used {vs : Vars} {H : Heap} {D : List (Nat × Unit)} {id : Nat} (b : Nat) : (AS.mk vs H S.next (ins id () S.used) D).A b ↔ b = id ∨ S.A b := by
  simp only [AS.A, get_ins]
  by_cases h1 : id = b
  · simp [h1]
  · simp only [h1, if_false]
    have : ¬ b = id := fun h => h1 h.symm
    simp [this]

/-- A new block. -/
theorem RelH.new (R : RelH X φ I S h) {id : Nat} (hid : ¬ S.A id) {p : Option (Nat × Nat)} {blk : Blk} (vs : Vars) (hsz : h.size ≤ h'.size) (hs : ∀ c, c < h.size → h'[c]? = h[c]?)
    (hp : ∀ c o, p = some (c, o) → h.size ≤ c ∧ c < h'.size)
    (hb : relB h' (upφ φ id p) I (AS.mk vs S.heap S.next (ins id () S.used) S.dead).A id blk) :
    RelH X (upφ φ id p) I { S with vars := vs, heap := ins id blk S.heap, used := ins id () S.used } h' := by
  have hA : ∀ b, S.A b → (AS.mk vs S.heap S.next (ins id () S.used) S.dead).A b := fun b h1 => (A_used b).2 (.inr h1)
  have E : Ext h φ I S.A h' (upφ φ id p) I (AS.mk vs S.heap S.next (ins id () S.used) S.dead).A := Ext.grown hs (upφ_agree hid) hA
  have hne : ∀ b, S.A b → b ≠ id := fun b h1 h2 => hid (h2 ▸ h1)
  have hφ : ∀ b, b ≠ id → upφ φ id p b = φ b := fun b h1 => by unfold upφ; rw [if_neg h1]
  have hin : ∀ b, get S.heap b ≠ none → S.A b := fun b h1 => by
    cases h2 : get S.heap b with
    | none => exact absurd h2 h1
    | some blk => exact (R.heap _ _ h2).1
  have hlt : ∀ b c o, get S.heap b ≠ none → φ b = some (c, o) → c < h.size := fun b c o h1 h2 => by
    cases h3 : get S.heap b with
    | none => exact absurd h3 h1
    | some blk => exact (R.live _ _ _ _ h3 h2).1
  refine ⟨?_, ?_, ?_, fun c hc => Nat.lt_of_lt_of_le (R.idom c hc) hsz, R.isub, R.isup, fun c h1 h2 => ?_, Nat.le_trans R.size hsz, fun c s h1 => E.sizes c s (R.sizes c s h1), fun b hb => ?_, R.n0⟩
  · intro b blk' h1
    simp only [get_ins] at h1
    split at h1
    · rename_i h2; subst h2; injection h1 with h1; subst h1
      exact ⟨(A_used _).2 (.inl rfl), hb⟩
    · rename_i h2
      obtain ⟨h3, h4⟩ := R.heap _ _ h1
      refine ⟨hA _ h3, relB_same E h3 (fun c o h5 => hs c (R.live _ _ _ _ h1 h5).1) h4⟩
  · intro b blk' c o h1 h2
    simp only [get_ins] at h1
    split at h1
    · rename_i h3; subst h3
      simp only [upφ, if_true] at h2
      obtain ⟨h4, h5⟩ := hp _ _ h2
      exact ⟨h5, fun h6 => by have := R.idom c h6; omega, .inr (by have := R.size; omega)⟩
    · rename_i h3
      rw [hφ b (Ne.symm h3)] at h2
      obtain ⟨h4, h5, h6⟩ := R.live _ _ _ _ h1 h2
      exact ⟨by omega, h5, h6⟩
  · intro b b' c o c' o' h1 h2 h3 h4 h5 h6
    simp only [get_ins] at h1 h2
    by_cases e1 : id = b
    · subst e1
      have e2 : id ≠ b' := h3
      rw [if_neg e2] at h2
      simp only [upφ, if_true] at h5
      rw [hφ b' (Ne.symm e2)] at h6
      have := hlt _ _ _ h2 h6
      have := (hp _ _ h5).1
      omega
    · rw [if_neg e1] at h1
      rw [hφ b (Ne.symm e1)] at h5
      by_cases e2 : id = b'
      · subst e2
        simp only [upφ, if_true] at h6
        have := hlt _ _ _ h1 h5
        have := (hp _ _ h6).1
        omega
      · rw [if_neg e2] at h2
        rw [hφ b' (Ne.symm e2)] at h6
        exact R.inj b b' c o c' o' h1 h2 h3 h4 h5 h6
  · rw [hs c (by have := R.size; omega)]
    exact R.frame c h1 h2
  · rw [hφ b fun h1 => hid (by subst h1; exact .inl (by have := R.n0; omega))]
    exact R.agree b hb

/-- Blocks are forgotten. -/
theorem RelH.sub (R : RelH X φ I S h) {H : Heap} {D : List (Nat × Unit)} {vs : Vars} (hH : ∀ b blk, get H b = some blk → get S.heap b = some blk) (hD : ∀ b, get D b = none → get H b ≠ none → get S.dead b = none) :
    RelH X φ I { S with vars := vs, heap := H, dead := D } h := by
  have hin : ∀ b, get H b ≠ none → get S.heap b ≠ none := fun b h1 h2 => by
    cases h3 : get H b with
    | none => exact h1 h3
    | some blk => rw [hH _ _ h3] at h2; cases h2
  refine ⟨fun b blk h1 => R.heap b blk (hH _ _ h1), fun b blk c o h1 => R.live b blk c o (hH _ _ h1), fun b b' c o c' o' h1 h2 h3 h4 h5 h6 => ?_, R.idom, R.isub, R.isup, R.frame, R.size, R.sizes, R.agree, R.n0⟩
  refine R.inj b b' c o c' o' (hin _ h1) (hin _ h2) h3 ?_ h5 h6
  rcases h4 with ⟨k1, k2⟩ | h4
  · exact .inl ⟨hD _ k1 h1, hD _ k2 h2⟩
  · exact .inr h4

/-- The cells of one live block have been written: what is told of it is told anew. -/
theorem RelH.wrote (R : RelH X φ I S h) {b c o : Nat} {blk blk' : Blk} (vs : Vars) (hb : get S.heap b = some blk) (hφ : φ b = some (c, o)) (hdead : ∀ b', get S.dead b' = none)
    (hsz : h'.size = h.size) (hs : ∀ c', c' ≠ c → h'[c']? = h[c']?) (hss : ∀ c' s, hsize h c' = some s → hsize h' c' = some s)
    (hnew : Ext h φ I S.A h' φ I S.A → relB h' φ I S.A b blk') : RelH X φ I { S with vars := vs, heap := ins b blk' S.heap } h' ∧ Ext h φ I S.A h' φ I S.A := by
  obtain ⟨hc1, hc2, hc3⟩ := R.live _ _ _ _ hb hφ
  have E : Ext h φ I S.A h' φ I S.A := ⟨fun c' o' v h1 h2 => by
      have : c' ≠ c := fun h3 => hc2 (h3 ▸ h1)
      simpa [hcell, hs c' this] using h2, hss, fun _ _ => rfl, fun _ h => h, fun _ h => h⟩
  have hbn : get S.heap b ≠ none := by rw [hb]; simp
  refine ⟨⟨fun b1 blk1 h1 => ?_, fun b1 blk1 c1 o1 h1 h2 => ?_, fun b1 b2 c1 o1 c2 o2 h1 h2 h3 h4 h5 h6 => ?_, fun c' h1 => hsz ▸ R.idom c' h1, R.isub, R.isup, fun c' h1 h2 => ?_, hsz ▸ R.size, fun c' s h1 => hss _ _ (R.sizes _ _ h1), R.agree, R.n0⟩, E⟩
  · simp only [get_ins] at h1
    split at h1
    · rename_i h2; subst h2; injection h1 with h1; subst h1
      exact ⟨(R.heap _ _ hb).1, hnew E⟩
    · rename_i h2
      obtain ⟨h3, h4⟩ := R.heap _ _ h1
      refine ⟨h3, relB_same E h3 (fun c1 o1 h5 => hs c1 ?_) h4⟩
      exact fun h6 => R.inj b b1 c o c1 o1 hbn (by rw [h1]; simp) h2 (.inl ⟨hdead _, hdead _⟩) hφ h5 h6.symm
  · simp only [get_ins] at h1
    rw [hsz]
    split at h1
    · rename_i h3; subst h3; exact R.live _ _ _ _ hb h2
    · exact R.live _ _ _ _ h1 h2
  · simp only [get_ins] at h1 h2
    refine R.inj b1 b2 c1 o1 c2 o2 ?_ ?_ h3 h4 h5 h6
    · split at h1
      · rename_i h7; subst h7; exact hbn
      · exact h1
    · split at h2
      · rename_i h7; subst h7; exact hbn
      · exact h2
  · rw [hs c' ?_, R.frame c' h1 h2]
    intro h3; subst h3
    rcases hc3 with h4 | h4
    · exact h2 h4
    · omega

/-- A block has been appended to in place: the new one starts within it, the old one is used up. -/
theorem RelH.onto (R : RelH X φ I S h) {b id c o o1 sz : Nat} {es : List (List AV)} {blk' : Blk} {hard : Bool} (vs : Vars) (hid : ¬ S.A id) (hb : get S.heap b = some (.rows sz es)) (hφ : φ b = some (c, o))
    (hdead : (∀ b', get S.dead b' = none) ∨ (b < S.next ∧ get S.dead b = none)) (hdl : ∀ b', get S.dead b' ≠ none → b' < S.next)
    (hsz : h'.size = h.size) (hs : ∀ c', c' ≠ c → h'[c']? = h[c']?) (hss : ∀ c' s, hsize h c' = some s → hsize h' c' = some s)
    (hhere : ∀ cs el, h[c]? = some (.cells cs el (0, 0)) → ∃ cs', h'[c]? = some (.cells cs' el (0, 0)))
    (hcell : hard = false → b < S.next ∧ ∀ o' v, o' < o + es.length * sz → hcell h c o' = some v → hcell h' c o' = some v)
    (hnew : Ext h φ I S.A h' (upφ φ id (some (c, o1))) I (AS.mk vs S.heap S.next (ins id () S.used) S.dead).A → relB h' (upφ φ id (some (c, o1))) I (AS.mk vs S.heap S.next (ins id () S.used) S.dead).A id blk') :
    RelH X (upφ φ id (some (c, o1))) I { S with vars := vs, heap := ins id blk' (khp hard b S.heap), used := ins id () S.used, dead := (kdd hard b S.dead) } h' ∧
    Ext h φ I S.A h' (upφ φ id (some (c, o1))) I (AS.mk vs S.heap S.next (ins id () S.used) S.dead).A := by
  obtain ⟨hc1, hc2, hc3⟩ := R.live _ _ _ _ hb hφ
  have hA : ∀ b, S.A b → (AS.mk vs S.heap S.next (ins id () S.used) S.dead).A b := fun b h1 => (A_used b).2 (.inr h1)
  have E : Ext h φ I S.A h' (upφ φ id (some (c, o1))) I (AS.mk vs S.heap S.next (ins id () S.used) S.dead).A := ⟨fun c' o' v h1 h2 => by
      have : c' ≠ c := fun h3 => hc2 (h3 ▸ h1)
      simpa [AM.hcell, hs c' this] using h2, hss, upφ_agree hid, fun _ h => h, hA⟩
  have hbn : get S.heap b ≠ none := by rw [hb]; simp
  have hbA := (R.heap _ _ hb).1
  have hbid : b ≠ id := fun h1 => hid (h1 ▸ hbA)
  have hφ' : ∀ b, b ≠ id → upφ φ id (some (c, o1)) b = φ b := fun b h1 => by unfold upφ; rw [if_neg h1]
  have hin : ∀ b1 blk1, get (khp hard b S.heap) b1 = some blk1 → get S.heap b1 = some blk1 ∧ (hard = true → b1 ≠ b) := by
    intro b1 blk1 h1
    cases hard with
    | true =>
      simp only [khp, get_del] at h1
      split at h1
      · cases h1
      · rename_i h2; exact ⟨h1, fun _ h3 => h2 h3.symm⟩
    | false => exact ⟨h1, by simp⟩
  have hin' : ∀ b1, get (khp hard b S.heap) b1 ≠ none → get S.heap b1 ≠ none ∧ (hard = true → b1 ≠ b) := by
    intro b1 h1
    cases h2 : get (khp hard b S.heap) b1 with
    | none => exact absurd h2 h1
    | some blk1 => obtain ⟨h3, h4⟩ := hin _ _ h2; exact ⟨by rw [h3]; simp, h4⟩
  -- every other block stands elsewhere
  have apart : ∀ b1 c1 o1, get S.heap b1 ≠ none → b1 ≠ b → φ b1 = some (c1, o1) → c1 ≠ c := by
    intro b1 c1 o1 h1 h2 h3
    refine R.inj b1 b c1 o1 c o h1 hbn h2 ?_ h3 hφ
    rcases hdead with h4 | ⟨h4, h4'⟩
    · exact .inl ⟨h4 _, h4 _⟩
    · by_cases h5 : get S.dead b1 = none
      · exact .inl ⟨h5, h4'⟩
      · exact .inr ⟨hdl _ h5, h4⟩
  refine ⟨⟨fun b1 blk1 h1 => ?_, fun b1 blk1 c1 o1' h1 h2 => ?_, fun b1 b2 c1 o1' c2 o2 h1 h2 h3 h4 h5 h6 => ?_, fun c' h1 => hsz ▸ R.idom c' h1, R.isub, R.isup, fun c' h1 h2 => ?_, hsz ▸ R.size, fun c' s h1 => hss _ _ (R.sizes _ _ h1), fun b1 h1 => ?_, R.n0⟩, E⟩
  · simp only [get_ins] at h1
    split at h1
    · rename_i h2; subst h2; injection h1 with h1; subst h1
      exact ⟨(A_used _).2 (.inl rfl), hnew E⟩
    · rename_i h2
      obtain ⟨h3, h4⟩ := hin _ _ h1
      obtain ⟨h5, h6⟩ := R.heap _ _ h3
      refine ⟨hA _ h5, ?_⟩
      by_cases h7 : b1 = b
      · subst h7
        cases hard with
        | true => exact absurd rfl (h4 rfl)
        | false =>
          rw [hb] at h3
          injection h3 with h3
          subst h3
          simp only [relB] at h6 ⊢
          rw [hφ' _ hbid, hφ]
          rcases h6 with ⟨h8, _⟩ | ⟨c8, o8, cs8, el8, h8, h9, h10⟩
          · rw [hφ] at h8; cases h8
          · rw [hφ] at h8
            injection h8 with h8
            injection h8 with h11 h12
            subst h11 h12
            obtain ⟨cs', h13⟩ := hhere _ _ h9
            exact .inr ⟨_, _, cs', el8, rfl, h13, relR_congr E (fun o' v _ h14 h15 => (hcell rfl).2 o' v h14 h15) h10⟩
      · exact relB_same E h5 (fun c1 o1 h8 => hs c1 (apart b1 c1 o1 (by rw [h3]; simp) h7 h8)) h6
  · simp only [get_ins] at h1
    rw [hsz]
    split at h1
    · rename_i h3; subst h3
      simp only [upφ, if_true] at h2
      injection h2 with h2; injection h2 with h4 h5; subst h4
      exact ⟨hc1, hc2, hc3⟩
    · rename_i h3
      rw [hφ' _ (Ne.symm h3)] at h2
      exact R.live _ _ _ _ (hin _ _ h1).1 h2
  · have hdd : ∀ b1, get (kdd hard b S.dead) b1 = none → get S.dead b1 = none ∧ (hard = false → b1 ≠ b) := by
      intro b1 k1
      cases hard with
      | true => exact ⟨k1, by simp⟩
      | false =>
        simp only [kdd, get_ins] at k1
        split at k1
        · cases k1
        · rename_i k2; exact ⟨k1, fun _ k3 => k2 k3.symm⟩
    have hnb : ∀ b1, get (khp hard b S.heap) b1 ≠ none → get (kdd hard b S.dead) b1 = none → b1 ≠ b := by
      intro b1 k1 k2
      cases hhd : hard with
      | true => exact (hin' _ k1).2 hhd
      | false => exact (hdd _ k2).2 hhd
    simp only [get_ins] at h1 h2
    simp only at h4
    by_cases e1 : id = b1
    · subst e1
      have e2 : id ≠ b2 := h3
      rw [if_neg e2] at h2
      simp only [upφ, if_true] at h5
      injection h5 with h5; injection h5 with h7 h8; subst h7
      rw [hφ' _ (Ne.symm e2)] at h6
      rcases h4 with ⟨k1, k2⟩ | ⟨k1, k2⟩
      · exact Ne.symm (apart b2 c2 o2 (hin' _ h2).1 (hnb _ h2 k2) h6)
      · exact absurd (Or.inl k1) hid
    · rw [if_neg e1] at h1
      rw [hφ' _ (Ne.symm e1)] at h5
      by_cases e2 : id = b2
      · subst e2
        simp only [upφ, if_true] at h6
        injection h6 with h6; injection h6 with h7 h8; subst h7
        rcases h4 with ⟨k1, k2⟩ | ⟨k1, k2⟩
        · exact apart b1 c1 o1' (hin' _ h1).1 (hnb _ h1 k1) h5
        · exact absurd (Or.inl k2) hid
      · rw [if_neg e2] at h2
        rw [hφ' _ (Ne.symm e2)] at h6
        refine R.inj b1 b2 c1 o1' c2 o2 (hin' _ h1).1 (hin' _ h2).1 h3 ?_ h5 h6
        rcases h4 with ⟨k1, k2⟩ | h4
        · exact .inl ⟨(hdd _ k1).1, (hdd _ k2).1⟩
        · exact .inr h4
  · rw [hs c' ?_, R.frame c' h1 h2]
    intro h3; subst h3
    rcases hc3 with h4 | h4
    · exact h2 h4
    · omega
  · rw [hφ' b1 fun h2 => hid (by subst h2; exact .inl (by have := R.n0; omega))]
    exact R.agree b1 h1
end
end
end Go.AM

/- Which operation of the program an abstract operation stands for; what its run yields. -/
namespace Go.AM
noncomputable section

mutual
def okC : Value → AV → Bool
  | .bool a, .bool b => a == b
  | .int k n, .int k' n' => decide (k = k') && decide (n = n')
  | .string s, .str s' => decide (s.data.toList = s'.data.toList)
  | .pointer none, .nilp => true
  | .slice none n c, .nils => decide (n = 0) && decide (c = 0)
  | .map none, .nilm => true
  | .nilFunc, .nilf => true
  | .nilIface, .nili => true
  | .agg ⟨vs⟩, .agg cs => okCs vs cs
  | _, _ => false
def okCs : List Value → List AV → Bool
  | [], [] => true
  | v :: vs, x :: xs => okC v x && okCs vs xs
  | _, _ => false
end

def okArg : Operand → LArg → Bool
  | .tmp t, .t x => decide (t = x)
  | .func f, .c (.fn g [] []) => decide (f = g)
  | .const v, .c x => okC v x
  | _, _ => false

def okArgs : List Operand → List LArg → Bool
  | [], [] => true
  | x :: l, y :: m => okArg x y && okArgs l m
  | _, _ => false

def okOpt : Option Operand → Option LArg → Bool
  | none, none => true
  | some x, some y => okArg x y
  | _, _ => false

section
variable {h : Array Obj} {φ : Nat → Option (Nat × Nat)} {I A : Nat → Prop}
mutual
theorem okC_rel : ∀ (v : Value) (x : AV), okC v x = true → relV h φ I A x v
  | .bool a, x, H => by
    cases x <;> simp only [okC, Bool.false_eq_true] at H
    simp only [relV]; simp at H; rw [H]
  | .int k n, x, H => by
    cases x <;> simp only [okC, Bool.false_eq_true] at H
    simp only [Bool.and_eq_true, decide_eq_true_eq] at H
    obtain ⟨rfl, rfl⟩ := H
    simp only [relV]
  | .string s, x, H => by
    cases x <;> simp only [okC, Bool.false_eq_true] at H
    simp only [decide_eq_true_eq] at H
    simp only [relV]; rw [ByteArray.ext (Array.ext' H)]
  | .pointer a, x, H => by
    cases a <;> cases x <;> simp only [okC, Bool.false_eq_true] at H
    simp only [relV]
  | .slice a n c, x, H => by
    cases a <;> cases x <;> simp only [okC, Bool.false_eq_true] at H
    simp only [Bool.and_eq_true, decide_eq_true_eq] at H
    obtain ⟨rfl, rfl⟩ := H
    simp only [relV]
  | .map a, x, H => by
    cases a <;> cases x <;> simp only [okC, Bool.false_eq_true] at H
    simp only [relV]
  | .nilFunc, x, H => by
    cases x <;> simp only [okC, Bool.false_eq_true] at H
    simp only [relV]
  | .nilIface, x, H => by
    cases x <;> simp only [okC, Bool.false_eq_true] at H
    simp only [relV]
  | .agg ⟨vs⟩, x, H => by
    cases x <;> simp only [okC, Bool.false_eq_true] at H
    simp only [relV]
    exact ⟨vs, rfl, okCs_rel vs _ H⟩
  | .float _ _, x, H => by cases x <;> simp [okC] at H
  | .complex _ _ _, x, H => by cases x <;> simp [okC] at H
  | .chan _, x, H => by cases x <;> simp [okC] at H
  | .func _ _ _, x, H => by cases x <;> simp [okC] at H
  | .iface _ _, x, H => by cases x <;> simp [okC] at H
  | .tuple _, x, H => by cases x <;> simp [okC] at H
theorem okCs_rel : ∀ (vs : List Value) (xs : List AV), okCs vs xs = true → relL h φ I A xs vs
  | [], [], _ => by simp [relL]
  | v :: vs, x :: xs, H => by
    simp only [okCs, Bool.and_eq_true] at H
    simp only [relL]
    exact ⟨v, vs, rfl, okC_rel v x H.1, okCs_rel vs xs H.2⟩
  | [], _ :: _, H => by simp [okCs] at H
  | _ :: _, [], H => by simp [okCs] at H
end

variable {S : AS} {nt : Nat} {a : Act}
theorem ev_rel (R : RelA φ I S nt a h) {x : Operand} {y : LArg} (H : okArg x y = true) : relV h φ I S.A (y.ev S.vars) (a.eval x) := by
  cases x with
  | tmp t =>
    cases y with
    | t x =>
      simp only [okArg, decide_eq_true_eq] at H; subst H
      simp only [LArg.ev, Act.eval]
      cases hx : get S.vars t with
      | none => simp [relV]
      | some v => simpa [Array.getD_eq_getD_getElem?] using R.vars t v hx
    | c v => simp [okArg] at H
  | const v =>
    cases y with
    | t x => simp [okArg] at H
    | c x => simp only [okArg] at H; exact okC_rel v x H
  | global g => cases y <;> simp [okArg] at H
  | func f =>
    cases y with
    | t x => simp [okArg] at H
    | c x =>
      unfold okArg at H
      split at H
      · rename_i h1 h2; cases h1
      · rename_i h1 h2
        injection h1 with h1; injection h2 with h2
        subst h1 h2
        simp only [decide_eq_true_eq] at H
        simp only [LArg.ev, Act.eval, relV]
        exact ⟨[], [], by rw [H], by simp [relL], by simp [relL]⟩
      · rename_i h1 h2; cases h1
      · cases H

theorem evs_rel (R : RelA φ I S nt a h) : ∀ {xs : List Operand} {ys : List LArg}, okArgs xs ys = true → relL h φ I S.A (ys.map (·.ev S.vars)) (xs.map a.eval)
  | [], [], _ => by simp [relL]
  | x :: xs, y :: ys, H => by
    simp only [okArgs, Bool.and_eq_true] at H
    simp only [List.map_cons, relL]
    exact ⟨_, _, rfl, ev_rel R H.1, evs_rel R H.2⟩
  | [], _ :: _, H => by simp [okArgs] at H
  | _ :: _, [], H => by simp [okArgs] at H

theorem rel_bool {t : Bool} {v : Value} (H : relV h φ I A (.bool t) v) : v = .bool t := by simpa [relV] using H
theorem rel_int {k : IntKind} {n : Int} {v : Value} (H : relV h φ I A (.int k n) v) : v = .int k n := by simpa [relV] using H
theorem rel_str {s : ByteArray} {v : Value} (H : relV h φ I A (.str s) v) : v = .string s := by simpa [relV] using H
end

/-- An operation that yields a value and leaves memory alone. -/
def Yields (P : Program) (s : Sem Value) (h : Array Obj) (φ : Nat → Option (Nat × Nat)) (I A : Nat → Prop) (x : AV) (w : World) : Prop :=
  ∃ v w', s.run P w = .ok v w' ∧ w' = w ∧ relV h φ I A x v

section
variable {P : Program} {h : Array Obj} {φ : Nat → Option (Nat × Nat)} {I A : Nat → Prop} {w : World}

theorem grd_some {α : Type} {b : Bool} {x : Option α} {y : α} (H : grd b x = some y) : b = true ∧ x = some y := by
  cases b <;> simp [grd] at H
  exact ⟨rfl, H⟩

theorem yields_int {s : Sem Value} {k : IntKind} {n : Int} (H : s.run P w = .ok (.int k n) w) : Yields P s h φ I A (.int k n) w := ⟨_, w, H, rfl, by simp [relV]⟩
theorem yields_bool {s : Sem Value} {b : Bool} (H : s.run P w = .ok (.bool b) w) : Yields P s h φ I A (.bool b) w := ⟨_, w, H, rfl, by simp [relV]⟩
theorem yields_str {s : Sem Value} {b : ByteArray} (H : s.run P w = .ok (.string b) w) : Yields P s h φ I A (.str b) w := ⟨_, w, H, rfl, by simp [relV]⟩

theorem y_binI {op : BinOp} {k : IntKind} {t : TypeId} {m n : Int} {v : AV} (H : binI op k m n = some v) : Yields P (binOp op t (.int k m) (.int k n)) h φ I A v w := by
  cases op
  case quo => 
    simp only [binI] at H
    obtain ⟨h1, h2⟩ := grd_some H; injection h2 with h2; subst h2; simp only [decide_eq_true_eq] at h1
    exact yields_int (by simp [binOp, Op.intDiv, h1])
  case rem =>
    simp only [binI] at H
    obtain ⟨h1, h2⟩ := grd_some H; injection h2 with h2; subst h2; simp only [decide_eq_true_eq] at h1
    exact yields_int (by simp [binOp, Op.intDiv, h1])
  case shl => simp [binI] at H
  case shr => simp [binI] at H
  all_goals
    simp only [binI] at H
    injection H with H; subst H
    first | (refine yields_int ?_; simp [binOp, Op.intArith, Op.intBits]; done) | (refine yields_bool ?_; simp [binOp, Op.intCmp]; done)

theorem y_binSh {op : BinOp} {k k' : IntKind} {t : TypeId} {m n : Int} {v : AV} (H : binSh op k m n = some v) : Yields P (binOp op t (.int k m) (.int k' n)) h φ I A v w := by
  cases op
  case shl =>
    simp only [binSh] at H
    obtain ⟨h1, h2⟩ := grd_some H; injection h2 with h2; subst h2; simp only [decide_eq_true_eq] at h1
    exact yields_int (by simp only [binOp, Op.shift]; rw [if_neg (by omega)]; rfl)
  case shr =>
    simp only [binSh] at H
    obtain ⟨h1, h2⟩ := grd_some H; injection h2 with h2; subst h2; simp only [decide_eq_true_eq] at h1
    exact yields_int (by simp only [binOp, Op.shift]; rw [if_neg (by omega)]; rfl)
  all_goals simp [binSh] at H

theorem y_binS {op : BinOp} {t : TypeId} {m n : ByteArray} {v : AV} (H : binS op m n = some v) : Yields P (binOp op t (.string m) (.string n)) h φ I A v w := by
  cases op
  case add =>
    simp only [binS] at H
    obtain ⟨h1, h2⟩ := grd_some H; injection h2 with h2; subst h2; simp only [decide_eq_true_eq] at h1
    refine ⟨.string (m ++ n), w, ?_, rfl, by simp [relV]⟩
    simp only [binOp, Op.stringOp]
    rw [if_neg (by simp [IntKind.max, IntKind.signed, IntKind.bits]; omega)]
    rfl
  case eql | neq | lss | leq | gtr | geq =>
    simp only [binS] at H
    injection H with H; subst H
    exact yields_bool (by simp [binOp, Op.stringOp])
  all_goals simp [binS] at H

theorem y_binV {op : BinOp} {t : TypeId} {x y v : AV} {a b : Value} (hx : relV h φ I A x a) (hy : relV h φ I A y b) (H : binV op x y = some v) : Yields P (binOp op t a b) h φ I A v w := by
  unfold binV at H
  split at H
  · rename_i k m k' n
    have := rel_int hx; subst this
    have := rel_int hy; subst this
    split at H
    · exact y_binSh H
    · exact y_binSh H
    · obtain ⟨h1, h2⟩ := grd_some H
      simp only [decide_eq_true_eq] at h1
      subst h1
      exact y_binI h2
  · have := rel_str hx; subst this
    have := rel_str hy; subst this
    exact y_binS H
  · cases H

theorem run_eqGuard_scalar {op : BinOp} {t : TypeId} {x y : Operand} {a b : Value} (h1 : ∀ cs, a ≠ .agg cs) (h2 : a ≠ .nilIface) : (eqGuard op t x y a b).run P w = .ok () w := by
  unfold eqGuard
  cases op <;> first | rfl | (cases a <;> first | rfl | (exact absurd rfl (h1 _)) | (exact absurd rfl h2))

theorem y_bin {op : BinOp} {t : TypeId} {ox oy : Operand} {x y v : AV} {a b : Value} (hx : relV h φ I A x a) (hy : relV h φ I A y b) (H : binV op x y = some v) :
    Yields P (do eqGuard op t ox oy a b; binOp op t a b) h φ I A v w := by
  obtain ⟨r, w', h1, h2, h3⟩ := y_binV (P := P) (t := t) (w := w) hx hy H
  refine ⟨r, w', ?_, h2, h3⟩
  have hg : (eqGuard op t ox oy a b).run P w = .ok () w := by
    unfold binV at H
    split at H
    · have := rel_int hx; subst this; exact run_eqGuard_scalar (by simp) (by simp)
    · have := rel_str hx; subst this; exact run_eqGuard_scalar (by simp) (by simp)
    · cases H
  rw [Sem.run_bind, hg]
  exact h1

/-! ### Equality -/
def ekOf (P : Program) (t : TypeId) : Option EK := match P.underlying t with
  | some .bool => some .b
  | some (.int _) => some .i
  | some .string => some .s
  | _ => none

/-- The fields of a struct are single cells, one behind the other, of kinds that are compared at sight. -/
def flatFs (P : Program) : List Field → Nat → List EK → Bool
  | [], _, [] => true
  | f :: fs, o, k :: ks => decide (f.offset = o) && ((f.name != "_") && (decide (ekOf P f.type = some k) && flatFs P fs (o + 1) ks))
  | _, _, _ => false

def okKT (P : Program) (t : TypeId) : KT → Bool
  | .sc k => decide (ekOf P t = some k)
  | .ag ks => match P.underlying t with
    | some (.struct fs) => flatFs P fs.toList 0 ks && (!P.stoodInHeld t && !P.eqGuardType P.depth t)
    | _ => false

theorem eqS_run {t : TypeId} (d : Nat) {k : EK} (hT : ekOf P t = some k) {x y : AV} {a b : Value} {r : Bool} (hx : relV h φ I A x a) (hy : relV h φ I A y b) (H : eqS k x y = some r) : (Op.equalIn (d + 1) t a b).run P w = .ok r w := by
  unfold ekOf at hT
  unfold eqS at H
  split at H
  · simp only [relV] at hx hy
    subst hx hy; injection H with H; subst H
    split at hT <;> simp at hT
    rename_i hu
    exact run_equalIn_bool' w d t _ _ hu
  · simp only [relV] at hx hy
    obtain ⟨h1, h2⟩ := grd_some H; injection h2 with h2; subst h2; simp only [decide_eq_true_eq] at h1; subst h1
    subst hx hy
    split at hT <;> simp at hT
    rename_i hu
    exact run_equalIn_int w d t _ _ _ _ hu
  · simp only [relV] at hx hy
    subst hx hy; injection H with H; subst H
    split at hT <;> simp at hT
    rename_i hu
    rw [run_equalIn_string w d t _ _ hu, beq_toListBytes]
  · cases H

theorem ekOf_one {t : TypeId} {k : EK} (hT : ekOf P t = some k) : (isAgg t).run P w = .ok false w := by
  unfold ekOf at hT
  split at hT <;> simp at hT
  all_goals (rename_i hu; simp [isAgg, run_underlying hu])

theorem run_part_one {t : TypeId} {k : EK} (hT : ekOf P t = some k) {cs : Array Value} {o : Nat} {v : Value} (hv : cs[o]? = some v) : (part t cs o).run P w = .ok v w := by
  simp [part, ekOf_one hT, hv]

theorem eqFields_run (d : Nat) : ∀ (fs : List Field) (ks : List EK) (o : Nat) (xs ys : List AV) (vs us : List Value) (r : Bool), flatFs P fs o ks = true → relL h φ I A xs vs → relL h φ I A ys us →
    eqL ks (xs.drop o) (ys.drop o) = some r → (Op.eqFields (d + 1) vs.toArray us.toArray fs).run P w = .ok r w
  | [], ks, o, xs, ys, vs, us, r, hf, hx, hy, H => by
    cases ks <;> simp only [flatFs, Bool.false_eq_true] at hf
    unfold eqL at H
    split at H
    · injection H with H; subst H; rfl
    · rename_i h1 _ _; cases h1
    · cases H
  | f :: fs, ks, o, xs, ys, vs, us, r, hf, hx, hy, H => by
    cases ks with
    | nil => simp [flatFs] at hf
    | cons k ks =>
      simp only [flatFs, Bool.and_eq_true, decide_eq_true_eq] at hf
      obtain ⟨h1, h2, h3, h4⟩ := hf
      unfold eqL at H
      split at H
      · rename_i h5 _ _; cases h5
      · rename_i k' ks' a x b y e1 e2 e3
        injection e1 with e1 e1'; subst e1 e1'
        have ga : xs[o]? = some a := by rw [← List.head?_drop, e2]; rfl
        have gb : ys[o]? = some b := by rw [← List.head?_drop, e3]; rfl
        obtain ⟨va, h6, h7⟩ := relL_get hx ga
        obtain ⟨vb, h8, h9⟩ := relL_get hy gb
        have hx1 : xs.drop (o + 1) = x := by rw [← List.drop_drop, e2]; rfl
        have hy1 : ys.drop (o + 1) = y := by rw [← List.drop_drop, e3]; rfl
        simp only [Op.eqFields]
        rw [if_pos (by simpa using h2)]
        simp only [Sem.run_bind, h1]
        rw [run_part_one h3 (by simpa using h6)]
        simp only [Result.andThen_ok]
        rw [run_part_one h3 (by simpa using h8)]
        simp only [Result.andThen_ok]
        cases hr : eqS k a b with
        | none => rw [hr] at H; cases H
        | some q =>
          rw [hr] at H
          rw [eqS_run d h3 h7 h9 hr]
          simp only [Result.andThen_ok]
          cases q with
          | false => injection H with H; subst H; rfl
          | true =>
            simp only [Bool.not_true, Bool.false_eq_true, if_false]
            exact eqFields_run d fs ks (o + 1) xs ys vs us r h4 hx hy (by rw [hx1, hy1]; exact H)
      · cases H

theorem eqV_run {t : TypeId} {kt : KT} (d : Nat) (hT : okKT P t kt = true) {x y : AV} {a b : Value} {r : Bool} (hx : relV h φ I A x a) (hy : relV h φ I A y b) (H : eqV kt x y = some r) :
    (Op.equalIn (d + 2) t a b).run P w = .ok r w := by
  unfold eqV at H
  split at H
  · rename_i ks xs ys
    simp only [relV] at hx hy
    obtain ⟨vs, rfl, h1⟩ := hx
    obtain ⟨us, rfl, h2⟩ := hy
    simp only [okKT] at hT
    split at hT
    · rename_i fs hu
      simp only [Bool.and_eq_true, Bool.not_eq_true'] at hT
      obtain ⟨h3, h4, h5⟩ := hT
      have hf : P.fieldsOf t = fs := by simp [Program.fieldsOf, hu]
      rw [run_equalIn_struct w (d + 1) t _ _ (by rw [hf, hu]) h4, hf]
      exact eqFields_run d fs.toList ks 0 xs ys vs us r h3 h1 h2 (by simpa using H)
    · cases hT
  · rename_i k
    simp only [okKT, decide_eq_true_eq] at hT
    exact eqS_run (d + 1) hT hx hy H
  · cases H

theorem y_eq {t : TypeId} {kt : KT} {ng : Bool} {ox oy : Operand} (hT : okKT P t kt = true) {x y : AV} {a b : Value} {r : Bool} (hx : relV h φ I A x a) (hy : relV h φ I A y b) (H : eqV kt x y = some r) :
    Yields P (do eqGuard (eqOp ng) t ox oy a b; binOp (eqOp ng) t a b) h φ I A (.bool (ng ^^ r)) w := by
  have hrun := eqV_run (P := P) (w := w) 9998 hT hx hy H
  refine ⟨.bool (ng ^^ r), w, ?_, rfl, by simp [relV]⟩
  unfold eqV at H
  split at H
  · rename_i ks xs ys
    simp only [relV] at hx hy
    obtain ⟨vs, rfl, h1⟩ := hx
    obtain ⟨us, rfl, h2⟩ := hy
    simp only [okKT] at hT
    split at hT
    · simp only [Bool.and_eq_true, Bool.not_eq_true'] at hT
      rw [Sem.run_bind, run_eqGuard_agg w _ t ox oy _ _ hT.2.2]
      simp only [Result.andThen_ok]
      cases ng
      · simp only [eqOp, run_eql_struct]; rw [hrun]; simp
      · simp only [eqOp, run_neq_struct]; rw [hrun]; simp
    · cases hT
  · unfold eqS at H
    split at H
    · simp only [relV] at hx hy; subst hx hy
      rw [Sem.run_bind, run_eqGuard_scalar (by simp) (by simp)]
      simp only [Result.andThen_ok]
      cases ng <;> simp [eqOp, binOp, Op.equal, Op.maxDepth, hrun]
    · obtain ⟨h1, h2⟩ := grd_some H; injection h2 with h2; subst h2; simp only [decide_eq_true_eq] at h1; subst h1
      simp only [relV] at hx hy; subst hx hy
      rw [Sem.run_bind, run_eqGuard_scalar (by simp) (by simp)]
      simp only [Result.andThen_ok]
      cases ng <;> simp [eqOp, binOp, Op.intCmp, bne]
    · injection H with H; subst H
      simp only [relV] at hx hy; subst hx hy
      rw [Sem.run_bind, run_eqGuard_scalar (by simp) (by simp)]
      simp only [Result.andThen_ok]
      cases ng <;> simp [eqOp, binOp, Op.stringOp, beq_toListBytes]
    · cases H
  · cases H
end
end
end Go.AM

/- The operations that yield a value and change nothing: their runs. -/
namespace Go.AM
noncomputable section

def szOf (P : Program) (t : TypeId) : Option Nat := (P.info? t).map (·.size)
def zeroOf (P : Program) (t : TypeId) : Option Value := (P.info? t).bind (·.zero)
def aggT (P : Program) (t : TypeId) : Bool := match P.underlying t with
  | some (.struct _) | some (.array _ _) => true
  | _ => false

def vS (s : Sem Value) : Sem Next := do pure (.value (← s))

section
variable {P : Program} {w : World}

theorem run_szOf {t : TypeId} {n : Nat} (H : szOf P t = some n) : (sizeOf t).run P w = .ok n w := by
  unfold szOf at H
  cases hi : P.info? t with
  | none => simp [hi] at H
  | some i => simp [hi] at H; simp [sizeOf, typeInfo, hi, H]

theorem run_zeroOf {t : TypeId} {v : Value} (H : zeroOf P t = some v) : (zeroValue t).run P w = .ok v w := by
  unfold zeroOf at H
  cases hi : P.info? t with
  | none => simp [hi] at H
  | some i => simp [hi] at H; simp [zeroValue, typeInfo, hi, H]

theorem run_isAgg' {t : TypeId} {d : TypeDesc} (H : P.underlying t = some d) : (isAgg t).run P w = .ok (aggT P t) w := by
  unfold isAgg aggT
  rw [Sem.run_bind, run_underlying H, H]
  cases d <;> rfl

variable {h : Array Obj} {φ : Nat → Option (Nat × Nat)} {I A : Nat → Prop}

theorem y_pure {x : AV} {v : Value} (H : relV h φ I A x v) : Yields P (pure v) h φ I A x w := ⟨v, w, rfl, rfl, H⟩

theorem y_not {x : Bool} {v : Value} (H : relV h φ I A (.bool x) v) : Yields P (Op.unary .not v) h φ I A (.bool (!x)) w := by
  have := rel_bool H; subst this
  exact yields_bool rfl
theorem y_neg {k : IntKind} {n : Int} {v : Value} (H : relV h φ I A (.int k n) v) : Yields P (Op.unary .neg v) h φ I A (.int k (k.wrap (0 - n))) w := by
  have := rel_int H; subst this
  exact yields_int rfl
theorem y_conv {k k' : IntKind} {src dst : TypeId} {u : TypeDesc} {n : Int} {v : Value} (hs : P.underlying src = some u) (hd : P.underlying dst = some (.int k)) (H : relV h φ I A (.int k' n) v) :
    Yields P (convert src dst v) h φ I A (.int k (k.wrap n)) w := by
  have := rel_int H; subst this
  refine yields_int ?_
  unfold convert
  rw [Sem.run_bind, run_underlying hs]
  simp only [Result.andThen_ok, Sem.run_bind]
  rw [run_underlying hd]
  simp only [Result.andThen_ok]
  cases u <;> rfl

theorem y_mkfn {f : FuncId} {fs cs : List AV} {vs us : List Value} (H : relL h φ I A fs vs) (H' : relL h φ I A cs us) : Yields P (Instr.makeFunc (.func f) vs.toArray us.toArray) h φ I A (.fn f fs cs) w :=
  ⟨_, w, rfl, rfl, by simp only [relV]; exact ⟨vs, us, rfl, H, H'⟩⟩

theorem relM_run {l : List AV} {c o : Nat} (H : relM w.heap φ I A l c o) (n : Nat) (hn : n ≤ l.length) : ∃ vs : List Value, relL w.heap φ I A (l.take n) vs ∧ (loadCells ⟨c, o, none⟩ n).run P w = .ok vs.toArray w := by
  obtain ⟨vs, h1, h2, _⟩ := relM_vals (relM_take n H)
  have h3 : vs.length = n := by rw [relL_length h1]; simp [Nat.min_eq_left hn]
  refine ⟨vs, h1, ?_⟩
  rw [← h3]
  exact run_loadCells P w c o vs (fun j hj => h2 j (by rw [← relL_length h1]; exact hj))

theorem y_load {t : TypeId} {u : TypeDesc} {ag : Bool} {n : Nat} {l : List AV} {v : AV} {c o : Nat} (hu : P.underlying t = some u) (hag : ag = aggT P t) (hn : ag = true → szOf P t = some n)
    (H : relM w.heap φ I A l c o) (hv : ldCells ag n l = some v) : Yields P (loadVar t ⟨c, o, none⟩) w.heap φ I A v w := by
  unfold ldCells at hv
  cases ag with
  | true =>
    simp only at hv
    obtain ⟨h1, h2⟩ := grd_some hv
    injection h2 with h2; subst h2
    obtain ⟨vs, h3, h4⟩ := relM_run (P := P) H n (by simpa using h1)
    refine ⟨.agg vs.toArray, w, ?_, rfl, by simp only [relV]; exact ⟨vs, rfl, h3⟩⟩
    unfold loadVar
    rw [Sem.run_bind, run_isAgg' hu, ← hag]
    simp only [Result.andThen_ok, if_true, Sem.run_bind]
    rw [run_szOf (hn rfl)]
    simp only [Result.andThen_ok, h4, Sem.run_pure]
  | false =>
    simp only at hv
    split at hv
    · rename_i x cs
      injection hv with hv; subst hv
      simp only [relM] at H
      obtain ⟨⟨v, h1, _, h2⟩, _⟩ := H
      refine ⟨v, w, ?_, rfl, h2⟩
      unfold loadVar
      rw [Sem.run_bind, run_isAgg' hu, ← hag]
      simp only [Result.andThen_ok, Bool.false_eq_true, if_false, run_load, cell_hcell, h1]
    · cases hv

/-- Part of an aggregate. -/
theorem run_partL {t : TypeId} {u : TypeDesc} {ag : Bool} {n off : Nat} {l : List AV} {vs : List Value} {v : AV} (hu : P.underlying t = some u) (hag : ag = aggT P t) (hn : ag = true → szOf P t = some n)
    (H : relL h φ I A l vs) (hv : ldCells ag n (l.drop off) = some v) : Yields P (part t vs.toArray off) h φ I A v w := by
  unfold ldCells at hv
  cases ag with
  | true =>
    simp only at hv
    obtain ⟨h1, h2⟩ := grd_some hv
    injection h2 with h2; subst h2
    refine ⟨.agg (vs.toArray.extract off (off + n)), w, ?_, rfl, ?_⟩
    · unfold part
      rw [Sem.run_bind, run_isAgg' hu, ← hag]
      simp only [Result.andThen_ok, if_true, Sem.run_bind]
      rw [run_szOf (hn rfl)]
      rfl
    · simp only [relV]
      refine ⟨(vs.drop off).take n, ?_, relL_take n (relL_drop off H)⟩
      simp
  | false =>
    simp only at hv
    split at hv
    · rename_i x cs hx
      injection hv with hv; subst hv
      have hg : l[off]? = some x := by rw [← List.head?_drop, hx]; rfl
      obtain ⟨v, h1, h2⟩ := relL_get H hg
      refine ⟨v, w, ?_, rfl, h2⟩
      unfold part
      rw [Sem.run_bind, run_isAgg' hu, ← hag]
      simp [h1]
    · cases hv

def fieldOK (P : Program) (t : TypeId) (i off : Nat) : Bool := match P.underlying t with
  | some (.struct fs) => match fs[i]? with
    | some f => decide (f.offset = off) && (match szOf P f.type with | some n => decide (n ≠ 0) | none => false)
    | none => false
  | _ => false

theorem run_fieldAt {t : TypeId} {i off : Nat} (H : fieldOK P t i off = true) (c o : Nat) : (Instr.fieldAt t (.pointer (some ⟨c, o, none⟩)) i).run P w = .ok (.pointer (some ⟨c, o + off, none⟩)) w := by
  unfold fieldOK at H
  split at H
  · rename_i fs hu
    split at H
    · rename_i f hf
      simp only [Bool.and_eq_true, decide_eq_true_eq] at H
      obtain ⟨h1, h2⟩ := H
      split at h2
      · rename_i n hn
        simp only [decide_eq_true_eq] at h2
        unfold Instr.fieldAt
        rw [Sem.run_bind, run_underlying hu]
        simp only [Result.andThen_ok, hf, Instr.sureAddr, Sem.run_bind, Sem.run_pure]
        simp only [fieldPlace, Sem.run_bind]
        rw [run_szOf hn]
        simp only [Result.andThen_ok, h2, if_false, Sem.run_pure, addr_add, h1]
      · cases h2
    · cases H
  · cases H

theorem y_fadr {t : TypeId} {i off : Nat} (H : fieldOK P t i off = true) {x : AV} {v : Value} (hx : relV h φ I A x v) {e : AV}
    (he : (match x with | .ptr sz b i j => some (AV.ptr sz b i (j + off)) | .cptr cs => some (.cptr (cs.drop off)) | _ => none) = some e) : Yields P (Instr.fieldAt t v i) h φ I A e w := by
  cases x <;> simp only [reduceCtorEq] at he
  case ptr sz b i j =>
    injection he with he; subst he
    simp only [relV] at hx
    obtain ⟨h1, c, o, h2, rfl⟩ := hx
    refine ⟨_, w, run_fieldAt H _ _, rfl, ?_⟩
    simp only [relV]
    exact ⟨h1, c, o, h2, by rw [Nat.add_assoc]⟩
  case cptr cs =>
    injection he with he; subst he
    simp only [relV] at hx
    obtain ⟨c, o, rfl, h2, h3⟩ := hx
    refine ⟨_, w, run_fieldAt H _ _, rfl, ?_⟩
    simp only [relV]
    exact ⟨c, o + off, rfl, h2, relM_drop off h3⟩

theorem y_idxa_sl {t el : TypeId} {sz b i n : Nat} {k : IntKind} {m : Int} {v u : Value} (hu : P.underlying t = some (.slice el)) (hs : szOf P el = some sz)
    (hx : relV h φ I A (.sl sz b i n) v) (hi : relV h φ I A (.int k m) u) (h0 : 0 ≤ m) (h1 : m < n) : Yields P (Instr.indexAt t v u) h φ I A (.ptr sz b (i + m.toNat) 0) w := by
  have := rel_int hi; subst this
  simp only [relV] at hx
  obtain ⟨hA, base, cap, rfl, hc⟩ := hx
  rcases hc with ⟨h2, _⟩ | ⟨c, o, s, h2, rfl, h3, h4, h5⟩
  · subst h2; simp at h1; omega
  · refine ⟨.pointer (some ⟨c, o + (i + m.toNat) * sz + 0, none⟩), w, ?_, rfl, by simp only [relV]; exact ⟨hA, c, o, h2, rfl⟩⟩
    unfold Instr.indexAt
    simp only [asIntOf, Sem.run_bind, Sem.run_pure, Result.andThen_ok]
    rw [run_underlying hu]
    simp only [Result.andThen_ok, Sem.run_pure, Sem.run_bind]
    rw [run_underlying hu]
    simp only [Result.andThen_ok, h0, h1, and_self, if_true, Sem.run_bind]
    rw [run_szOf hs]
    simp only [Result.andThen_ok, Sem.run_pure, addr_add, Nat.add_mul]
    simp only [Nat.add_assoc, Nat.add_zero]

theorem y_idxa_tsl {t el : TypeId} {sz : Nat} {es : List (List AV)} {k : IntKind} {m : Int} {v u : Value} (hu : P.underlying t = some (.slice el)) (hs : szOf P el = some sz)
    (hx : relV h φ I A (.tsl sz es) v) (hi : relV h φ I A (.int k m) u) (h0 : 0 ≤ m) (h1 : m < es.length) : Yields P (Instr.indexAt t v u) h φ I A (.cptr (es.getD m.toNat [])) w := by
  have := rel_int hi; subst this
  simp only [relV] at hx
  obtain ⟨base, cap, rfl, hc, hc'⟩ := hx
  rcases hc' with h2 | ⟨c, o, rfl, h3, h4⟩
  · subst h2; simp at h1; omega
  · refine ⟨.pointer (some ⟨c, o + m.toNat * sz, none⟩), w, ?_, rfl, ?_⟩
    · unfold Instr.indexAt
      simp only [asIntOf, Sem.run_bind, Sem.run_pure, Result.andThen_ok]
      rw [run_underlying hu]
      simp only [Result.andThen_ok, Sem.run_pure, Sem.run_bind]
      rw [run_underlying hu]
      simp only [Result.andThen_ok, h0, h1, and_self, if_true, Sem.run_bind]
      rw [run_szOf hs]
      simp only [Result.andThen_ok, Sem.run_pure, addr_add]
    · simp only [relV]
      exact ⟨c, o + m.toNat * sz, rfl, h3, (relR_get h4 (by omega)).2⟩

theorem y_idxp {t el : TypeId} {esz len : Nat} {k : IntKind} {m : Int} {x : AV} {v u : Value} {e : AV} (hu : P.underlying t = some (.array len el)) (hs : szOf P el = some esz)
    (hx : relV h φ I A x v) (hi : relV h φ I A (.int k m) u) (h0 : 0 ≤ m) (h1 : m < len)
    (he : (match x with | .ptr sz b o j => some (AV.ptr sz b o (j + m.toNat * esz)) | .cptr cs => some (.cptr (cs.drop (m.toNat * esz))) | _ => none) = some e) :
    Yields P (Instr.indexAt t v u) h φ I A e w := by
  have := rel_int hi; subst this
  have key : ∀ c o, (Instr.indexAt t (.pointer (some ⟨c, o, none⟩)) (.int k m)).run P w = .ok (.pointer (some ⟨c, o + m.toNat * esz, none⟩)) w := fun c o => by
    unfold Instr.indexAt
    simp only [asIntOf, Sem.run_bind, Sem.run_pure, Result.andThen_ok]
    rw [run_underlying hu]
    simp only [Result.andThen_ok, Sem.run_pure, Sem.run_bind, Instr.sureAddr]
    rw [run_underlying hu]
    simp only [Result.andThen_ok, h0, h1, and_self, if_true, Sem.run_bind]
    rw [run_szOf hs]
    simp only [Result.andThen_ok, Sem.run_pure, addr_add]
  cases x <;> simp only [reduceCtorEq] at he
  case ptr sz b i j =>
    injection he with he; subst he
    simp only [relV] at hx
    obtain ⟨h1, c, o, h2, rfl⟩ := hx
    refine ⟨_, w, key _ _, rfl, ?_⟩
    simp only [relV]
    exact ⟨h1, c, o, h2, by simp only [Nat.add_assoc]⟩
  case cptr cs =>
    injection he with he; subst he
    simp only [relV] at hx
    obtain ⟨c, o, rfl, h2, h3⟩ := hx
    refine ⟨_, w, key _ _, rfl, ?_⟩
    simp only [relV]
    exact ⟨c, _, rfl, h2, relM_drop _ h3⟩

theorem y_idxs {t : TypeId} {s : ByteArray} {k : IntKind} {m : Int} {v u : Value} (hu : P.underlying t = some .string)
    (hx : relV h φ I A (.str s) v) (hi : relV h φ I A (.int k m) u) (h0 : 0 ≤ m) (h1 : m < s.size) : Yields P (Instr.index t v u) h φ I A (.int .u8 (s.data.toList.getD m.toNat 0).toNat) w := by
  have := rel_int hi; subst this
  have := rel_str hx; subst this
  refine yields_int ?_
  unfold Instr.index
  simp only [asIntOf, Sem.run_bind, Sem.run_pure, Result.andThen_ok]
  rw [run_underlying hu]
  have hlt : m.toNat < s.size := by omega
  simp only [Result.andThen_ok, h0, if_true]
  rw [getElem?_pos s m.toNat hlt]
  simp only [Sem.run_pure]
  congr 2
  have hlt' : m.toNat < s.data.size := hlt
  have h3 : s.data.toList[m.toNat]? = some s[m.toNat] := by rw [Array.getElem?_toList, Array.getElem?_eq_getElem hlt']; rfl
  simp only [List.getD_eq_getElem?_getD, h3, Option.getD_some]

theorem y_idxc {t el : TypeId} {u' : TypeDesc} {ag : Bool} {esz len : Nat} {k : IntKind} {m : Int} {cs : List AV} {v u : Value} {e : AV} (hu : P.underlying t = some (.array len el)) (hs : szOf P el = some esz) (hu' : P.underlying el = some u') (hag : ag = aggT P el)
    (hx : relV h φ I A (.agg cs) v) (hi : relV h φ I A (.int k m) u) (h0 : 0 ≤ m) (h1 : m < len) (he : ldCells ag esz (cs.drop (m.toNat * esz)) = some e) : Yields P (Instr.index t v u) h φ I A e w := by
  have := rel_int hi; subst this
  simp only [relV] at hx
  obtain ⟨vs, rfl, hL⟩ := hx
  obtain ⟨r, w', h2, h3, h4⟩ := run_partL (P := P) (w := w) hu' hag (fun _ => hs) hL he
  refine ⟨r, w', ?_, h3, h4⟩
  unfold Instr.index
  simp only [asIntOf, Sem.run_bind, Sem.run_pure, Result.andThen_ok]
  rw [run_underlying hu]
  simp only [Result.andThen_ok, h0, h1, and_self, if_true, Sem.run_bind]
  rw [run_szOf hs]
  simp only [Result.andThen_ok, h2]

theorem y_field {t : TypeId} {i off n : Nat} {u' : TypeDesc} {ag : Bool} {fs : Array Field} {f : Field} {cs : List AV} {v : Value} {e : AV} (hu : P.underlying t = some (.struct fs)) (hf : fs[i]? = some f) (ho : f.offset = off) (hu' : P.underlying f.type = some u')
    (hag : ag = aggT P f.type) (hn : ag = true → szOf P f.type = some n) (hx : relV h φ I A (.agg cs) v) (he : ldCells ag n (cs.drop off) = some e) : Yields P (Instr.field t v i) h φ I A e w := by
  simp only [relV] at hx
  obtain ⟨vs, rfl, hL⟩ := hx
  obtain ⟨r, w', h2, h3, h4⟩ := run_partL (P := P) (w := w) hu' hag hn hL he
  refine ⟨r, w', ?_, h3, h4⟩
  unfold Instr.field
  simp only [Sem.run_bind]
  rw [run_underlying hu]
  simp only [Result.andThen_ok, hf, asAgg, Sem.run_bind, Sem.run_pure, ho, h2]

theorem y_extract {l : List AV} {i : Nat} {x : AV} {v : Value} (hx : relV h φ I A (.tup l) v) (hi : l[i]? = some x) : Yields P (Instr.extract v i) h φ I A x w := by
  simp only [relV] at hx
  obtain ⟨vs, rfl, hL⟩ := hx
  obtain ⟨r, h1, h2⟩ := relL_get hL hi
  exact ⟨r, w, by simp [Instr.extract, h1], rfl, h2⟩

theorem y_max : ∀ {l : List AV} {vs : List Value} {x : AV} {v : Value} {r : AV}, relV h φ I A x v → relL h φ I A l vs → mxI x l = some r → Yields P (vs.foldlM Builtin.max2 v) h φ I A r w
  | [], vs, x, v, r, hx, hl, H => by
    simp only [relL] at hl; subst hl
    unfold mxI at H
    injection H with H; subst H
    exact ⟨v, w, rfl, rfl, hx⟩
  | y :: l, vs, x, v, r, hx, hl, H => by
    simp only [relL] at hl
    obtain ⟨u, us, rfl, h1, h2⟩ := hl
    unfold mxI at H
    split at H
    · rename_i h3; cases h3
    · rename_i k a k' b r' h3
      injection h3 with h3 h4; subst h3 h4
      obtain ⟨h5, h6⟩ := grd_some H
      simp only [decide_eq_true_eq] at h5; subst h5
      have := rel_int hx; subst this
      have := rel_int h1; subst this
      obtain ⟨q, w', h7, h8, h9⟩ := y_max (x := .int k (if b > a then b else a)) (v := .int k (if b > a then b else a)) (by simp [relV]) h2 h6
      refine ⟨q, w', ?_, h8, h9⟩
      simp only [List.foldlM_cons, Builtin.max2, Sem.run_bind, Sem.run_pure, Result.andThen_ok]
      exact h7
    · cases H

theorem y_min2 {k : IntKind} {a b : Int} : (Builtin.min2 (.int k a) (.int k b)).run P w = .ok (.int k (if b < a then b else a)) w := by
  simp [Builtin.min2]

theorem y_min : ∀ {l : List AV} {vs : List Value} {x : AV} {v : Value} {r : AV}, relV h φ I A x v → relL h φ I A l vs → mnI x l = some r → Yields P (vs.foldlM Builtin.min2 v) h φ I A r w
  | [], vs, x, v, r, hx, hl, H => by
    simp only [relL] at hl; subst hl
    unfold mnI at H
    injection H with H; subst H
    exact ⟨v, w, rfl, rfl, hx⟩
  | y :: l, vs, x, v, r, hx, hl, H => by
    simp only [relL] at hl
    obtain ⟨u, us, rfl, h1, h2⟩ := hl
    unfold mnI at H
    split at H
    · rename_i h3; cases h3
    · rename_i k a k' b r' h3
      injection h3 with h3 h4; subst h3 h4
      obtain ⟨h5, h6⟩ := grd_some H
      simp only [decide_eq_true_eq] at h5; subst h5
      have := rel_int hx; subst this
      have := rel_int h1; subst this
      obtain ⟨q, w', h7, h8, h9⟩ := y_min (x := .int k (if b < a then b else a)) (v := .int k (if b < a then b else a)) (by simp [relV]) h2 h6
      refine ⟨q, w', ?_, h8, h9⟩
      simp only [List.foldlM_cons, Sem.run_bind, y_min2, Result.andThen_ok]
      exact h7
    · cases H
end
end
end Go.AM

/- Slices, strings, maps and composite values: their runs. -/
namespace Go.AM
noncomputable section

section
variable {P : Program} {w : World} {h : Array Obj} {φ : Nat → Option (Nat × Nat)} {I A : Nat → Prop}

/-- A bound, as a value. -/
def bndV (d : Nat) : Option AV → Option Value → Option Int → Prop
  | none, none, some n => n = d
  | some x, some v, some n => ∃ k, x = .int k n ∧ v = .int k n
  | _, _, _ => False

theorem bnd_rel {d : Nat} {x : Option AV} {v : Option Value} {n : Int} (h1 : match x, v with | none, none => True | some x, some v => relV h φ I A x v | _, _ => False) (H : bnd d x = some n) : bndV d x v (some n) := by
  cases x with
  | none =>
    cases v with
    | none => simp only [bnd, Option.some.injEq] at H; simp [bndV, H]
    | some v => exact h1.elim
  | some x =>
    cases v with
    | none => exact h1.elim
    | some v =>
      simp only at h1
      unfold bnd at H
      split at H
      · rename_i h2; cases h2
      · rename_i k m h2
        injection h2 with h2; subst h2
        injection H with H; subst H
        exact ⟨k, rfl, rel_int h1⟩
      · cases H

theorem run_sliceBound {k : IntKind} {n : Int} {y : Nat} {code : BoundsCode} (h0 : 0 ≤ n) (h1 : n ≤ y) : (Instr.sliceBound (.int k n) y code).run P w = .ok n.toNat w := by
  simp [Instr.sliceBound, asIntOf, h0, h1]

def mxCap (vm : Option Value) (cap m : Nat) : Nat := match vm with
  | none => cap
  | some _ => m

theorem run_sliceBounds {isS : Bool} {len cap : Nat} {xl xh xm : Option AV} {vl vh vm : Option Value} {l hh m : Int} {dm : Nat} (hl : bndV 0 xl vl (some l)) (hhh : bndV len xh vh (some hh)) (hm : bndV dm xm vm (some m))
    (h0 : 0 ≤ l) (h1 : l ≤ hh) (h2 : hh ≤ m) (h3 : m ≤ cap) (hmh : vm.isSome = true → vh.isSome = true) :
    (Instr.sliceBounds isS len cap vl vh vm).run P w = .ok (l.toNat, hh.toNat, mxCap vm cap m.toNat) w := by
  unfold mxCap
  unfold Instr.sliceBounds
  cases vm with
  | none =>
    cases xm with
    | some x => simp [bndV] at hm
    | none =>
    simp only [Sem.run_bind, Sem.run_pure, Result.andThen_ok]
    cases vh with
    | none =>
      cases xh with
      | some x => simp [bndV] at hhh
      | none =>
      simp only [bndV] at hhh; subst hhh
      simp only [Sem.run_pure, Result.andThen_ok, Sem.run_bind]
      cases vl with
      | none =>
        cases xl with
        | some x => simp [bndV] at hl
        | none => simp only [bndV] at hl; subst hl; simp
      | some v =>
        cases xl with
        | none => simp [bndV] at hl
        | some x =>
          simp only [bndV] at hl; obtain ⟨k, _, rfl⟩ := hl
          simp only [Sem.run_bind, run_sliceBound h0 h1, Result.andThen_ok, Sem.run_pure]; simp
    | some v =>
      cases xh with
      | none => simp [bndV] at hhh
      | some x =>
      simp only [bndV] at hhh; obtain ⟨k, _, rfl⟩ := hhh
      simp only [run_sliceBound (show 0 ≤ hh by omega) (show hh ≤ (cap : Int) by omega), Result.andThen_ok, Sem.run_bind]
      cases vl with
      | none =>
        cases xl with
        | some x => simp [bndV] at hl
        | none => simp only [bndV] at hl; subst hl; simp
      | some v =>
        cases xl with
        | none => simp [bndV] at hl
        | some x =>
          simp only [bndV] at hl; obtain ⟨k, _, rfl⟩ := hl
          simp only [Sem.run_bind, run_sliceBound h0 (show l ≤ (hh.toNat : Int) by omega), Result.andThen_ok, Sem.run_pure]
  | some vm =>
    cases xm with
    | none => simp [bndV] at hm
    | some xm =>
    simp only [bndV] at hm; obtain ⟨km, _, rfl⟩ := hm
    simp only [Sem.run_bind, run_sliceBound (show 0 ≤ m by omega) h3, Result.andThen_ok]
    cases vh with
    | none => simp at hmh
    | some v =>
      cases xh with
      | none => simp [bndV] at hhh
      | some x =>
      simp only [bndV] at hhh; obtain ⟨k, _, rfl⟩ := hhh
      simp only [run_sliceBound (show 0 ≤ hh by omega) (show hh ≤ (m.toNat : Int) by omega), Result.andThen_ok, Sem.run_bind]
      cases vl with
      | none =>
        cases xl with
        | some x => simp [bndV] at hl
        | none => simp only [bndV] at hl; subst hl; simp
      | some v =>
        cases xl with
        | none => simp [bndV] at hl
        | some x =>
          simp only [bndV] at hl; obtain ⟨k, _, rfl⟩ := hl
          simp only [Sem.run_bind, run_sliceBound h0 (show l ≤ (hh.toNat : Int) by omega), Result.andThen_ok, Sem.run_pure]

theorem y_slice_sl {t el : TypeId} {sz b i n : Nat} {v : Value} {xl xh xm : Option AV} {vl vh vm : Option Value} {l hh m : Int} (hu : P.underlying t = some (.slice el)) (hs : szOf P el = some sz)
    (hx : relV h φ I A (.sl sz b i n) v) (hl : bndV 0 xl vl (some l)) (hhh : bndV n xh vh (some hh)) (hm : bndV n xm vm (some m))
    (h0 : 0 ≤ l) (h1 : l ≤ hh) (h2 : hh ≤ m) (h3 : m ≤ n) (hmh : vm.isSome = true → vh.isSome = true) :
    Yields P (Instr.slice t v vl vh vm) h φ I A (.sl sz b (i + l.toNat) (hh - l).toNat) w := by
  simp only [relV] at hx
  obtain ⟨hA, base, cap, rfl, hc⟩ := hx
  have hnc : n ≤ cap := by rcases hc with ⟨h4, h5⟩ | ⟨_, _, _, _, _, h4, _⟩ <;> omega
  have hb := run_sliceBounds (P := P) (w := w) (isS := true) hl hhh hm h0 h1 h2 (show m ≤ (cap : Int) by omega) hmh
  refine ⟨.slice (if mxCap vm cap m.toNat = l.toNat then base else base.map (·.add (l.toNat * sz))) (hh.toNat - l.toNat) (mxCap vm cap m.toNat - l.toNat), w, ?_, rfl, ?_⟩
  · unfold Instr.slice
    rw [Sem.run_bind, run_underlying hu]
    simp only [Result.andThen_ok, Sem.run_bind, hb]
    rw [run_szOf hs]
    simp only [Result.andThen_ok, Sem.run_pure]
  · simp only [relV]
    rw [show (hh - l).toNat = hh.toNat - l.toNat by omega]
    refine ⟨hA, _, _, rfl, ?_⟩
    generalize hmm : mxCap vm cap m.toNat = mm
    have hmm1 : hh.toNat ≤ mm ∧ mm ≤ cap := by
      cases vm <;> simp only [mxCap] at hmm <;> omega
    by_cases e : mm = l.toNat
    · left; omega
    · rw [if_neg e]
      rcases hc with ⟨h4, h5⟩ | ⟨c, o, s, h4, rfl, h5, h6, h7⟩
      · omega
      · right
        refine ⟨c, o, s, h4, by simp only [Option.map_some, addr_add, Nat.add_mul, Nat.add_assoc], by omega, h6, ?_⟩
        have : (i + l.toNat + (mm - l.toNat)) ≤ i + cap := by omega
        have := Nat.mul_le_mul_right sz this
        omega

theorem y_slice_tsl {t el : TypeId} {sz : Nat} {es : List (List AV)} {v : Value} {xl xh xm : Option AV} {vl vh vm : Option Value} {l hh m : Int} (hu : P.underlying t = some (.slice el)) (hs : szOf P el = some sz)
    (hx : relV h φ I A (.tsl sz es) v) (hl : bndV 0 xl vl (some l)) (hhh : bndV es.length xh vh (some hh)) (hm : bndV es.length xm vm (some m))
    (h0 : 0 ≤ l) (h1 : l ≤ hh) (h2 : hh ≤ m) (h3 : m ≤ es.length) (hmh : vm.isSome = true → vh.isSome = true) :
    Yields P (Instr.slice t v vl vh vm) h φ I A (.tsl sz ((es.drop l.toNat).take (hh - l).toNat)) w := by
  simp only [relV] at hx
  obtain ⟨base, cap, rfl, hnc, hc⟩ := hx
  have hb := run_sliceBounds (P := P) (w := w) (isS := true) hl hhh hm h0 h1 h2 (show m ≤ (cap : Int) by omega) hmh
  refine ⟨.slice (if mxCap vm cap m.toNat = l.toNat then base else base.map (·.add (l.toNat * sz))) (hh.toNat - l.toNat) (mxCap vm cap m.toNat - l.toNat), w, ?_, rfl, ?_⟩
  · unfold Instr.slice
    rw [Sem.run_bind, run_underlying hu]
    simp only [Result.andThen_ok, Sem.run_bind, hb]
    rw [run_szOf hs]
    simp only [Result.andThen_ok, Sem.run_pure]
  · simp only [relV]
    generalize hmm : mxCap vm cap m.toNat = mm
    have hmm1 : hh.toNat ≤ mm ∧ mm ≤ cap := by
      cases vm <;> simp only [mxCap] at hmm <;> omega
    have hlen : ((es.drop l.toNat).take (hh - l).toNat).length = hh.toNat - l.toNat := by simp; omega
    refine ⟨(if mm = l.toNat then base else base.map (·.add (l.toNat * sz))), mm - l.toNat, by rw [hlen], by rw [hlen]; omega, ?_⟩
    by_cases e : hh.toNat = l.toNat
    · left
      apply List.eq_nil_of_length_eq_zero
      rw [hlen]; omega
    · rcases hc with h4 | ⟨c, o, rfl, h5, h6⟩
      · subst h4; simp at h3; omega
      · right
        refine ⟨c, o + l.toNat * sz, by rw [if_neg (by omega)]; simp only [Option.map_some, addr_add], h5, ?_⟩
        exact relR_take _ (relR_drop _ h6 (by omega))

theorem y_slice_nils {t el : TypeId} {sz : Nat} {v : Value} {xl xh xm : Option AV} {vl vh vm : Option Value} (hu : P.underlying t = some (.slice el)) (hs : szOf P el = some sz)
    (hx : relV h φ I A .nils v) (hl : bndV 0 xl vl (some 0)) (hhh : bndV 0 xh vh (some 0)) (hm : bndV 0 xm vm (some 0)) (hmh : vm.isSome = true → vh.isSome = true) :
    Yields P (Instr.slice t v vl vh vm) h φ I A .nils w := by
  simp only [relV] at hx; subst hx
  have hb := run_sliceBounds (P := P) (w := w) (isS := true) (cap := 0) hl hhh hm (by omega) (by omega) (by omega) (by omega) hmh
  refine ⟨.slice none 0 0, w, ?_, rfl, by simp only [relV]⟩
  unfold Instr.slice
  rw [Sem.run_bind, run_underlying hu]
  simp only [Result.andThen_ok, Sem.run_bind, hb]
  rw [run_szOf hs]
  cases vm <;> simp [mxCap]

theorem y_substr {t : TypeId} {s : ByteArray} {v : Value} {xl xh : Option AV} {vl vh : Option Value} {l hh : Int} (hu : P.underlying t = some .string)
    (hx : relV h φ I A (.str s) v) (hl : bndV 0 xl vl (some l)) (hhh : bndV s.size xh vh (some hh)) (h0 : 0 ≤ l) (h1 : l ≤ hh) (h2 : hh ≤ s.size) :
    Yields P (Instr.slice t v vl vh none) h φ I A (.str (s.extract l.toNat hh.toNat)) w := by
  have := rel_str hx; subst this
  have hb := run_sliceBounds (P := P) (w := w) (isS := false) (xm := none) (vm := none) (m := (s.size : Int)) hl hhh (by simp [bndV]; rfl) h0 h1 h2 (Int.le_refl _) (by simp)
  refine yields_str ?_
  unfold Instr.slice
  rw [Sem.run_bind, run_underlying hu]
  simp only [Result.andThen_ok, Option.isSome_none, Bool.false_eq_true, if_false, Sem.run_bind, Sem.run_pure, hb]

theorem y_len_str {t : TypeId} {s : ByteArray} {v : Value} {ty : TypeId} (hu : P.underlying t = some .string) (hx : relV h φ I A (.str s) v) : Yields P (Builtin.len_ #[t] ty #[v]) h φ I A (.int .i64 s.size) w := by
  have := rel_str hx; subst this
  refine yields_int ?_
  simp [Builtin.len_, run_underlying hu, goInt]
theorem y_len_sl {t el : TypeId} {x : AV} {n : Nat} {v : Value} {ty : TypeId} (hu : P.underlying t = some (.slice el)) (hv : ∃ base cap, v = .slice base n cap) : Yields P (Builtin.len_ #[t] ty #[v]) h φ I A (.int .i64 n) w := by
  obtain ⟨base, cap, rfl⟩ := hv
  refine yields_int ?_
  simp [Builtin.len_, run_underlying hu, goInt]
theorem y_lenc {t el : TypeId} {n : Nat} {v : Value} {ty : TypeId} (hu : P.underlying t = some (.array n el)) : Yields P (Builtin.len_ #[t] ty #[v]) h φ I A (.int .i64 n) w := by
  refine yields_int ?_
  simp [Builtin.len_, run_underlying hu, goInt]

/-! ### Composite values -/
def okParts (P : Program) (place : Nat → Option (Nat × Nat)) : List (Nat × Operand) → List (Nat × Nat × LArg) → Bool
  | [], [] => true
  | (i, x) :: l, (off, n, y) :: m => (match place i with | some (o, k) => decide (o = off) && decide (k = n) | none => false) && (okArg x y && okParts P place l m)
  | _, _ => false

theorem setAt_length {cs vs : List AV} {off : Nat} (hle : off + vs.length ≤ cs.length) : (setAt cs off vs).length = cs.length := by
  simp [setAt]; omega

def setAtV (cs : List Value) (off : Nat) (vs : List Value) : List Value := cs.take off ++ (vs ++ cs.drop (off + vs.length))

theorem relL_setAt {cs vs : List AV} {us ws : List Value} {off : Nat} (h1 : relL h φ I A cs us) (h2 : relL h φ I A vs ws) : relL h φ I A (setAt cs off vs) (setAtV us off ws) := by
  unfold setAt setAtV
  rw [relL_length h2]
  exact relL_append (relL_take _ h1) (relL_append h2 (relL_drop _ h1))

theorem foldl_set : ∀ (vs : List Value) (off j : Nat) (cs : Array Value), off + j + vs.length ≤ cs.size →
    (vs.zipIdx j).foldl (fun (cs : Array Value) p => cs.setIfInBounds (off + p.2) p.1) cs = (setAtV cs.toList (off + j) vs).toArray
  | [], off, j, cs, hle => by simp [setAtV]
  | v :: vs, off, j, cs, hle => by
    simp only [List.length_cons] at hle
    simp only [List.zipIdx_cons, List.foldl_cons]
    rw [foldl_set vs off (j + 1) _ (by simp; omega)]
    congr 1
    apply List.ext_getElem?
    intro i
    simp only [setAtV, Array.toList_setIfInBounds]
    have hl : off + j < cs.toList.length := by simp; omega
    have hlt : (List.take (off + (j + 1)) (cs.toList.set (off + j) v)) = List.take (off + j) cs.toList ++ [v] := by
      rw [show off + (j + 1) = (off + j) + 1 by omega, List.take_succ_eq_append_getElem (by simpa using hl)]
      simp [List.take_set_of_le]
    have hdr : List.drop (off + (j + 1) + vs.length) (cs.toList.set (off + j) v) = List.drop (off + j + (v :: vs).length) cs.toList := by
      rw [List.drop_set_of_lt (by omega)]
      congr 1
      simp; omega
    rw [hlt, hdr]
    simp

/-- Parts, and what is told of them. -/
def relP (h : Array Obj) (φ : Nat → Option (Nat × Nat)) (I A : Nat → Prop) (place : Nat → Option (Nat × Nat)) : List (Nat × Value) → List (Nat × Nat × AV) → Prop
  | [], [] => True
  | p :: ps, q :: qs => (place p.1 = some (q.1, q.2.1) ∧ relV h φ I A q.2.2 p.2) ∧ relP h φ I A place ps qs
  | _, _ => False

theorem fill_rel {place : Nat → Option (Nat × Nat)} : ∀ (ps : List (Nat × Value)) (qs : List (Nat × Nat × AV)) (cs r : List AV) (us : List Value),
    relP h φ I A place ps qs → relL h φ I A cs us → fillL cs qs = some r →
    ∃ us', Instr.fill place us.toArray ps = some us'.toArray ∧ relL h φ I A r us' ∧ r.length = cs.length
  | [], [], cs, r, us, _, hc, H => by
    simp only [fillL, Option.some.injEq] at H; subst H
    exact ⟨us, rfl, hc, rfl⟩
  | (i, v) :: ps, (off, n, x) :: qs, cs, r, us, hps, hc, H => by
    simp only [relP] at hps
    obtain ⟨⟨h1, h2⟩, hps⟩ := hps
    simp only [fillL] at H
    obtain ⟨h3, h4⟩ := grd_some H
    simp only [Bool.and_eq_true, decide_eq_true_eq] at h3
    obtain ⟨hk, h5, h6, _⟩ := h3
    have hcells := relV_cells hk h2
    have hvl : v.cells.size = n := by have := relL_length hcells; simp only [Array.length_toList] at this; omega
    have hul := relL_length hc
    obtain ⟨us', h7, h8, h9⟩ := fill_rel ps qs (setAt cs off x.cells) r (setAtV us off v.cells.toList) hps (relL_setAt hc hcells) h4
    refine ⟨us', ?_, h8, by rw [h9, setAt_length (by omega)]⟩
    simp only [Instr.fill, h1]
    rw [if_neg (by simp [hvl]; omega)]
    rw [← h7]
    congr 1
    have := foldl_set v.cells.toList off 0 us.toArray (by simp [hvl]; omega)
    rw [← Array.foldl_toList, Array.toList_zipIdx]
    simpa using this
  | [], _ :: _, _, _, _, hps, _, _ => by simp [relP] at hps
  | _ :: _, [], _, _, _, hps, _, _ => by simp [relP] at hps

theorem fillL_scalar : ∀ (qs : List (Nat × Nat × AV)) (cs r : List AV), cs.all AV.scalar = true → fillL cs qs = some r → r.all AV.scalar = true
  | [], cs, r, hc, H => by simp only [fillL, Option.some.injEq] at H; subst H; exact hc
  | (off, n, x) :: qs, cs, r, hc, H => by
    simp only [fillL] at H
    obtain ⟨h3, h4⟩ := grd_some H
    simp only [Bool.and_eq_true, decide_eq_true_eq] at h3
    refine fillL_scalar qs _ r ?_ h4
    simp only [List.all_eq_true] at hc h3 ⊢
    intro v hv
    rcases List.mem_append.1 hv with h | h
    · exact hc v (List.mem_of_mem_take h)
    · rcases List.mem_append.1 h with h | h
      · exact h3.2.2.2 v h
      · exact hc v (List.mem_of_mem_drop h)
end
end
end Go.AM

/- The operations that make blocks: their runs, and what becomes of the state. -/
namespace Go.AM
noncomputable section

def StepOK (P : Program) (X : Ctx) (S : AS) (nt : Nat) (a : Act) (w : World) (o : Oper) (dst : Option Nat) (id : Nat) (hard : Bool) (e : Eff) : Prop :=
  ∃ φ' I' cv w', ((execOp a.eval o).run P w = .ok (.value cv) w' ∨ ((execOp a.eval o).run P w = .ok .skip w' ∧ cv = undef)) ∧
    RelH X φ' I' (S.app dst id hard e) w'.heap ∧ RelA φ' I' (S.app dst id hard e) nt (a.put dst cv) w'.heap ∧ Keep w w'

section
variable {P : Program} {X : Ctx} {φ : Nat → Option (Nat × Nat)} {I : Nat → Prop} {S : AS} {nt : Nat} {a : Act} {w : World} {o : Oper} {dst : Option Nat} {id : Nat} {hard : Bool}

theorem run_vS {s : Sem Value} {v : Value} {w' : World} (H : s.run P w = .ok v w') : (vS s).run P w = .ok (.value v) w' := by
  unfold vS; rw [Sem.run_bind, H]; rfl

theorem stepOK_val (R : RelH X φ I S w.heap) (RA : RelA φ I S nt a w.heap) (hd : ∀ d, dst = some d → d < nt) {s : Sem Value} {x : AV} (hex : execOp a.eval o = vS s) (Y : Yields P s w.heap φ I S.A x w) :
    StepOK P X S nt a w o dst id hard { val := x } := by
  obtain ⟨v, w', h1, h2, h3⟩ := Y
  subst h2
  exact ⟨φ, I, v, _, .inl (by rw [hex]; exact run_vS h1), R.vars _, RA.app (e := { val := x }) (Ext.refl' fun _ h => h) hd h3, Keep.refl _⟩

/-- A push onto the heap. -/
theorem push_get {h : Array Obj} {ob : Obj} : ∀ c, c < h.size → (h.push ob)[c]? = h[c]? := fun c hc => by
  rw [Array.getElem?_push]; rw [if_neg (by omega)]
theorem push_last {h : Array Obj} {ob : Obj} : (h.push ob)[h.size]? = some ob := by simp

theorem hcell_push {h : Array Obj} {cs : Array Value} {el : TypeId} {fz : Nat × Nat} (j : Nat) : hcell (h.push (.cells cs el fz)) h.size j = cs[j]? := by
  simp [hcell]

theorem relM_push {h : Array Obj} {A' : Nat → Prop} {φ' : Nat → Option (Nat × Nat)} {I' : Nat → Prop} {l : List AV} {vs : List Value} {cs : Array Value} {el : TypeId} {fz : Nat × Nat} (j : Nat) (H : relL (h.push (.cells cs el fz)) φ' I' A' l vs)
    (h1 : ∀ v ∈ vs, Value.oneCell' v = true) (hc : ∀ i, i < vs.length → cs[j + i]? = vs[i]?) : relM (h.push (.cells cs el fz)) φ' I' A' l h.size j :=
  relM_of_vals H h1 fun i hi => by rw [hcell_push]; exact hc i (by rw [relL_length H]; exact hi)

theorem relR_chunks {h : Array Obj} {A : Nat → Prop} {sz : Nat} : ∀ (n : Nat) (cs : List AV) (c o : Nat), cs.length = n * sz → relM h φ I A cs c o → relR h φ I A sz (chunks sz n cs) c o
  | 0, _, _, _, _, _ => by simp [chunks, relR]
  | n + 1, cs, c, o, hl, H => by
    simp only [chunks, relR]
    have hle : sz ≤ cs.length := by rw [hl, Nat.add_mul]; omega
    refine ⟨by simp [Nat.min_eq_left hle], relM_take _ H, relR_chunks n _ c _ (by simp [hl, Nat.add_mul]) (relM_drop _ H)⟩

theorem chunks_length {sz : Nat} : ∀ (n : Nat) (cs : List AV), (chunks sz n cs).length = n
  | 0, _ => rfl
  | n + 1, cs => by simp [chunks, chunks_length n]

/-- A new block, told by rows. -/
theorem stepOK_new (R : RelH X φ I S w.heap) (RA : RelA φ I S nt a w.heap) (hd : ∀ d, dst = some d → d < nt) (hid : ¬ S.A id) {x : AV} {blk : Blk} {ob : Obj} {cv : Value} {w' : World}
    (hrun : (execOp a.eval o).run P w = .ok (.value cv) w') (hw : w'.heap = w.heap.push ob) (hkp : Keep w w')
    (hblk : ∀ A' : Nat → Prop, A' id → Ext w.heap φ I S.A (w.heap.push ob) (upφ φ id (some (w.heap.size, 0))) I A' → relB (w.heap.push ob) (upφ φ id (some (w.heap.size, 0))) I A' id blk)
    (hv : ∀ A' : Nat → Prop, A' id → Ext w.heap φ I S.A (w.heap.push ob) (upφ φ id (some (w.heap.size, 0))) I A' → relV (w.heap.push ob) (upφ φ id (some (w.heap.size, 0))) I A' x cv) :
    StepOK P X S nt a w o dst id hard { val := x, new := some blk } := by
  have hsz : w.heap.size ≤ (w.heap.push ob).size := by simp
  have hA : ∀ b, S.A b → (AS.mk S.vars S.heap S.next (ins id () S.used) S.dead).A b := fun b h1 => (A_used b).2 (.inr h1)
  have hAid : (AS.mk S.vars S.heap S.next (ins id () S.used) S.dead).A id := (A_used id).2 (.inl rfl)
  have E : Ext w.heap φ I S.A (w.heap.push ob) (upφ φ id (some (w.heap.size, 0))) I (AS.mk S.vars S.heap S.next (ins id () S.used) S.dead).A := Ext.grown push_get (upφ_agree hid) hA
  have RN := R.new hid (p := some (w.heap.size, 0)) (blk := blk) (h' := w.heap.push ob) (putV dst x S.vars) hsz push_get (fun c o h1 => by injection h1 with h1; injection h1 with h2 h3; subst h2; simp) (hblk _ hAid E)
  refine ⟨upφ φ id (some (w.heap.size, 0)), I, cv, w', .inl hrun, ?_, ?_, hkp⟩
  · rw [hw]; exact RN
  · rw [hw]
    exact RA.app (e := { val := x, new := some blk }) E hd (hv _ hAid E)

theorem relB_push_rows {A' : Nat → Prop} {cs : Array Value} {el : TypeId} {sz : Nat} {es : List (List AV)}
    (H : relR (w.heap.push (.cells cs el)) (upφ φ id (some (w.heap.size, 0))) I A' sz es w.heap.size 0) : relB (w.heap.push (.cells cs el)) (upφ φ id (some (w.heap.size, 0))) I A' id (.rows sz es) := by
  simp only [relB]
  exact .inr ⟨w.heap.size, 0, cs, el, by simp [upφ], push_last, H⟩

theorem relV_push_ptr {A' : Nat → Prop} {ob : Obj} {sz : Nat} (hA : A' id) : relV (w.heap.push ob) (upφ φ id (some (w.heap.size, 0))) I A' (.ptr sz id 0 0) (.pointer (some ⟨w.heap.size, 0, none⟩)) := by
  simp only [relV]
  exact ⟨hA, w.heap.size, 0, by simp [upφ], by simp⟩

theorem relV_push_sl {A' : Nat → Prop} {cs : Array Value} {el : TypeId} {sz n cap : Nat} (hA : A' id) (h1 : n ≤ cap) (h2 : cap * sz ≤ cs.size) :
    relV (w.heap.push (.cells cs el)) (upφ φ id (some (w.heap.size, 0))) I A' (.sl sz id 0 n) (.slice (some ⟨w.heap.size, 0, none⟩) n cap) := by
  simp only [relV]
  exact ⟨hA, _, _, rfl, .inr ⟨w.heap.size, 0, cs.size, by simp [upφ], by simp, h1, by simp [hsize], by simpa using h2⟩⟩

theorem stepOK_newv (R : RelH X φ I S w.heap) (RA : RelA φ I S nt a w.heap) (hd : ∀ d, dst = some d → d < nt) (hid : ¬ S.A id) {t : TypeId} {zv : Value} {zero : List AV}
    (ho : o.op = .alloc t) (hz : zeroOf P t = some zv) (hok : okCs zv.cells.toList zero = true) (hzsc : zero.all AV.scalar = true) : StepOK P X S nt a w o dst id hard { val := .ptr zero.length id 0 0, new := some (.rows zero.length [zero]) } := by
  refine stepOK_new R RA hd hid (cv := .pointer (some ⟨w.heap.size, 0, none⟩)) (w' := { w with heap := w.heap.push (.cells zv.cells t) }) (ob := .cells zv.cells t) ?_ rfl ⟨rfl, rfl, rfl⟩ (fun A' hA E => ?_) (fun A' hA E => relV_push_ptr hA)
  · simp only [execOp, ho, Instr.alloc, Sem.run_bind]
    rw [run_zeroOf hz]
    simp [newVar, newRow]
  · refine relB_push_rows ?_
    simp only [relR, and_true, true_and]
    exact relM_push 0 (okCs_rel _ _ hok) (relL_scalars hzsc (okCs_rel (h := w.heap) (φ := φ) (I := I) (A := S.A) _ _ hok)) (by simp)

theorem stepOK_box (R : RelH X φ I S w.heap) (RA : RelA φ I S nt a w.heap) (hd : ∀ d, dst = some d → d < nt) (hid : ¬ S.A id) {t : TypeId} {x : Operand} {sz : Nat} {v : AV}
    (ho : o.op = .box t x) (hx : relV w.heap φ I S.A v (a.eval x)) (hl : v.cells.length = sz) (hsc : v.cells.all AV.scalar = true) : StepOK P X S nt a w o dst id hard { val := .ptr sz id 0 0, new := some (.rows sz [v.cells]) } := by
  have hk : v.known = true := by cases v <;> first | rfl | (simp [AV.cells, AV.scalar] at hsc)
  refine stepOK_new R RA hd hid (cv := .pointer (some ⟨w.heap.size, 0, none⟩)) (w' := { w with heap := w.heap.push (.cells (a.eval x).cells t) }) (ob := .cells (a.eval x).cells t) ?_ rfl ⟨rfl, rfl, rfl⟩ (fun A' hA E => ?_) (fun A' hA E => relV_push_ptr hA)
  · simp only [execOp, ho, Instr.box, Sem.run_bind]
    simp [newVar, newRow]
  · refine relB_push_rows ?_
    simp only [relR, and_true, hl, true_and]
    exact relM_push 0 (relL_mono E _ _ (relV_cells hk hx)) (relL_scalars hsc (relV_cells hk hx)) (by simp)

theorem stepOK_mkmap (R : RelH X φ I S w.heap) (RA : RelA φ I S nt a w.heap) (hd : ∀ d, dst = some d → d < nt) (hid : ¬ S.A id) {t : TypeId}
    (ho : o.op = .makeMap t none) : StepOK P X S nt a w o dst id hard { val := .map id, new := some (.mp []) } := by
  refine stepOK_new R RA hd hid (cv := .map (some w.heap.size)) (w' := { w with heap := w.heap.push (.map #[] 0) }) (ob := .map #[] 0) ?_ rfl ⟨rfl, rfl, rfl⟩ (fun A' hA E => ?_) (fun A' hA E => ?_)
  · simp [execOp, ho, Instr.makeMap]
  · simp only [relB]; exact ⟨w.heap.size, #[], 0, by simp [upφ], push_last, by simp [relE]⟩
  · simp only [relV]; exact ⟨hA, w.heap.size, by simp [upφ], rfl⟩

/-- Rows of zeros. -/
theorem zeros_eq (z : Array Value) (k : Nat) (hz : z.size = k) (hk : k ≠ 0) : ∀ n, ((Array.range (n * k)).map fun i => z[i % z.size]!).toList = (List.replicate n z.toList).flatten := by
  intro n
  induction n with
  | zero => simp
  | succ n ih =>
    rw [List.replicate_succ', List.flatten_append, ← ih]
    have : (n + 1) * k = n * k + k := by rw [Nat.add_mul]; omega
    simp only [Array.toList_map, Array.toList_range, this]
    rw [List.range_add, List.map_append]
    congr 1
    simp only [List.flatten_cons, List.flatten_nil, List.append_nil, List.map_map]
    apply List.ext_getElem
    · simp [hz]
    · intro i h1 h2
      simp only [List.length_map, List.length_range] at h1
      simp only [List.getElem_map, List.getElem_range, Function.comp]
      have h3 : (n * k + i) % z.size = i := by rw [hz, Nat.mul_comm, Nat.mul_add_mod, Nat.mod_eq_of_lt h1]
      rw [h3, getElem!_pos z i (by omega)]
      simp

theorem relL_rep {h : Array Obj} {A : Nat → Prop} {zero : List AV} {z : List Value} (H : relL h φ I A zero z) : ∀ n, relL h φ I A (List.replicate n zero).flatten (List.replicate n z).flatten
  | 0 => by simp [relL]
  | n + 1 => by simp only [List.replicate_succ, List.flatten_cons]; exact relL_append H (relL_rep H n)

theorem rep_flat_length {α : Type} (n : Nat) (z : List α) : (List.replicate n z).flatten.length = n * z.length := by
  induction n with
  | zero => simp
  | succ n ih => simp only [List.replicate_succ, List.flatten_cons, List.length_append, ih, Nat.add_mul]; omega

theorem parts_rel (RA : RelA φ I S nt a w.heap) {place : Nat → Option (Nat × Nat)} : ∀ {ps : List (Nat × Operand)} {qs : List (Nat × Nat × LArg)}, okParts P place ps qs = true →
    relP w.heap φ I S.A place (ps.map fun p => (p.1, a.eval p.2)) (qs.map fun q => (q.1, q.2.1, q.2.2.ev S.vars))
  | [], [], _ => by simp [relP]
  | (i, x) :: ps, (off, n, y) :: qs, H => by
    simp only [okParts, Bool.and_eq_true] at H
    obtain ⟨h1, h2, h3⟩ := H
    simp only [List.map_cons, relP]
    refine ⟨⟨?_, ev_rel RA h2⟩, parts_rel RA h3⟩
    split at h1
    · rename_i q k hq
      simp only [Bool.and_eq_true, decide_eq_true_eq] at h1
      rw [hq, h1.1, h1.2]
    · cases h1
  | [], _ :: _, H => by simp [okParts] at H
  | _ :: _, [], H => by simp [okParts] at H

/-- A slice literal. -/
theorem run_bsl {t el : TypeId} {len sz : Nat} {zv : Value} {zero : List AV} {ps : List (Nat × Value)} {qs : List (Nat × Nat × AV)} {r : List AV} {A : Nat → Prop} (hu : P.underlying t = some (.slice el)) (hs : szOf P el = some sz) (hz : zeroOf P el = some zv)
    (hok : okCs zv.cells.toList zero = true) (hzs : zv.cells.size = sz) (hsz : sz ≠ 0) (hle : len * sz ≤ 2 ^ 24) (hps : relP w.heap φ I A (fun i => some (i * sz, sz)) ps qs) (hf : fillL (List.replicate len zero).flatten qs = some r) :
    ∃ us : List Value, (Instr.buildSlice t len ps.toArray).run P w = .ok (.slice (some ⟨w.heap.size, 0, none⟩) len len) { w with heap := w.heap.push (.cells us.toArray el) } ∧ relL w.heap φ I A r us ∧ r.length = len * sz := by
  have hzL : relL w.heap φ I A zero zv.cells.toList := okCs_rel _ _ hok
  have hzl : zero.length = sz := by have := relL_length hzL; simp only [Array.length_toList] at this; omega
  obtain ⟨us, h1, h2, h3⟩ := fill_rel (place := fun i => some (i * sz, sz)) ps qs _ r _ hps (relL_rep hzL len) hf
  refine ⟨us, ?_, h2, by rw [h3, rep_flat_length, hzl]⟩
  unfold Instr.buildSlice
  rw [Sem.run_bind, run_underlying hu]
  simp only [Result.andThen_ok, Sem.run_bind]
  rw [run_szOf hs]
  simp only [Result.andThen_ok]
  rw [if_neg (by omega)]
  have key : ∀ (z : Array Value), ((Array.range (len * sz)).map fun x => z[x % z.size]!) = (List.replicate len zv.cells.toList).flatten.toArray →
      Instr.fill (fun i => some (i * sz, sz)) ((Array.range (len * sz)).map fun x => z[x % z.size]!) ps = some us.toArray := fun z hz' => by rw [hz', h1]
  by_cases h0 : len * sz = 0
  · rw [if_pos h0, Sem.run_bind, Sem.run_pure]
    have e := key #[] (by
      have : len = 0 := by
        rcases Nat.mul_eq_zero.1 h0 with h | h
        · exact h
        · exact absurd h hsz
      subst this; simp)
    simp only [Result.andThen_ok, e]
    simp [newRow]
  · rw [if_neg h0, Sem.run_bind, run_zeroOf hz]
    have e := key zv.cells (by
      apply Array.ext'
      rw [zeros_eq zv.cells sz hzs hsz len])
    simp only [Result.andThen_ok, Sem.run_bind, Sem.run_pure, e]
    simp [newRow]
end
end
end Go.AM

/- Literals as trees, made slices, stores, appends: their runs, and what becomes of the state. -/
namespace Go.AM
noncomputable section

section
variable {P : Program} {X : Ctx} {φ : Nat → Option (Nat × Nat)} {I : Nat → Prop} {S : AS} {nt : Nat} {a : Act} {w : World} {o : Oper} {dst : Option Nat} {id : Nat} {hard : Bool}

/-- A new block of which nobody has charge: it stays as it is. -/
theorem RelH.tree {h : Array Obj} (R : RelH X φ I S h) (ob : Obj) (vs : Vars) : RelH X φ (fun c => I c ∨ c = h.size) { S with vars := vs } (h.push ob) ∧ Ext h φ I S.A (h.push ob) φ (fun c => I c ∨ c = h.size) S.A := by
  have E0 : Ext h φ I S.A (h.push ob) φ I S.A := Ext.grown push_get (fun _ _ => rfl) (fun _ h => h)
  have E : Ext h φ I S.A (h.push ob) φ (fun c => I c ∨ c = h.size) S.A := ⟨E0.cells, E0.sizes, E0.agree, fun c h1 => .inl h1, E0.inA⟩
  refine ⟨⟨fun b blk h1 => ?_, fun b blk c o h1 h2 => ?_, R.inj, fun c hc => ?_, fun c hc => ?_, fun c hc => .inl (R.isup c hc), fun c h1 h2 => ?_, ?_, fun c s h1 => E.sizes c s (R.sizes c s h1), R.agree, R.n0⟩, E⟩
  · obtain ⟨h2, h3⟩ := R.heap _ _ h1
    exact ⟨h2, relB_same E h2 (fun c o h4 => push_get c (R.live _ _ _ _ h1 h4).1) h3⟩
  · obtain ⟨h3, h4, h5⟩ := R.live _ _ _ _ h1 h2
    refine ⟨by simp; omega, fun h6 => ?_, h5⟩
    rcases h6 with h6 | h6
    · exact h4 h6
    · omega
  · rcases hc with hc | hc
    · have := R.idom c hc; simp; omega
    · simp [hc]
  · rcases hc with hc | hc
    · exact R.isub c hc
    · exact .inr (.inr (by have := R.size; omega))
  · rw [push_get c (by have := R.size; omega)]; exact R.frame c h1 h2
  · have := R.size; simp; omega

theorem rep_scalar {zero : List AV} (H : zero.all AV.scalar = true) (n : Nat) : (List.replicate n zero).flatten.all AV.scalar = true := by
  simp only [List.all_eq_true] at H ⊢
  intro v hv
  obtain ⟨e, h1, h2⟩ := List.mem_flatten.1 hv
  rw [(List.mem_replicate.1 h1).2] at h2
  exact H v h2

theorem stepOK_btsl (R : RelH X φ I S w.heap) (RA : RelA φ I S nt a w.heap) (hd : ∀ d, dst = some d → d < nt) {t el : TypeId} {len sz : Nat} {zv : Value} {zero : List AV} {ps : Array (Nat × Operand)} {qs : List (Nat × Nat × AV)} {r : List AV}
    (ho : o.op = .buildSlice t len ps) (hu : P.underlying t = some (.slice el)) (hs : szOf P el = some sz) (hz : zeroOf P el = some zv)
    (hok : okCs zv.cells.toList zero = true) (hzsc : zero.all AV.scalar = true) (hzs : zv.cells.size = sz) (hsz : sz ≠ 0) (hle : len * sz ≤ 2 ^ 24) (hps : relP w.heap φ I S.A (fun i => some (i * sz, sz)) (ps.toList.map fun p => (p.1, a.eval p.2)) qs)
    (hf : fillL (List.replicate len zero).flatten qs = some r) : StepOK P X S nt a w o dst id hard { val := .tsl sz (chunks sz len r) } := by
  obtain ⟨us, h1, h2, h3⟩ := run_bsl (P := P) (len := len) hu hs hz hok hzs hsz hle hps hf
  obtain ⟨R', E⟩ := R.tree (.cells us.toArray el) (putV dst (.tsl sz (chunks sz len r)) S.vars)
  refine ⟨φ, fun c => I c ∨ c = w.heap.size, .slice (some ⟨w.heap.size, 0, none⟩) len len, { w with heap := w.heap.push (.cells us.toArray el) }, .inl ?_, R', ?_, ⟨rfl, rfl, rfl⟩⟩
  · simp only [execOp, ho]
    rw [show (Array.map (fun x : Nat × Operand => match x with | (i, x) => (i, a.eval x)) ps) = (ps.toList.map fun p => (p.1, a.eval p.2)).toArray by apply Array.ext'; simp]
    exact run_vS h1
  · refine RA.app (e := { val := .tsl sz (chunks sz len r) }) E hd ?_
    simp only [relV, chunks_length]
    refine ⟨_, _, rfl, Nat.le_refl _, .inr ⟨w.heap.size, 0, rfl, .inr rfl, relR_chunks len r _ 0 h3 (relM_push 0 (relL_mono E _ _ h2) (relL_scalars (fillL_scalar _ _ _ (rep_scalar hzsc len) hf) h2) (by simp))⟩⟩

theorem stepOK_boxt (R : RelH X φ I S w.heap) (RA : RelA φ I S nt a w.heap) (hd : ∀ d, dst = some d → d < nt) {t : TypeId} {x : Operand} {v : AV}
    (ho : o.op = .box t x) (hx : relV w.heap φ I S.A v (a.eval x)) (hsc : v.cells.all AV.scalar = true) : StepOK P X S nt a w o dst id hard { val := .cptr v.cells } := by
  have hk : v.known = true := by cases v <;> first | rfl | (simp [AV.cells, AV.scalar] at hsc)
  obtain ⟨R', E⟩ := R.tree (.cells (a.eval x).cells t) (putV dst (.cptr v.cells) S.vars)
  refine ⟨φ, fun c => I c ∨ c = w.heap.size, .pointer (some ⟨w.heap.size, 0, none⟩), { w with heap := w.heap.push (.cells (a.eval x).cells t) }, .inl ?_, R', ?_, ⟨rfl, rfl, rfl⟩⟩
  · simp only [execOp, ho, Instr.box, Sem.run_bind]
    simp [newVar, newRow]
  · refine RA.app (e := { val := .cptr v.cells }) E hd ?_
    simp only [relV]
    exact ⟨w.heap.size, 0, rfl, .inr rfl, relM_push 0 (relL_mono E _ _ (relV_cells hk hx)) (relL_scalars hsc (relV_cells hk hx)) (by simp)⟩

theorem stepOK_bsl (R : RelH X φ I S w.heap) (RA : RelA φ I S nt a w.heap) (hd : ∀ d, dst = some d → d < nt) (hid : ¬ S.A id) {t el : TypeId} {len sz : Nat} {zv : Value} {zero : List AV} {ps : Array (Nat × Operand)} {qs : List (Nat × Nat × AV)} {r : List AV}
    (ho : o.op = .buildSlice t len ps) (hu : P.underlying t = some (.slice el)) (hs : szOf P el = some sz) (hz : zeroOf P el = some zv)
    (hok : okCs zv.cells.toList zero = true) (hzsc : zero.all AV.scalar = true) (hzs : zv.cells.size = sz) (hsz : sz ≠ 0) (hle : len * sz ≤ 2 ^ 24) (hps : relP w.heap φ I S.A (fun i => some (i * sz, sz)) (ps.toList.map fun p => (p.1, a.eval p.2)) qs)
    (hf : fillL (List.replicate len zero).flatten qs = some r) : StepOK P X S nt a w o dst id hard { val := .sl sz id 0 len, new := some (.rows sz (chunks sz len r)) } := by
  obtain ⟨us, h1, h2, h3⟩ := run_bsl (P := P) (len := len) hu hs hz hok hzs hsz hle hps hf
  have hul := relL_length h2
  refine stepOK_new R RA hd hid (cv := .slice (some ⟨w.heap.size, 0, none⟩) len len) (ob := .cells us.toArray el) (w' := { w with heap := w.heap.push (.cells us.toArray el) }) ?_ rfl ⟨rfl, rfl, rfl⟩ (fun A' hA E => relB_push_rows ?_) (fun A' hA E => relV_push_sl hA (Nat.le_refl _) (by simp; omega))
  · simp only [execOp, ho]
    rw [show (Array.map (fun x : Nat × Operand => match x with | (i, x) => (i, a.eval x)) ps) = (ps.toList.map fun p => (p.1, a.eval p.2)).toArray by apply Array.ext'; simp]
    exact run_vS h1
  · exact relR_chunks len r _ 0 h3 (relM_push 0 (relL_mono E _ _ h2) (relL_scalars (fillL_scalar _ _ _ (rep_scalar hzsc len) hf) h2) (by simp))

theorem y_build {t : TypeId} {zv : Value} {zero : List AV} {place : Nat → Option (Nat × Nat)} {ps : List (Nat × Value)} {qs : List (Nat × Nat × AV)} {r : List AV} {h : Array Obj} {A : Nat → Prop}
    (hz : zeroOf P t = some zv) (hok : okCs zv.cells.toList zero = true)
    (hplace : (∃ fs, P.underlying t = some (.struct fs) ∧ ∃ pl : Array (Nat × Nat), (fs.mapM fun f => do pure (f.offset, ← sizeOf f.type) : Sem (Array (Nat × Nat))).run P w = .ok pl w ∧ place = fun i => pl[i]?) ∨
      ∃ len el sz, P.underlying t = some (.array len el) ∧ szOf P el = some sz ∧ place = fun i => some (i * sz, sz))
    (hps : relP h φ I A place ps qs) (hf : fillL zero qs = some r) : Yields P (Instr.build t ps.toArray) h φ I A (.agg r) w := by
  obtain ⟨us, h1, h2, h3⟩ := fill_rel ps qs zero r zv.cells.toList hps (okCs_rel _ _ hok) hf
  simp only [Array.toArray_toList] at h1
  refine ⟨.agg us.toArray, w, ?_, rfl, by simp only [relV]; exact ⟨us, rfl, h2⟩⟩
  unfold Instr.build
  rw [Sem.run_bind, run_zeroOf hz]
  simp only [Result.andThen_ok, Sem.run_bind]
  rcases hplace with ⟨fs, hu, pl, h4, rfl⟩ | ⟨len, el, sz, hu, h4, rfl⟩
  · rw [run_underlying hu]
    simp only [Result.andThen_ok, Sem.run_bind, h4, h1, Sem.run_pure]
  · rw [run_underlying hu]
    simp only [Result.andThen_ok, Sem.run_bind]
    rw [run_szOf h4]
    simp only [Result.andThen_ok, h1, Sem.run_pure]

theorem stepOK_own (R : RelH X φ I S w.heap) (RA : RelA φ I S nt a w.heap) (hd : ∀ d, dst = some d → d < nt) (hid : ¬ S.A id) {sz : Nat} (ho : execOp a.eval o = pure (.value (.slice none 0 0))) :
    StepOK P X S nt a w o dst id hard { val := .sl sz id 0 0, new := some (.rows sz []) } := by
  have E : Ext w.heap φ I S.A w.heap (upφ φ id none) I (AS.mk S.vars S.heap S.next (ins id () S.used) S.dead).A := Ext.grown (fun _ _ => rfl) (upφ_agree hid) (fun b h1 => (A_used b).2 (.inr h1))
  have RN := R.new hid (p := none) (blk := .rows sz []) (h' := w.heap) (putV dst (.sl sz id 0 0) S.vars) (Nat.le_refl _) (fun _ _ => rfl) (fun c o h1 => by cases h1) (by simp [relB, upφ])
  refine ⟨upφ φ id none, I, .slice none 0 0, w, .inl (by rw [ho]; rfl), RN, RA.app (e := { val := .sl sz id 0 0, new := some (.rows sz []) }) E hd ?_, Keep.refl _⟩
  simp only [relV]
  exact ⟨(A_used id).2 (.inl rfl), none, 0, rfl, .inl (by simp)⟩

theorem wrap_id {n : Int} (h0 : 0 ≤ n) (h1 : n ≤ 9223372036854775807) : IntKind.i64.wrap n = n := by
  have e : n % (2 ^ 64 : Int) = n := Int.emod_eq_of_lt h0 (by omega)
  simp only [IntKind.wrap, IntKind.bits, IntKind.signed, e]
  rw [if_neg (by simp; omega)]

theorem relR_rep {h : Array Obj} {A : Nat → Prop} {zero : List AV} : ∀ (n : Nat) (c o : Nat), relM h φ I A (List.replicate n zero).flatten c o → relR h φ I A zero.length (List.replicate n zero) c o
  | 0, _, _, _ => by simp [relR]
  | n + 1, c, o, H => by
    simp only [List.replicate_succ, List.flatten_cons, relM_append] at H
    simp only [List.replicate_succ, relR]
    exact ⟨trivial, H.1, relR_rep n c _ H.2⟩

theorem stepOK_mksl (R : RelH X φ I S w.heap) (RA : RelA φ I S nt a w.heap) (hd : ∀ d, dst = some d → d < nt) (hid : ¬ S.A id) {t el : TypeId} {sz bytes : Nat} {zv : Value} {zero : List AV} {ol oc : Operand} {l c : Int} {k k' : IntKind}
    (ho : o.op = .makeSlice t ol oc) (hu : P.underlying t = some (.slice el)) (hs : szOf P el = some sz) (hz : zeroOf P el = some zv) (hb : (P.info? el).map (·.bytes) = some bytes) (hb0 : bytes ≠ 0)
    (hok : okCs zv.cells.toList zero = true) (hzsc : zero.all AV.scalar = true) (hzs : zv.cells.size = sz) (hsz : sz ≠ 0) (hl : a.eval ol = .int k l) (hc : a.eval oc = .int k' c) (h0 : 0 ≤ l) (h1 : l ≤ c) (h2 : c * bytes ≤ 17592186044416) :
    StepOK P X S nt a w o dst id hard { val := .sl sz id 0 l.toNat, new := some (.rows sz (List.replicate l.toNat zero)) } := by
  have hzL : ∀ {h A φ I}, relL h φ I A zero zv.cells.toList := okCs_rel _ _ hok
  have hzl : zero.length = sz := by have := relL_length (hzL (h := w.heap) (A := S.A) (φ := φ) (I := I)); simp only [Array.length_toList] at this; omega
  have hcb : c ≤ c * bytes := by
    have h3 : (1 : Int) ≤ bytes := by omega
    have := Int.mul_le_mul_of_nonneg_left h3 (show 0 ≤ c by omega)
    omega
  have hwl := wrap_id h0 (by omega)
  have hwc := wrap_id (show 0 ≤ c by omega) (by omega)
  have hlb : (bytes : Int) * c ≤ 17592186044416 := by rw [Int.mul_comm]; exact h2
  let cs : Array Value := (Array.range (c.toNat * sz)).map fun i => zv.cells[i % zv.cells.size]!
  have hcs : cs.toList = (List.replicate c.toNat zv.cells.toList).flatten := zeros_eq zv.cells sz hzs hsz c.toNat
  have hcsz : cs.size = c.toNat * sz := by simp [cs]
  refine stepOK_new R RA hd hid (cv := .slice (some ⟨w.heap.size, 0, none⟩) l.toNat c.toNat) (ob := .cells cs el) (w' := { w with heap := w.heap.push (.cells cs el) }) ?_ rfl ⟨rfl, rfl, rfl⟩ (fun A' hA E => relB_push_rows ?_) (fun A' hA E => relV_push_sl hA (by omega) (by omega))
  · cases hi : P.info? el with
    | none => simp [hi] at hb
    | some i =>
      simp [hi] at hb
      simp only [execOp, ho, hl, hc]
      refine run_vS ?_
      unfold Instr.makeSlice
      rw [Sem.run_bind, run_underlying hu]
      simp only [Result.andThen_ok, Sem.run_bind, asInt, asIntOf, Sem.run_pure, typeInfo, run_program, hi, hb, hwl, hwc]
      rw [if_neg (by simp; omega)]
      simp only [Sem.run_bind, run_askRoom, Result.andThen_ok]
      rw [run_szOf hs]
      simp only [Result.andThen_ok]
      by_cases h3 : c.toNat * sz = 0
      · have h4 : c.toNat = 0 := by
          rcases Nat.mul_eq_zero.1 h3 with h | h
          · exact h
          · exact absurd h hsz
        have e0 : ∀ f : Nat → Value, Array.map f (Array.range 0) = #[] := fun f => by apply Array.ext'; simp
        simp [h4, newRow, cs, e0]
      · rw [if_neg h3]
        simp only [Sem.run_bind]
        rw [run_zeroOf hz]
        simp [newRow, cs]
  · have h3 : c.toNat = l.toNat + (c.toNat - l.toNat) := by omega
    have h4 := hcs
    rw [h3, ← List.replicate_append_replicate, List.flatten_append] at h4
    rw [← hzl]
    refine relR_rep _ _ _ (relM_push 0 (relL_rep hzL l.toNat) (relL_scalars (rep_scalar hzsc _) (relL_rep (hzL (h := w.heap) (φ := φ) (I := I) (A := S.A)) l.toNat)) fun i hi => ?_)
    rw [← Array.getElem?_toList, h4, List.getElem?_append_left (by simpa using hi)]
    simp

/-- A store. -/
theorem stepOK_store (R : RelH X φ I S w.heap) (RA : RelA φ I S nt a w.heap) (hd : ∀ d, dst = some d → d < nt) (hdead : ∀ b', get S.dead b' = none) {t : TypeId} {n sz b i j : Nat} {oa ox : Operand} {x : AV} {es : List (List AV)}
    (ho : o.op = .store t oa ox) (hs : szOf P t = some n) (ha : relV w.heap φ I S.A (.ptr sz b i j) (a.eval oa)) (hx : relV w.heap φ I S.A x (a.eval ox)) (hb : get S.heap b = some (.rows sz es)) (hi : i < es.length)
    (hl : x.cells.length = n) (hn : n ≠ 0) (hj : j + n ≤ sz) (hsc : x.cells.all AV.scalar = true) : StepOK P X S nt a w o dst id hard { val := .any, upd := some (b, .rows sz (es.set i (setAt (es.getD i []) j x.cells))) } := by
  have hk : x.known = true := by cases x <;> first | rfl | (simp [AV.cells, AV.scalar] at hsc)
  simp only [relV] at ha
  obtain ⟨hA, c, oo, hφ, he⟩ := ha
  obtain ⟨hA', hB⟩ := R.heap _ _ hb
  simp only [relB] at hB
  rcases hB with ⟨h1, _⟩ | ⟨c', o', cs, el, h1, h2, h3⟩
  · rw [hφ] at h1; cases h1
  rw [hφ] at h1; injection h1 with h1; injection h1 with h4 h5; subst h4 h5
  have hcells := relV_cells hk hx
  have hcl : (a.eval ox).cells.toList.length = n := by rw [relL_length hcells, hl]
  have hrow := relR_get h3 hi
  -- the row's cells are within the block
  have hin : oo + i * sz + j + n ≤ cs.size := by
    have hall := relR_flat h3
    have hlen := hall.2
    have key : ∀ q, q < es.length * sz → oo + q < cs.size := fun q hq => by
      obtain ⟨vs, k1, k2, _⟩ := relM_vals hall.1
      have k3 := k2 q (by omega)
      have k4 : q < vs.length := by rw [relL_length k1]; omega
      rw [List.getElem?_eq_getElem k4] at k3
      simp only [hcell, h2] at k3
      rcases Nat.lt_or_ge (oo + q) cs.size with k5 | k5
      · exact k5
      · simp [Array.getElem?_eq_none k5] at k3
    have k6 : i * sz + sz ≤ es.length * sz := by
      have := Nat.mul_le_mul_right sz (show i + 1 ≤ es.length by omega)
      rw [Nat.add_mul] at this; omega
    have := key (i * sz + j + n - 1) (by omega)
    omega
  obtain ⟨h', hr, W⟩ := run_storeCells P c (oo + i * sz + j) (a.eval ox).cells.toList 0 w cs el h2 (by rw [hcl]; omega) (relL_scalars hsc hcells)
  have hWs := W.hsize h2
  have hes : (es.set i (setAt (es.getD i []) j x.cells)) = es.take i ++ (setAt (es.getD i []) j x.cells) :: es.drop (i + 1) := by
    rw [List.set_eq_take_append_cons_drop, if_pos hi]
  have he0 : es = es.take i ++ (es.getD i []) :: es.drop (i + 1) := by
    conv => lhs; rw [← List.take_append_drop i es]
    rw [List.drop_eq_getElem_cons hi]
    simp [List.getD_eq_getElem?_getD, hi]
  obtain ⟨R', E⟩ := R.wrote (blk' := .rows sz (es.set i (setAt (es.getD i []) j x.cells))) (h' := h') (putV dst .any S.vars) hb hφ hdead W.size W.other (fun c' s h6 => by rw [hWs]; exact h6) (fun E => by
    obtain ⟨cs', k1, k2⟩ := W.here _ _ h2
    simp only [relB]
    refine .inr ⟨c, oo, cs', el, hφ, k1, ?_⟩
    have hcc : ∀ o' v, ¬ (oo + i * sz + j ≤ o' ∧ o' < oo + i * sz + j + n) → hcell w.heap c o' = some v → hcell h' c o' = some v := fun o' v k3 k4 => by
      rw [W.cell, hcl, Nat.add_zero, if_neg k3]; exact k4
    have hle : (es.take i).length = i := by simp; omega
    have hrl := hrow.1
    rw [he0] at h3
    rw [relR_append] at h3
    simp only [relR, hle] at h3
    obtain ⟨k5, k6, k7, k8⟩ := h3
    rw [hes, relR_append]
    simp only [relR, hle]
    refine ⟨relR_congr E (fun o' v k9 k10 => hcc o' v (by rw [hle] at k10; omega)) k5, ?_, ?_, relR_congr E (fun o' v k9 k10 => hcc o' v (by omega)) k8⟩
    · rw [setAt_length (by omega), hrl]
    · unfold setAt
      rw [relM_append, relM_append]
      have k11 : ((es.getD i []).take j).length = j := by simp only [List.length_take]; omega
      rw [k11, hl]
      refine ⟨relM_congr E (fun o' v k9 k10 => hcc o' v (by omega)) (relM_take j k7), ?_, ?_⟩
      · refine relM_of_vals (relL_mono E _ _ hcells) (relL_scalars hsc hcells) fun q hq => ?_
        rw [W.cell, Nat.add_zero, hcl, if_pos (by omega), if_pos (by simp [hcell, h2, show oo + i * sz + j + q < cs.size by omega])]
        congr 1; omega
      · have := relM_drop (j + n) k7
        refine relM_congr E (fun o' v k9 k10 => hcc o' v (by omega)) ?_
        rw [show oo + i * sz + j + n = oo + i * sz + (j + n) by omega]
        exact this)
  refine ⟨φ, I, undef, { w with heap := h' }, .inr ⟨?_, rfl⟩, R', RA.app (e := { val := .any, upd := some (b, .rows sz (es.set i (setAt (es.getD i []) j x.cells))) }) E hd (by simp [relV]), ⟨rfl, rfl, rfl⟩⟩
  simp only [execOp, ho, he, Instr.storeAt, Instr.sureAddr, Sem.run_bind, Sem.run_pure, Result.andThen_ok, storeVar]
  rw [run_szOf hs]
  have hcl' : (a.eval ox).cells.size = n := by simpa using hcl
  simp only [Result.andThen_ok, hcl', ne_eq, not_true_eq_false, if_false]
  simp only [Sem.run_bind, hr, Result.andThen_ok, Sem.run_pure]
end
end
end Go.AM

/- Appends and copies: their runs, and what becomes of the state. -/
namespace Go.AM
noncomputable section

section
variable {P : Program} {X : Ctx} {φ : Nat → Option (Nat × Nat)} {I : Nat → Prop} {S : AS} {nt : Nat} {a : Act} {w : World} {o : Oper} {dst : Option Nat} {id : Nat} {hard : Bool}

theorem flatten_length_all {sz : Nat} : ∀ {ys : List (List AV)}, (∀ e ∈ ys, e.length = sz) → ys.flatten.length = ys.length * sz
  | [], _ => by simp
  | e :: ys, H => by
    simp only [List.flatten_cons, List.length_append, H e (by simp), flatten_length_all (fun e he => H e (List.mem_cons_of_mem _ he)), List.length_cons, Nat.add_mul]; omega

theorem relR_all {h : Array Obj} {A : Nat → Prop} {sz : Nat} : ∀ {es : List (List AV)} {c o : Nat}, relR h φ I A sz es c o → ∀ e ∈ es, e.length = sz
  | [], _, _, _ => by simp
  | e :: es, c, o, H => by
    simp only [relR] at H
    intro e' he
    rcases List.mem_cons.1 he with rfl | he
    · exact H.1
    · exact relR_all H.2.2 e' he

/-- Rows that stand in memory as cells. -/
theorem relR_of_cells {h : Array Obj} {A : Nat → Prop} {sz : Nat} : ∀ {ys : List (List AV)} {c o : Nat}, (∀ e ∈ ys, e.length = sz) → relM h φ I A ys.flatten c o → relR h φ I A sz ys c o
  | [], _, _, _, _ => by simp [relR]
  | e :: ys, c, o, H, K => by
    simp only [List.flatten_cons, relM_append] at K
    have he := H e (by simp)
    rw [he] at K
    simp only [relR]
    exact ⟨he, K.1, relR_of_cells (fun e he => H e (List.mem_cons_of_mem _ he)) K.2⟩

theorem relM_runD {A : Nat → Prop} {l : List AV} {c o : Nat} (H : relM w.heap φ I A l c o) : ∃ vs : List Value, relL w.heap φ I A l vs ∧ (∀ w' : World, w'.heap = w.heap → (loadCells ⟨c, o, none⟩ l.length).run P w' = .ok vs.toArray w') ∧ ∀ v ∈ vs, Value.oneCell' v = true := by
  obtain ⟨vs, h1, h2, h3⟩ := relM_vals H
  refine ⟨vs, h1, fun w' hw => ?_, h3⟩
  rw [← relL_length h1]
  exact run_loadCells P w' c o vs (fun j hj => by rw [hw]; exact h2 j (by rw [← relL_length h1]; exact hj))

/-- A slice's elements, as the machine reads them. -/
theorem elems_run (R : RelH X φ I S w.heap) {sz : Nat} {x : AV} {v : Value} {ys : List (List AV)} (hx : relV w.heap φ I S.A x v) (he : elems S.heap sz x = some ys) :
    (Builtin.lenOf v).run P w = .ok ys.length w ∧ (∀ e ∈ ys, e.length = sz) ∧ ∀ n, n ≤ ys.length → ∃ vs : List Value, (∀ w' : World, w'.heap = w.heap → (Builtin.firstCells sz n v).run P w' = .ok vs.toArray w') ∧ relL w.heap φ I S.A (ys.take n).flatten vs ∧ vs.length = n * sz ∧ ∀ v ∈ vs, Value.oneCell' v = true := by
  unfold elems at he
  split at he
  · injection he with he; subst he
    simp only [relV] at hx; subst hx
    refine ⟨rfl, by simp, fun n hn => ⟨[], fun _ _ => rfl, by simp [relL], ?_, by simp⟩⟩
    simp at hn; subst hn; simp
  · rename_i sz' es
    obtain ⟨h1, h2⟩ := grd_some he
    simp only [decide_eq_true_eq] at h1; subst h1
    injection h2 with h2; subst h2
    simp only [relV] at hx
    obtain ⟨base, cap, rfl, hc, hc'⟩ := hx
    rcases hc' with h3 | ⟨c, oo, rfl, h4, h5⟩
    · subst h3
      refine ⟨rfl, by simp, fun n hn => ⟨[], ?_, by simp [relL], ?_, by simp⟩⟩
      · simp at hn; subst hn
        cases base with
        | none => exact fun _ _ => rfl
        | some b => exact fun _ _ => by simp [Builtin.firstCells, loadCells, loadCellsFrom]
      · simp at hn; subst hn; simp
    · have hall := relR_all h5
      refine ⟨rfl, hall, fun n hn => ?_⟩
      have h6 := relR_flat (relR_take n h5)
      have hl : (es.take n).flatten.length = n * sz' := by rw [h6.2]; simp [Nat.min_eq_left hn]
      obtain ⟨vs, h7, h8, h9⟩ := relM_runD (P := P) h6.1
      rw [hl] at h8
      exact ⟨vs, h8, h7, by rw [relL_length h7, hl], h9⟩
  · rename_i sz' b i n
    obtain ⟨h1, h2⟩ := grd_some he
    simp only [decide_eq_true_eq] at h1; subst h1
    split at h2
    · rename_i sz'' es hb
      obtain ⟨h3, h4⟩ := grd_some h2
      simp only [Bool.and_eq_true, decide_eq_true_eq] at h3
      obtain ⟨h3, h5⟩ := h3
      subst h3
      injection h4 with h4; subst h4
      have hlen : ((es.drop i).take n).length = n := by simp; omega
      simp only [relV] at hx
      obtain ⟨hA, base, cap, rfl, hc⟩ := hx
      obtain ⟨hA', hB⟩ := R.heap _ _ hb
      rcases hc with ⟨h6, h6'⟩ | ⟨c, oo, s, h6, rfl, h7, h8, h9⟩
      · subst h6
        refine ⟨by simp [Builtin.lenOf], by simp, fun n hn => ⟨[], ?_, by simp [relL], ?_, by simp⟩⟩
        · simp at hn; subst hn
          cases base with
          | none => exact fun _ _ => rfl
          | some b => exact fun _ _ => by simp [Builtin.firstCells, loadCells, loadCellsFrom]
        · simp at hn; subst hn; simp
      · simp only [relB] at hB
        rcases hB with ⟨h10, _⟩ | ⟨c', o', cs, el, h10, h11, h12⟩
        · rw [h6] at h10; cases h10
        rw [h6] at h10; injection h10 with h10; injection h10 with h13 h14; subst h13 h14
        have h15 := relR_take n (relR_drop i h12 (by omega))
        refine ⟨by simp only [Builtin.lenOf, hlen]; rfl, relR_all h15, fun m hm => ?_⟩
        have h16 := relR_flat (relR_take m h15)
        have hl : (((es.drop i).take n).take m).flatten.length = m * sz'' := by rw [h16.2]; simp only [List.length_take] at hm ⊢; congr 1; omega
        obtain ⟨vs, h17, h18, h19⟩ := relM_runD (P := P) h16.1
        rw [hl] at h18
        exact ⟨vs, h18, h17, by rw [relL_length h17, hl], h19⟩
    · cases h2
  · rename_i s
    obtain ⟨h1, h2⟩ := grd_some he
    simp only [decide_eq_true_eq] at h1; subst h1
    injection h2 with h2; subst h2
    have := rel_str hx; subst this
    have hsl : (bytesRows s).length = s.size := by simp [bytesRows]
    refine ⟨by simp only [Builtin.lenOf, hsl, Sem.run_pure], by simp [bytesRows], fun n hn => ?_⟩
    refine ⟨((s.extract 0 n).data.map fun b => (.int .u8 b.toNat : Value)).toList, fun _ _ => by simp only [Builtin.firstCells, Array.toArray_toList]; rfl, ?_, ?_, fun v hv => by obtain ⟨b, _, rfl⟩ := Array.mem_map.1 (Array.mem_toList_iff.1 hv); rfl⟩
    · have hsz : ((s.extract 0 n).data).toList = s.data.toList.take n := by
        have : (s.extract 0 n).data = s.data.extract 0 n := by simp
        rw [this]; simp
      simp only [Array.toList_map, hsz, bytesRows]
      rw [← List.map_take]
      generalize s.data.toList.take n = l
      induction l with
      | nil => simp [relL]
      | cons b l ih =>
        simp only [List.map_cons, List.flatten_cons, List.singleton_append, relL]
        exact ⟨_, _, rfl, by simp [relV], ih⟩
    · have : (s.extract 0 n).data = s.data.extract 0 n := by simp
      have h2 : s.data.size = s.size := rfl
      simp [this, h2]; omega
  · cases he

theorem growBy_le (m : Nat) : ∀ (r c : Nat), c ≤ 2 * m + 512 → Builtin.growBy m r c ≤ 2 * m + 512
  | 0, c, h => h
  | r + 1, c, h => by
    unfold Builtin.growBy
    split
    · exact h
    · exact growBy_le m r _ (by omega)

theorem nextcap_le {m c : Nat} (h : c < m) : Builtin.nextslicecap m c ≤ 2 * m + 512 := by
  unfold Builtin.nextslicecap
  split
  · omega
  · split
    · omega
    · exact growBy_le m 4 c (by omega)

/-- The bytes of a slice that may be appended to. -/
theorem room_ok {m c bytes : Nat} (h : c < m) (hm : m * bytes ≤ 17592186044416) (hb : bytes ≤ 1048576) : ¬ Builtin.nextslicecap m c * bytes > 2 ^ 48 := by
  have h1 := Nat.mul_le_mul_right bytes (nextcap_le h)
  rw [Nat.add_mul] at h1
  have h2 : 2 * m * bytes = 2 * (m * bytes) := by rw [Nat.mul_assoc]
  have h3 : 512 * bytes ≤ 512 * 1048576 := Nat.mul_le_mul_left _ hb
  omega

theorem zeroCells_size (z : Array Value) (n : Nat) : (Builtin.zeroCells z n).size = n * z.size := by simp [Builtin.zeroCells]

/-- An append for which there is no room. -/
theorem run_append_new {t1 t2 ty el : TypeId} {sz bytes : Nat} {zv : Value} {u2 : TypeDesc} {base : Option Addr} {sLen sCap : Nat} {x : Value} {old new : List Value} {n : Nat}
    (hu : P.underlying t1 = some (.slice el)) (hu2 : P.underlying t2 = some u2) (hni : ∀ k, u2 ≠ .int k) (hs : szOf P el = some sz) (hz : zeroOf P el = some zv) (hb : (P.info? el).map (·.bytes) = some bytes) (hb0 : bytes ≠ 0) (hb1 : bytes ≤ 1048576)
    (hlen : (Builtin.lenOf x).run P w = .ok n w) (hold : ∀ d, (Builtin.firstCells sz sLen (.slice base sLen sCap)).run P { w with drawn := d } = .ok old.toArray { w with drawn := d })
    (hnew : ∀ d, (Builtin.firstCells sz n x).run P { w with drawn := d } = .ok new.toArray { w with drawn := d }) (hroom : sCap < sLen + n) (hmx : (sLen + n) * bytes ≤ 17592186044416) :
    ∃ cap rest d, sLen + n ≤ cap ∧ rest.length = (cap - (sLen + n)) * zv.cells.size ∧ (Builtin.append_ #[t1, t2] ty #[.slice base sLen sCap, x]).run P w =
      .ok (.slice (some ⟨w.heap.size, 0, none⟩) (sLen + n) cap) { w with heap := w.heap.push (.cells (old ++ new ++ rest).toArray el), drawn := d } := by
  cases hi : P.info? el with
  | none => simp [hi] at hb
  | some i =>
    simp [hi] at hb
    have hmm : sLen + n ≤ (sLen + n) * bytes := Nat.le_mul_of_pos_right _ (by omega)
    let cap := (Question.appendCap (sLen + n) sCap el).cut (w.tape w.drawn (.appendCap (sLen + n) sCap el))
    have hcap : sLen + n ≤ cap := by simp [cap, Question.cut]
    refine ⟨cap, (Builtin.zeroCells zv.cells (cap - (sLen + n))).toList, w.drawn + 1, hcap, by rw [Array.length_toList, zeroCells_size], ?_⟩
    unfold Builtin.append_
    simp only [List.getElem?_toArray, List.getElem?_cons_zero, List.getElem?_cons_succ, Sem.run_bind]
    rw [run_underlying hu]
    simp only [Result.andThen_ok, Sem.run_bind]
    rw [run_szOf hs]
    simp only [Result.andThen_ok, Sem.run_bind]
    rw [run_underlying hu2]
    simp only [Result.andThen_ok, Sem.run_pure]
    have hz0 : (match u2 with | .int _ => true | _ => false) = false := by
      cases u2 <;> first | rfl | (exact absurd rfl (hni _))
    simp only [hz0, Bool.false_eq_true, if_false]
    rw [Sem.run_bind, hlen]
    simp only [Result.andThen_ok]
    rw [if_neg (by omega)]
    have hti : ∀ w', (typeInfo el).run P w' = .ok i w' := fun w' => by simp [typeInfo, hi]
    rw [Sem.run_bind, hti]
    simp only [Result.andThen_ok, hb]
    rw [if_neg (by simp [IntKind.max, IntKind.signed, IntKind.bits]; omega)]
    rw [Sem.run_bind, hti]
    simp only [Result.andThen_ok, hb]
    rw [if_neg (room_ok hroom hmx hb1)]
    rw [Sem.run_bind, run_choose]
    simp only [Question.forced, Bool.false_eq_true, if_false, Result.andThen_ok]
    rw [Sem.run_bind, hti]
    simp only [Result.andThen_ok, Sem.run_bind, run_askRoom, hold, Bool.not_false, if_true, hnew]
    rw [run_zeroOf hz]
    have e : old.toArray ++ new.toArray ++ Builtin.zeroCells zv.cells (cap - (sLen + n)) = (old ++ new ++ (Builtin.zeroCells zv.cells (cap - (sLen + n))).toList).toArray := by apply Array.ext'; simp
    simp only [newRow, Sem.run_bind, run_newObj, Result.andThen_ok, Sem.run_pure]
    rw [← e]

/-- An append for which there is room. -/
theorem run_append_in {t1 t2 ty el : TypeId} {sz : Nat} {u2 : TypeDesc} {base : Option Addr} {sLen sCap : Nat} {x : Value} {new : List Value} {n : Nat} {w' : World}
    (hu : P.underlying t1 = some (.slice el)) (hu2 : P.underlying t2 = some u2) (hni : ∀ k, u2 ≠ .int k) (hs : szOf P el = some sz)
    (hlen : (Builtin.lenOf x).run P w = .ok n w) (hnew : (Builtin.firstCells sz n x).run P w = .ok new.toArray w) (hroom : sLen + n ≤ sCap)
    (hst : ∀ b, base = some b → (storeCells (b.add (sLen * sz)) new).run P w = .ok () w') (hno : base = none → w' = w) :
    (Builtin.append_ #[t1, t2] ty #[.slice base sLen sCap, x]).run P w = .ok (.slice base (sLen + n) sCap) w' := by
  unfold Builtin.append_
  simp only [List.getElem?_toArray, List.getElem?_cons_zero, List.getElem?_cons_succ, Sem.run_bind]
  rw [run_underlying hu]
  simp only [Result.andThen_ok, Sem.run_bind]
  rw [run_szOf hs]
  simp only [Result.andThen_ok]
  rw [run_underlying hu2]
  simp only [Result.andThen_ok, Sem.run_pure]
  have hz0 : (match u2 with | .int _ => true | _ => false) = false := by
    cases u2 <;> first | rfl | (exact absurd rfl (hni _))
  simp only [hz0, Bool.false_eq_true, if_false]
  rw [Sem.run_bind, hlen]
  simp only [Result.andThen_ok]
  rw [if_pos hroom]
  simp only [Bool.not_false, if_true, Sem.run_bind, hnew, Result.andThen_ok]
  cases base with
  | none => simp only [Sem.run_pure]; rw [hno rfl]
  | some b => simp only [Sem.run_bind, List.toList_toArray, hst b rfl, Result.andThen_ok, Sem.run_pure]

theorem exec_append {t1 t2 : TypeId} {ox oy : Operand} (ho : o.op = .call { callee := .builtin .append, args := #[ox, oy], argTypes := #[t1, t2] }) {v : Value} {w' : World}
    (H : (Builtin.append_ #[t1, t2] o.type #[a.eval ox, a.eval oy]).run P w = .ok v w') : (execOp a.eval o).run P w = .ok (.value v) w' := by
  simp [execOp, ho, resolve, invoke, builtin, H]

theorem RelH.kill (R : RelH X φ I S w.heap) (b : Nat) : RelH X φ I { S with heap := khp hard b S.heap, dead := kdd hard b S.dead } w.heap := by
  refine R.sub (vs := S.vars) (fun b' blk h1 => ?_) (fun b' h1 h2 => ?_)
  · cases hard with
    | true =>
      simp only [khp, get_del] at h1
      split at h1
      · cases h1
      · exact h1
    | false => exact h1
  · cases hard with
    | true => exact h1
    | false =>
      simp only [kdd, get_ins] at h1
      split at h1
      · cases h1
      · exact h1

/-- What the seat's tables must say of an append. -/
structure AppT (P : Program) (t1 t2 el : TypeId) (sz bytes : Nat) (zv : Value) (u2 : TypeDesc) : Prop where
  hu : P.underlying t1 = some (.slice el)
  hu2 : P.underlying t2 = some u2
  hni : ∀ k, u2 ≠ .int k
  hs : szOf P el = some sz
  hz : zeroOf P el = some zv
  hzs : zv.cells.size = sz
  hb : (P.info? el).map (·.bytes) = some bytes
  hb0 : bytes ≠ 0
  hb1 : bytes ≤ 1048576

theorem relL_keep {h h' : Array Obj} {φ' : Nat → Option (Nat × Nat)} {A A' : Nat → Prop} (E : Ext h φ I A h' φ' I A') {l : List AV} {vs : List Value} (H : relL h φ I A l vs) : relL h' φ' I A' l vs := relL_mono E l vs H

/-- The new block of an append for which there is no room. -/
theorem stepOK_append_new (R : RelH X φ I S w.heap) (RA : RelA φ I S nt a w.heap) (hd : ∀ d, dst = some d → d < nt) (hid : ¬ S.A id) {t1 t2 el : TypeId} {sz bytes : Nat} {zv : Value} {u2 : TypeDesc} (T : AppT P t1 t2 el sz bytes zv u2) {ox oy : Operand}
    (ho : o.op = .call { callee := .builtin .append, args := #[ox, oy], argTypes := #[t1, t2] }) {y : AV} {xs ys : List (List AV)} {base : Option Addr} {n cap : Nat} {kill : Option Nat}
    (hx : a.eval ox = .slice base n cap) (hxs : xs.length = n) (hxa : ∀ e ∈ xs, e.length = sz) (hold : ∃ old : List Value, (∀ w' : World, w'.heap = w.heap → (Builtin.firstCells sz n (.slice base n cap)).run P w' = .ok old.toArray w') ∧ relL w.heap φ I S.A xs.flatten old ∧ ∀ v ∈ old, Value.oneCell' v = true)
    (hy : relV w.heap φ I S.A y (a.eval oy)) (he : elems S.heap sz y = some ys) (hroom : cap < n + ys.length) (hmx : (n + ys.length) * bytes ≤ 17592186044416) :
    StepOK P X S nt a w o dst id hard { val := .sl sz id 0 (n + ys.length), new := some (.rows sz (xs ++ ys)), kill := kill } := by
  obtain ⟨hl, hya, hf⟩ := elems_run (P := P) R hy he
  obtain ⟨new, hn1, hn2, hn3, hn4⟩ := hf ys.length (Nat.le_refl _)
  rw [List.take_of_length_le (Nat.le_refl _)] at hn2
  obtain ⟨old, ho1, ho2, ho3⟩ := hold
  obtain ⟨nc, rest, dd, hc1, hc2, hrun⟩ := run_append_new (P := P) (w := w) (ty := o.type) (base := base) (sLen := n) (sCap := cap) (old := old) (new := new) (x := a.eval oy) T.hu T.hu2 T.hni T.hs T.hz T.hb T.hb0 T.hb1 hl
    (fun d => ho1 _ rfl) (fun d => hn1 _ rfl) hroom hmx
  let cs : Array Value := (old ++ new ++ rest).toArray
  -- the kill first
  have R1 : ∃ S1 : AS, S1.next = S.next ∧ S1.used = S.used ∧ S1.vars = S.vars ∧ S1.heap = (match kill with | some b => khp hard b S.heap | none => S.heap) ∧ S1.dead = (match kill with | some b => kdd hard b S.dead | none => S.dead) ∧ RelH X φ I S1 w.heap := by
    cases kill with
    | none => exact ⟨S, rfl, rfl, rfl, rfl, rfl, R⟩
    | some b => exact ⟨{ S with heap := khp hard b S.heap, dead := kdd hard b S.dead }, rfl, rfl, rfl, rfl, rfl, R.kill (hard := hard) b⟩
  obtain ⟨S1, e1, e2, e3, e4, e5, R1⟩ := R1
  have hAS : S1.A = S.A := by funext b; simp only [AS.A, e1, e2]
  have hid1 : ¬ S1.A id := by rw [hAS]; exact hid
  have hA : ∀ b, S.A b → (AS.mk S1.vars S1.heap S1.next (ins id () S1.used) S1.dead).A b := fun b h1 => (A_used (S := S1) b).2 (.inr (by rw [hAS]; exact h1))
  have hAid : (AS.mk S1.vars S1.heap S1.next (ins id () S1.used) S1.dead).A id := (A_used (S := S1) id).2 (.inl rfl)
  have E : Ext w.heap φ I S.A (w.heap.push (.cells cs el)) (upφ φ id (some (w.heap.size, 0))) I (AS.mk S1.vars S1.heap S1.next (ins id () S1.used) S1.dead).A := Ext.grown push_get (upφ_agree hid) hA
  have hxy : ∀ e ∈ xs ++ ys, e.length = sz := fun e h1 => (List.mem_append.1 h1).elim (hxa e) (hya e)
  have hol : old.length = n * sz := by rw [relL_length ho2, flatten_length_all hxa, hxs]
  have hrows : relR (w.heap.push (.cells cs el)) (upφ φ id (some (w.heap.size, 0))) I (AS.mk S1.vars S1.heap S1.next (ins id () S1.used) S1.dead).A sz (xs ++ ys) w.heap.size 0 := by
    refine relR_of_cells hxy ?_
    rw [List.flatten_append]
    refine relM_push 0 (relL_append (relL_mono E _ _ ho2) (relL_mono E _ _ hn2)) (fun v hv => (List.mem_append.1 hv).elim (ho3 v) (hn4 v)) fun i hi => ?_
    simp only [cs, Nat.zero_add, List.getElem?_toArray]
    rw [List.getElem?_append_left (by simpa using hi)]
  have RN := R1.new hid1 (p := some (w.heap.size, 0)) (blk := .rows sz (xs ++ ys)) (h' := w.heap.push (.cells cs el)) (putV dst (.sl sz id 0 (n + ys.length)) S.vars) (by simp) push_get (fun c o h1 => by injection h1 with h1; injection h1 with h2 h3; subst h2; simp) (relB_push_rows hrows)
  have happ : S.app dst id hard { val := .sl sz id 0 (n + ys.length), new := some (.rows sz (xs ++ ys)), kill := kill } = { S1 with vars := putV dst (.sl sz id 0 (n + ys.length)) S.vars, heap := ins id (.rows sz (xs ++ ys)) S1.heap, used := ins id () S1.used } := by
    cases kill <;> simp only [AS.app, e1, e2, e4, e5]
  refine ⟨upφ φ id (some (w.heap.size, 0)), I, _, _, .inl (exec_append ho (by rw [hx]; exact hrun)), by rw [happ]; exact RN, ?_, ?_⟩
  rotate_left
  · exact ⟨rfl, rfl, rfl⟩
  refine RA.app (e := { val := .sl sz id 0 (n + ys.length), new := some (.rows sz (xs ++ ys)), kill := kill }) (by rw [happ]; exact E) hd ?_
  rw [happ]
  refine relV_push_sl hAid hc1 ?_
  simp only [List.size_toArray, List.length_append, hol, hn3, hc2, T.hzs]
  rw [← Nat.add_mul, ← Nat.add_mul]
  exact Nat.mul_le_mul_right _ (by omega)

/-- Nothing is appended to nothing. -/
theorem stepOK_append_none (R : RelH X φ I S w.heap) (RA : RelA φ I S nt a w.heap) (hd : ∀ d, dst = some d → d < nt) (hid : ¬ S.A id) {sz : Nat} {base : Option Addr} {kill : Option Nat} {cv : Value} {w' : World}
    (hcv : cv = .slice base 0 0) (hrun : (execOp a.eval o).run P w = .ok (.value cv) w') (hw : w' = w) :
    StepOK P X S nt a w o dst id hard { val := .sl sz id 0 0, new := some (.rows sz []), kill := kill } := by
  subst hw
  have R1 : ∃ S1 : AS, S1.next = S.next ∧ S1.used = S.used ∧ S1.vars = S.vars ∧ S1.heap = (match kill with | some b => khp hard b S.heap | none => S.heap) ∧ S1.dead = (match kill with | some b => kdd hard b S.dead | none => S.dead) ∧ RelH X φ I S1 w'.heap := by
    cases kill with
    | none => exact ⟨S, rfl, rfl, rfl, rfl, rfl, R⟩
    | some b => exact ⟨{ S with heap := khp hard b S.heap, dead := kdd hard b S.dead }, rfl, rfl, rfl, rfl, rfl, R.kill (hard := hard) b⟩
  obtain ⟨S1, e1, e2, e3, e4, e5, R1⟩ := R1
  have hAS : S1.A = S.A := by funext b; simp only [AS.A, e1, e2]
  have hid1 : ¬ S1.A id := by rw [hAS]; exact hid
  have hA : ∀ b, S.A b → (AS.mk S1.vars S1.heap S1.next (ins id () S1.used) S1.dead).A b := fun b h1 => (A_used (S := S1) b).2 (.inr (by rw [hAS]; exact h1))
  have hAid : (AS.mk S1.vars S1.heap S1.next (ins id () S1.used) S1.dead).A id := (A_used (S := S1) id).2 (.inl rfl)
  have E : Ext w'.heap φ I S.A w'.heap (upφ φ id none) I (AS.mk S1.vars S1.heap S1.next (ins id () S1.used) S1.dead).A := Ext.grown (fun _ _ => rfl) (upφ_agree hid) hA
  have RN := R1.new hid1 (p := none) (blk := .rows sz []) (h' := w'.heap) (putV dst (.sl sz id 0 0) S.vars) (Nat.le_refl _) (fun _ _ => rfl) (fun c o h1 => by cases h1) (by simp [relB, upφ])
  have happ : S.app dst id hard { val := .sl sz id 0 0, new := some (.rows sz []), kill := kill } = { S1 with vars := putV dst (.sl sz id 0 0) S.vars, heap := ins id (.rows sz []) S1.heap, used := ins id () S1.used } := by
    cases kill <;> simp only [AS.app, e1, e2, e4, e5]
  refine ⟨upφ φ id none, I, cv, w', .inl hrun, by rw [happ]; exact RN, ?_, Keep.refl _⟩
  refine RA.app (e := { val := .sl sz id 0 0, new := some (.rows sz []), kill := kill }) (by rw [happ]; exact E) hd ?_
  rw [happ]
  simp only [relV]
  exact ⟨hAid, base, 0, hcv, .inl (by simp)⟩

/-- An append in place. -/
theorem stepOK_append_in (R : RelH X φ I S w.heap) (RA : RelA φ I S nt a w.heap) (hd : ∀ d, dst = some d → d < nt) (hid : ¬ S.A id) {t1 t2 el : TypeId} {sz bytes : Nat} {zv : Value} {u2 : TypeDesc} (T : AppT P t1 t2 el sz bytes zv u2) {ox oy : Operand}
    (ho : o.op = .call { callee := .builtin .append, args := #[ox, oy], argTypes := #[t1, t2] }) {y : AV} {es ys : List (List AV)} {b i n c oo cap s : Nat}
    (hx : a.eval ox = .slice (some ⟨c, oo + i * sz, none⟩) n cap) (hφ : φ b = some (c, oo)) (hb : get S.heap b = some (.rows sz es)) (hin : i + n ≤ es.length) (hs1 : hsize w.heap c = some s) (hs2 : oo + (i + cap) * sz ≤ s)
    (hy : relV w.heap φ I S.A y (a.eval oy)) (he : elems S.heap sz y = some ys) (hroom : n + ys.length ≤ cap)
    (hdead : (∀ b', get S.dead b' = none) ∨ (b < S.next ∧ get S.dead b = none)) (hdl : ∀ b', get S.dead b' ≠ none → b' < S.next) (hsoft : hard = false → b < S.next ∧ i + n = es.length) :
    StepOK P X S nt a w o dst id hard { val := .sl sz id 0 (n + ys.length), new := some (.rows sz ((es.drop i).take n ++ ys)), kill := some b } := by
  obtain ⟨hl, hya, hf⟩ := elems_run (P := P) R hy he
  obtain ⟨new, hn1, hn2, hn3, hn4⟩ := hf ys.length (Nat.le_refl _)
  rw [List.take_of_length_le (Nat.le_refl _)] at hn2
  obtain ⟨hA', hB⟩ := R.heap _ _ hb
  simp only [relB] at hB
  rcases hB with ⟨h1, _⟩ | ⟨c', o', cs, el', h1, h2, h3⟩
  · rw [hφ] at h1; cases h1
  rw [hφ] at h1; injection h1 with h1; injection h1 with h4 h5; subst h4 h5
  have hss : s = cs.size := by simp [hsize, h2] at hs1; omega
  have hle : oo + i * sz + n * sz + new.length ≤ cs.size := by
    have := Nat.mul_le_mul_right sz (show i + (n + ys.length) ≤ i + cap by omega)
    rw [Nat.add_mul, Nat.add_mul] at this
    omega
  obtain ⟨h', hr, W⟩ := run_storeCells P c (oo + i * sz + n * sz) new 0 w cs el' h2 (by omega) hn4
  have hWs := W.hsize h2
  have hcc : ∀ o' v, o' < oo + i * sz + n * sz → hcell w.heap c o' = some v → hcell h' c o' = some v := fun o' v k3 k4 => by
    rw [W.cell, if_neg (by omega)]; exact k4
  have hrow := relR_take n (relR_drop i h3 (by omega))
  have hlen : ((es.drop i).take n).length = n := by simp; omega
  obtain ⟨RN, E⟩ := R.onto (hard := hard) (id := id) (o1 := oo + i * sz) (blk' := .rows sz ((es.drop i).take n ++ ys)) (h' := h') (putV dst (.sl sz id 0 (n + ys.length)) S.vars) hid hb hφ hdead hdl W.size W.other (fun c' s' h6 => by rw [hWs]; exact h6)
    (fun cs0 el0 h6 => by obtain ⟨cs', k1, _⟩ := W.here _ _ h6; exact ⟨cs', k1⟩)
    (fun hh => ⟨(hsoft hh).1, fun o' v h6 h7 => hcc o' v (by rw [← (hsoft hh).2, Nat.add_mul] at h6; omega) h7⟩)
    (fun E => by
      obtain ⟨cs', k1, k2⟩ := W.here _ _ h2
      simp only [relB]
      refine .inr ⟨c, oo + i * sz, cs', el', by simp [upφ], k1, ?_⟩
      rw [relR_append, hlen]
      refine ⟨relR_congr E (fun o' v k9 k10 => hcc o' v (by rw [hlen] at k10; omega)) hrow, relR_of_cells hya (relM_of_vals (relL_mono E _ _ hn2) hn4 fun q hq => ?_)⟩
      have hq' : q < new.length := by rw [relL_length hn2]; exact hq
      rw [W.cell, Nat.add_zero, if_pos (by omega), if_pos (by simp [hcell, h2, show oo + i * sz + n * sz + q < cs.size by omega])]
      congr 1; omega)
  refine ⟨upφ φ id (some (c, oo + i * sz)), I, .slice (some ⟨c, oo + i * sz, none⟩) (n + ys.length) cap, { w with heap := h' }, .inl (exec_append ho ?_), RN, ?_, ⟨rfl, rfl, rfl⟩⟩
  · rw [hx]
    exact run_append_in T.hu T.hu2 T.hni T.hs hl (hn1 w rfl) hroom (fun b hb => by injection hb with hb; subst hb; rw [addr_add]; exact hr) (fun h => by cases h)
  · refine RA.app (e := { val := .sl sz id 0 (n + ys.length), new := some (.rows sz ((es.drop i).take n ++ ys)), kill := some b }) E hd ?_
    simp only [relV]
    refine ⟨(A_used id).2 (.inl rfl), _, _, rfl, .inr ⟨c, oo + i * sz, s, by simp [upφ], by simp, by omega, by rw [hWs]; exact hs1, ?_⟩⟩
    rw [Nat.zero_add]
    rw [Nat.add_mul] at hs2; omega
/-- Zeros appended to nothing: 'append(nil, make(n)...)'. -/
theorem run_appz {t1 t2 ty el : TypeId} {sz bytes : Nat} {zv : Value} {kk k : IntKind} {n : Int}
    (hu : P.underlying t1 = some (.slice el)) (hu2 : P.underlying t2 = some (.int kk)) (hs : szOf P el = some sz) (hz : zeroOf P el = some zv) (hb : (P.info? el).map (·.bytes) = some bytes) (hb0 : bytes ≠ 0) (hb1 : bytes ≤ 1048576)
    (hzs : zv.cells.size = sz) (hsz : sz ≠ 0) (h0 : 1 ≤ n) (h2 : n * bytes ≤ 17592186044416) :
    ∃ cap, n.toNat ≤ cap ∧ (Builtin.append_ #[t1, t2] ty #[.slice none 0 0, .int k n]).run P w =
      .ok (.slice (some ⟨w.heap.size, 0, none⟩) n.toNat cap) { w with heap := w.heap.push (.cells (Builtin.zeroCells zv.cells n.toNat ++ Builtin.zeroCells zv.cells (cap - n.toNat)) el), drawn := w.drawn + 1 } := by
  cases hi : P.info? el with
  | none => simp [hi] at hb
  | some i =>
    simp [hi] at hb
    have hcb : n ≤ n * bytes := by
      have h3 : (1 : Int) ≤ bytes := by omega
      have := Int.mul_le_mul_of_nonneg_left h3 (show 0 ≤ n by omega)
      omega
    have hmx : n.toNat * bytes ≤ 17592186044416 := by
      have : ((n.toNat * bytes : Nat) : Int) = n * bytes := by rw [Int.natCast_mul, Int.toNat_of_nonneg (by omega)]
      omega
    have hwl := wrap_id (n := n) (by omega) (by omega)
    let cap := (Question.appendCap n.toNat 0 el).cut (w.tape w.drawn (.appendCap n.toNat 0 el))
    have hcap : n.toNat ≤ cap := by simp [cap, Question.cut]
    refine ⟨cap, hcap, ?_⟩
    have hti : ∀ w', (typeInfo el).run P w' = .ok i w' := fun w' => by simp [typeInfo, hi]
    have hti2 : ∀ w', (typeInfo el).run P w' = .ok i w' := hti
    unfold Builtin.append_
    simp only [List.getElem?_toArray, List.getElem?_cons_zero, List.getElem?_cons_succ, Sem.run_bind]
    rw [run_underlying hu]
    simp only [Result.andThen_ok, Sem.run_bind]
    rw [run_szOf hs]
    simp only [Result.andThen_ok, Sem.run_bind]
    rw [run_underlying hu2]
    simp only [Result.andThen_ok, Sem.run_pure, if_true, Sem.run_bind, asInt, asIntOf, hwl]
    rw [if_neg (by omega)]
    rw [Sem.run_bind, hti]
    simp only [Result.andThen_ok, hb]
    rw [if_neg (by omega)]
    simp only [Sem.run_bind, Sem.run_pure, Result.andThen_ok, Nat.zero_add]
    rw [if_neg (by omega)]
    have e1 : ¬ ((n.toNat : Int) > IntKind.i64.max) := by simp [IntKind.max, IntKind.signed, IntKind.bits]; omega
    simp only [Bool.not_true, Bool.false_eq_true, if_false]
    rw [Sem.run_bind, hti]
    simp only [Result.andThen_ok, hb]
    rw [if_neg (fun h => e1 h.1)]
    rw [Sem.run_bind, hti]
    simp only [Result.andThen_ok, hb]
    rw [if_neg (room_ok (by omega) hmx hb1)]
    rw [Sem.run_bind, run_choose]
    simp only [Question.forced, Bool.false_eq_true, if_false, Result.andThen_ok]
    rw [Sem.run_bind, hti]
    simp only [Result.andThen_ok, Sem.run_bind, run_askRoom, Builtin.firstCells, Sem.run_pure, Bool.not_true, Bool.false_eq_true, if_false]
    have e2 : ¬ n.toNat * sz = 0 := by
      intro h
      rcases Nat.mul_eq_zero.1 h with h | h
      · omega
      · exact hsz h
    rw [if_neg e2]
    simp only [Sem.run_bind]
    rw [run_zeroOf hz]
    simp only [Result.andThen_ok, Sem.run_pure]
    rw [run_zeroOf hz]
    simp [newRow, cap]
    rfl

theorem stepOK_appz (R : RelH X φ I S w.heap) (RA : RelA φ I S nt a w.heap) (hd : ∀ d, dst = some d → d < nt) (hid : ¬ S.A id) {t1 t2 el : TypeId} {sz bytes : Nat} {zv : Value} {zero : List AV} {ox oy : Operand} {n : Int} {kk k : IntKind}
    (ho : o.op = .call { callee := .builtin .append, args := #[ox, oy], argTypes := #[t1, t2] })
    (hu : P.underlying t1 = some (.slice el)) (hu2 : P.underlying t2 = some (.int kk)) (hs : szOf P el = some sz) (hz : zeroOf P el = some zv) (hb : (P.info? el).map (·.bytes) = some bytes) (hb0 : bytes ≠ 0) (hb1 : bytes ≤ 1048576)
    (hok : okCs zv.cells.toList zero = true) (hzsc : zero.all AV.scalar = true) (hzs : zv.cells.size = sz) (hsz : sz ≠ 0) (hx : a.eval ox = .slice none 0 0) (hy : a.eval oy = .int k n) (h0 : 1 ≤ n) (h2 : n * bytes ≤ 17592186044416) :
    StepOK P X S nt a w o dst id hard { val := .sl sz id 0 n.toNat, new := some (.rows sz (List.replicate n.toNat zero)) } := by
  have hzL : ∀ {h A φ I}, relL h φ I A zero zv.cells.toList := okCs_rel _ _ hok
  have hzl : zero.length = sz := by have := relL_length (hzL (h := w.heap) (A := S.A) (φ := φ) (I := I)); simp only [Array.length_toList] at this; omega
  obtain ⟨cap, hcap, hrun⟩ := run_appz (P := P) (w := w) (ty := o.type) (k := k) hu hu2 hs hz hb hb0 hb1 hzs hsz h0 h2
  have hcs : (Builtin.zeroCells zv.cells n.toNat ++ Builtin.zeroCells zv.cells (cap - n.toNat)).toList = (List.replicate n.toNat zv.cells.toList).flatten ++ (Builtin.zeroCells zv.cells (cap - n.toNat)).toList := by
    rw [Array.toList_append]
    congr 1
    unfold Builtin.zeroCells
    rw [hzs]
    have := zeros_eq zv.cells sz hzs hsz n.toNat
    rwa [hzs] at this
  have hcsz : (Builtin.zeroCells zv.cells n.toNat ++ Builtin.zeroCells zv.cells (cap - n.toNat)).size = cap * sz := by
    rw [Array.size_append, zeroCells_size, zeroCells_size, hzs, ← Nat.add_mul]
    congr 1; omega
  refine stepOK_new R RA hd hid (cv := .slice (some ⟨w.heap.size, 0, none⟩) n.toNat cap) (ob := .cells (Builtin.zeroCells zv.cells n.toNat ++ Builtin.zeroCells zv.cells (cap - n.toNat)) el) (w' := { w with heap := w.heap.push (.cells (Builtin.zeroCells zv.cells n.toNat ++ Builtin.zeroCells zv.cells (cap - n.toNat)) el), drawn := w.drawn + 1 }) (exec_append ho (by rw [hx, hy]; exact hrun)) rfl ⟨rfl, rfl, rfl⟩ (fun A' hA E => relB_push_rows ?_) (fun A' hA E => relV_push_sl hA (by omega) (by omega))
  rw [← hzl]
  refine relR_rep _ _ _ (relM_push 0 (relL_rep hzL n.toNat) (relL_scalars (rep_scalar hzsc _) (relL_rep (hzL (h := w.heap) (φ := φ) (I := I) (A := S.A)) n.toNat)) fun i hi => ?_)
  rw [← Array.getElem?_toList, hcs, List.getElem?_append_left (by simpa using hi)]
  simp
end
end
end Go.AM

/- Maps and copies: their runs, and what becomes of the state. -/
namespace Go.AM
noncomputable section

section
variable {P : Program} {X : Ctx} {φ : Nat → Option (Nat × Nat)} {I : Nat → Prop} {S : AS} {nt : Nat} {a : Act} {w : World} {o : Oper} {dst : Option Nat} {id : Nat} {hard : Bool} {h : Array Obj} {A : Nat → Prop}

theorem run_checkKey_one {t : TypeId} {k : EK} {em : Bool} (n : Nat) (hT : ekOf P t = some k) (v : Value) : (Instr.checkKey em (n + 1) t v).run P w = .ok () w := by
  unfold ekOf at hT
  unfold Instr.checkKey
  rw [Sem.run_bind]
  split at hT <;> simp at hT
  all_goals (rename_i hu; rw [run_underlying hu]; simp only [Result.andThen_ok]; rfl)

theorem run_checkFields {em : Bool} (n : Nat) : ∀ (fs : List Field) (ks : List EK) (o : Nat) (xs : List AV) (vs : List Value), flatFs P fs o ks = true → relL h φ I A xs vs → xs.length = o + ks.length →
    (forIn fs PUnit.unit (fun f _ => if f.name ≠ "_" then do
        let v ← part f.type vs.toArray f.offset
        Instr.checkKey em (n + 1) f.type v
        pure (ForInStep.yield PUnit.unit)
      else pure (ForInStep.yield PUnit.unit) : Field → PUnit → Sem (ForInStep PUnit))).run P w = .ok PUnit.unit w
  | [], _, _, _, _, _, _, _ => by simp
  | f :: fs, ks, o, xs, vs, hf, hx, hl => by
    cases ks with
    | nil => simp [flatFs] at hf
    | cons k ks =>
      simp only [flatFs, Bool.and_eq_true, decide_eq_true_eq] at hf
      obtain ⟨h1, h2, h3, h4⟩ := hf
      have hlt : o < xs.length := by simp at hl; omega
      obtain ⟨v, h5, h6⟩ := relL_get hx (List.getElem?_eq_getElem hlt)
      have h7 := run_checkFields (em := em) n fs ks (o + 1) xs vs h4 hx (by simp at hl; omega)
      simp only [List.forIn_cons, Sem.run_bind]
      rw [if_pos (by simpa using h2)]
      simp only [Sem.run_bind, h1]
      rw [run_part_one h3 (by simpa using h5)]
      simp only [Result.andThen_ok]
      rw [run_checkKey_one n h3]
      simp only [Result.andThen_ok, Sem.run_pure]
      exact h7

theorem eqL_length : ∀ {ks : List EK} {x y : List AV} {r : Bool}, eqL ks x y = some r → r = true → x.length = ks.length ∧ y.length = ks.length
  | ks, x, y, r, H, hr => by
    subst hr
    unfold eqL at H
    split at H
    · simp
    · split at H
      · obtain ⟨h1, h2⟩ := eqL_length H rfl
        simp [h1, h2]
      · cases H
      · cases H
    · cases H

theorem run_checkKey {t : TypeId} {kt : KT} {em : Bool} (hT : okKT P t kt = true) {x : AV} {v : Value} (hx : relV h φ I A x v) (hk : keyOK kt x = true) : (Instr.checkKey em 10000 t v).run P w = .ok () w := by
  cases kt with
  | sc k => exact run_checkKey_one 9999 (by simpa [okKT] using hT) v
  | ag ks =>
    cases x <;> simp only [keyOK, Bool.false_eq_true] at hk
    rename_i cs
    simp only [decide_eq_true_eq] at hk
    simp only [relV] at hx
    obtain ⟨vs, rfl, hL⟩ := hx
    simp only [okKT] at hT
    split at hT
    · rename_i fs hu
      simp only [Bool.and_eq_true] at hT
      have := run_checkFields (w := w) (em := em) 9998 fs.toList ks 0 cs vs hT.1 hL (by omega)
      unfold Instr.checkKey
      rw [Sem.run_bind, run_underlying hu]
      simp only [Result.andThen_ok]
      rw [← Array.forIn_toList, Sem.run_bind, this]
      rfl
    · cases hT

/-- What the machine finds of a key. -/
def foundV (r : Option (Nat × AV)) (q : Option (Nat × Value)) (R : AV → Value → Prop) : Prop := match r, q with
  | none, none => True
  | some (i, x), some (j, v) => i = j ∧ R x v
  | _, _ => False

theorem run_findAsking {t : TypeId} {kt : KT} (hT : okKT P t kt = true) {k : AV} {kv : Value} (hk : relV h φ I A k kv) : ∀ (l : List (AV × AV)) (es : List MapEntry) (i : Nat) (r : Option (Nat × AV)), relE h φ I A l es → findKV kt k l i = some r →
    ∃ q, (Instr.findAsking t kv es i).run P w = .ok q w ∧ foundV r q (relV h φ I A)
  | [], es, i, r, hE, H => by
    simp only [relE] at hE; subst hE
    simp only [findKV, Option.some.injEq] at H; subst H
    exact ⟨none, rfl, by simp [foundV]⟩
  | (k', v) :: l, es, i, r, hE, H => by
    simp only [relE] at hE
    obtain ⟨e, es', rfl, h1, h2, h3⟩ := hE
    simp only [findKV] at H
    split at H
    · rename_i hq
      injection H with H; subst H
      refine ⟨some (i, e.val), ?_, by simp [foundV, h2]⟩
      unfold Instr.findAsking
      rw [Sem.run_bind]
      rw [show Op.equal t kv e.key = Op.equalIn (9998 + 2) t kv e.key from rfl, eqV_run 9998 hT hk h1 hq]
      simp
    · rename_i hq
      obtain ⟨q, h4, h5⟩ := run_findAsking hT hk l es' (i + 1) r h3 H
      refine ⟨q, ?_, h5⟩
      unfold Instr.findAsking
      rw [Sem.run_bind]
      rw [show Op.equal t kv e.key = Op.equalIn (9998 + 2) t kv e.key from rfl, eqV_run 9998 hT hk h1 hq]
      simpa using h4
    · cases H

theorem run_findNow {t : TypeId} {k0 : EK} {d : TypeDesc} (hu : P.underlying t = some d) (hT : ekOf P t = some k0) {k : AV} {kv : Value} (hk : relV h φ I A k kv) : ∀ (l : List (AV × AV)) (es : List MapEntry) (i : Nat) (r : Option (Nat × AV)), relE h φ I A l es → findKV (.sc k0) k l i = some r →
    ∃ q, Instr.findNow d kv es i = some q ∧ foundV r q (relV h φ I A)
  | [], es, i, r, hE, H => by
    simp only [relE] at hE; subst hE
    simp only [findKV, Option.some.injEq] at H; subst H
    exact ⟨none, rfl, by simp [foundV]⟩
  | (k', v) :: l, es, i, r, hE, H => by
    simp only [relE] at hE
    obtain ⟨e, es', rfl, h1, h2, h3⟩ := hE
    have key : ∀ b, eqV (.sc k0) k k' = some b → Instr.sameNow d kv e.key = some b := by
      intro b hb
      simp only [eqV] at hb
      unfold ekOf at hT
      rw [hu] at hT
      unfold eqS at hb
      split at hb
      · simp only [relV] at hk h1; subst hk; rw [h1]
        injection hb with hb; subst hb
        cases d <;> simp at hT
        rfl
      · obtain ⟨h4, h5⟩ := grd_some hb
        simp only [decide_eq_true_eq] at h4; subst h4
        injection h5 with h5; subst h5
        simp only [relV] at hk h1; subst hk; rw [h1]
        cases d <;> simp at hT
        simp [Instr.sameNow]
      · simp only [relV] at hk h1; subst hk; rw [h1]
        injection hb with hb; subst hb
        cases d <;> simp at hT
        rfl
      · cases hb
    simp only [findKV] at H
    split at H
    · rename_i hq
      injection H with H; subst H
      exact ⟨some (i, e.val), by simp [Instr.findNow, key _ hq], by simp [foundV, h2]⟩
    · rename_i hq
      obtain ⟨q, h4, h5⟩ := run_findNow hu hT hk l es' (i + 1) r h3 H
      exact ⟨q, by simp [Instr.findNow, key _ hq, h4], h5⟩
    · cases H

theorem run_findKey {t : TypeId} {kt : KT} (hT : okKT P t kt = true) {k : AV} {kv : Value} (hk : relV h φ I A k kv) {l : List (AV × AV)} {es : List MapEntry} {r : Option (Nat × AV)} (hE : relE h φ I A l es) (H : findKV kt k l 0 = some r) :
    ∃ q, (Instr.findKey t kv es).run P w = .ok q w ∧ foundV r q (relV h φ I A) := by
  cases kt with
  | sc k0 =>
    simp only [okKT, decide_eq_true_eq] at hT
    have hu : ∃ d, P.underlying t = some d := by
      unfold ekOf at hT
      cases hd : P.underlying t with
      | none => rw [hd] at hT; cases hT
      | some d => exact ⟨d, rfl⟩
    obtain ⟨d, hu⟩ := hu
    obtain ⟨q, h1, h2⟩ := run_findNow hu hT hk l es 0 r hE H
    refine ⟨q, ?_, h2⟩
    unfold Instr.findKey
    rw [Sem.run_bind, run_underlying hu]
    simp only [Result.andThen_ok, h1, Sem.run_pure]
  | ag ks =>
    obtain ⟨q, h1, h2⟩ := run_findAsking (w := w) hT hk l es 0 r hE H
    refine ⟨q, ?_, h2⟩
    simp only [okKT] at hT
    split at hT
    · rename_i fs hu
      unfold Instr.findKey
      rw [Sem.run_bind, run_underlying hu]
      simp only [Result.andThen_ok]
      cases es with
      | nil =>
        cases l with
        | nil => simpa [Instr.findNow, Instr.findAsking] using h1
        | cons p l => obtain ⟨_, _⟩ := p; simp [relE] at hE
      | cons e es =>
        simp only [Instr.findNow, Instr.sameNow]
        exact h1
    · cases hT

theorem y_lookup_map (R : RelH X φ I S w.heap) {t key el : TypeId} {kt : KT} {ok : Bool} {zero : AV} {zv : Value} {k : AV} {v kv : Value} {b : Nat} {l : List (AV × AV)} {r : Option (Nat × AV)} {res : AV} (hu : P.underlying t = some (.map key el)) (hT : okKT P key kt = true)
    (hz : zeroOf P el = some zv) (hok : okC zv zero = true) (hx : relV w.heap φ I S.A (.map b) v) (hk : relV w.heap φ I S.A k kv) (hko : keyOK kt k = true) (hb : get S.heap b = some (.mp l)) (hf : findKV kt k l 0 = some r)
    (hres : res = lkV ok zero r) :
    Yields P (Instr.lookup t v kv ok) w.heap φ I S.A res w := by
  simp only [relV] at hx
  obtain ⟨hA, c, hφ, rfl⟩ := hx
  obtain ⟨_, hB⟩ := R.heap _ _ hb
  simp only [relB] at hB
  obtain ⟨c', es, clk, h1, h2, h3⟩ := hB
  rw [hφ] at h1; injection h1 with h1; injection h1 with h4; subst h4
  obtain ⟨q, h5, h6⟩ := run_findKey (P := P) (w := w) hT hk h3 hf
  have hgo : (getObj c).run P w = .ok (.map es clk) w := by simp [getObj, Sem.run, h2]
  have hrun : (Instr.lookup t (.map (some c)) kv ok).run P w = .ok (match q with | some (_, y) => (if ok then .tuple #[y, .bool true] else y) | none => (if ok then .tuple #[zv, .bool false] else zv)) w := by
    unfold Instr.lookup
    rw [Sem.run_bind, run_underlying hu]
    simp only [Result.andThen_ok, Sem.run_bind, hgo, Sem.run_pure]
    rw [run_checkKey hT hk hko]
    simp only [Result.andThen_ok, h5]
    cases q with
    | none => simp only [Sem.run_bind]; rw [run_zeroOf hz]; simp
    | some p => obtain ⟨i, y⟩ := p; simp
  refine ⟨_, w, hrun, rfl, ?_⟩
  subst hres
  unfold lkV
  unfold foundV at h6
  split at h6
  · cases ok
    · exact okC_rel _ _ hok
    · simp only [relV, relL, if_true]; exact ⟨[zv, .bool false], rfl, zv, [.bool false], rfl, okC_rel _ _ hok, .bool false, [], rfl, rfl, rfl⟩
  · obtain ⟨_, h7⟩ := h6
    cases ok
    · exact h7
    · simp only [relV, relL, if_true]; exact ⟨_, rfl, _, _, rfl, h7, .bool true, [], rfl, rfl, rfl⟩
  · exact h6.elim

theorem y_lookup_nil {t key el : TypeId} {kt : KT} {ok : Bool} {zero : AV} {zv : Value} {k : AV} {v kv : Value} {res : AV} (hu : P.underlying t = some (.map key el)) (hT : okKT P key kt = true)
    (hz : zeroOf P el = some zv) (hok : okC zv zero = true) (hx : relV h φ I A .nilm v) (hk : relV h φ I A k kv) (hko : keyOK kt k = true)
    (hres : res = lkV ok zero none) : Yields P (Instr.lookup t v kv ok) h φ I A res w := by
  simp only [relV] at hx; subst hx
  obtain ⟨q, h5, h6⟩ := run_findKey (P := P) (w := w) (l := []) (es := []) (r := none) hT hk (by simp [relE]) rfl
  have hq : q = none := by cases q with | none => rfl | some p => simp [foundV] at h6
  subst hq
  have hrun : (Instr.lookup t (.map none) kv ok).run P w = .ok (if ok then .tuple #[zv, .bool false] else zv) w := by
    unfold Instr.lookup
    rw [Sem.run_bind, run_underlying hu]
    simp only [Result.andThen_ok, Sem.run_bind, Sem.run_pure]
    rw [run_checkKey hT hk hko]
    simp only [Result.andThen_ok]
    rw [h5]
    simp only [Result.andThen_ok, Sem.run_bind]
    rw [run_zeroOf hz]; simp
  refine ⟨_, w, hrun, rfl, ?_⟩
  subst hres
  unfold lkV
  cases ok
  · exact okC_rel _ _ hok
  · simp only [relV, relL, if_true]; exact ⟨[zv, .bool false], rfl, zv, [.bool false], rfl, okC_rel _ _ hok, .bool false, [], rfl, rfl, rfl⟩
end
end
end Go.AM

/- Writing into maps, and copies. -/
namespace Go.AM
noncomputable section

section
variable {P : Program} {X : Ctx} {φ : Nat → Option (Nat × Nat)} {I : Nat → Prop} {S : AS} {nt : Nat} {a : Act} {w : World} {o : Oper} {dst : Option Nat} {id : Nat} {hard : Bool} {h : Array Obj} {A : Nat → Prop}

theorem sameBits_eqS {k : EK} {x y : AV} {a b : Value} (n : Nat) (H : eqS k x y = some true) (hx : relV h φ I A x a) (hy : relV h φ I A y b) : Instr.sameBits n a b = true := by
  unfold eqS at H
  split at H
  · simp only [relV] at hx hy; subst hx hy
    injection H with H
    cases n <;> simpa [Instr.sameBits] using H
  · obtain ⟨h1, h2⟩ := grd_some H
    simp only [decide_eq_true_eq] at h1; subst h1
    injection h2 with h2
    simp only [relV] at hx hy; subst hx hy
    cases n <;> simpa [Instr.sameBits] using h2
  · simp only [relV] at hx hy; subst hx hy
    injection H with H
    cases n <;> simpa [Instr.sameBits] using H
  · cases H

theorem sameBits_eqL : ∀ {ks : List EK} {x y : List AV} {a b : List Value} (n : Nat), eqL ks x y = some true → relL h φ I A x a → relL h φ I A y b → a.length = b.length ∧ (a.zip b).all (fun p => Instr.sameBits n p.1 p.2) = true
  | [], [], [], a, b, n, H, hx, hy => by simp only [relL] at hx hy; subst hx hy; simp
  | [], _ :: _, _, a, b, n, H, hx, hy => by simp [eqL] at H
  | [], [], _ :: _, a, b, n, H, hx, hy => by simp [eqL] at H
  | k :: ks, [], [], a, b, n, H, hx, hy => by simp [eqL] at H
  | k :: ks, [], _ :: _, a, b, n, H, hx, hy => by simp [eqL] at H
  | k :: ks, _ :: _, [], a, b, n, H, hx, hy => by simp [eqL] at H
  | k :: ks, u :: x, v :: y, a, b, n, H, hx, hy => by
    simp only [eqL] at H
    simp only [relL] at hx hy
    obtain ⟨a0, a', rfl, h2, h3⟩ := hx
    obtain ⟨b0, b', rfl, h4, h5⟩ := hy
    split at H
    · rename_i hq
      obtain ⟨h6, h7⟩ := sameBits_eqL n H h3 h5
      refine ⟨by simp [h6], ?_⟩
      simp only [List.zip_cons_cons, List.all_cons, Bool.and_eq_true]
      exact ⟨sameBits_eqS n hq h2 h4, h7⟩
    · cases H
    · cases H

theorem sameBits_eqV {kt : KT} {x y : AV} {a b : Value} (H : eqV kt x y = some true) (hx : relV h φ I A x a) (hy : relV h φ I A y b) : Instr.sameBits 10000 a b = true := by
  unfold eqV at H
  split at H
  · simp only [relV] at hx hy
    obtain ⟨vs, rfl, h1⟩ := hx
    obtain ⟨us, rfl, h2⟩ := hy
    obtain ⟨h3, h4⟩ := sameBits_eqL 9999 H h1 h2
    simp only [Instr.sameBits, Bool.and_eq_true]
    exact ⟨by simp [h3], by simpa using h4⟩
  · exact sameBits_eqS _ H hx hy
  · cases H

theorem eqS_symm {k : EK} {x y : AV} {r : Bool} (H : eqS k x y = some r) : eqS k y x = some r := by
  unfold eqS at H
  split at H
  · injection H with H; subst H; simp only [eqS]; rw [Bool.beq_comm]
  · obtain ⟨h1, h2⟩ := grd_some H
    simp only [decide_eq_true_eq] at h1; subst h1
    injection h2 with h2; subst h2
    simp only [eqS, decide_true, grd]; rw [BEq.comm]
  · injection H with H; subst H; simp only [eqS]
    rename_i a b
    congr 1
    rw [Bool.eq_iff_iff, beq_toListBytes, beq_toListBytes]; simp; exact ⟨Eq.symm, Eq.symm⟩
  · cases H

theorem eqL_symm : ∀ {ks : List EK} {x y : List AV} {r : Bool}, eqL ks x y = some r → eqL ks y x = some r
  | [], x, y, r, H => by
    cases x <;> cases y <;> simp only [eqL] at H ⊢ <;> first | exact H | (cases H)
  | k :: ks, [], [], r, H => by simp [eqL] at H
  | k :: ks, [], _ :: _, r, H => by simp [eqL] at H
  | k :: ks, _ :: _, [], r, H => by simp [eqL] at H
  | k :: ks, u :: x, v :: y, r, H => by
    simp only [eqL] at H ⊢
    cases hq : eqS k u v with
    | none => rw [hq] at H; cases H
    | some b =>
      rw [hq] at H
      rw [eqS_symm hq]
      cases b
      · exact H
      · exact eqL_symm H

theorem eqV_symm {kt : KT} {x y : AV} {r : Bool} (H : eqV kt x y = some r) : eqV kt y x = some r := by
  unfold eqV at H
  split at H
  · exact eqL_symm H
  · exact eqS_symm H
  · cases H

/-- The entry that a key is found at. -/
theorem findKV_at {kt : KT} {k : AV} : ∀ {l : List (AV × AV)} {es : List MapEntry} {i j : Nat} {y : AV}, relE h φ I A l es → findKV kt k l i = some (some (j, y)) → ∃ m e k', j = i + m ∧ es[m]? = some e ∧ l[m]? = some (k', y) ∧ relV h φ I A k' e.key ∧ eqV kt k k' = some true
  | [], es, i, j, y, hE, H => by simp [findKV] at H
  | (k', v) :: l, es, i, j, y, hE, H => by
    simp only [relE] at hE
    obtain ⟨e, es', rfl, h1, h2, h3⟩ := hE
    simp only [findKV] at H
    split at H
    · rename_i hq
      injection H with H; injection H with H; injection H with H1 H2; subst H1 H2
      exact ⟨0, e, k', by simp, by simp, by simp, h1, hq⟩
    · obtain ⟨m, e', k'', h4, h5, h6, h7, h8⟩ := findKV_at h3 H
      exact ⟨m + 1, e', k'', by omega, by simpa using h5, by simpa using h6, h7, h8⟩
    · cases H

theorem relE_modify {k : AV} {kv : Value} (hk : relV h φ I A k kv) {y : AV} {v : Value} (hv : relV h φ I A y v) : ∀ {l : List (AV × AV)} {es : List MapEntry} (i : Nat), relE h φ I A l es →
    relE h φ I A (l.modify i fun _ => (k, y)) (es.modify i fun e => { e with key := kv, val := v })
  | [], es, i, hE => by simp only [relE] at hE; subst hE; simp [relE]
  | (k', v') :: l, es, i, hE => by
    simp only [relE] at hE
    obtain ⟨e, es', rfl, h1, h2, h3⟩ := hE
    cases i with
    | zero => simp only [List.modify_zero_cons, relE]; exact ⟨_, _, rfl, hk, hv, h3⟩
    | succ i => simp only [List.modify_succ_cons, relE]; exact ⟨_, _, rfl, h1, h2, relE_modify hk hv i h3⟩

theorem relE_push {k y : AV} {e : MapEntry} (hk : relV h φ I A k e.key) (hv : relV h φ I A y e.val) : ∀ {l : List (AV × AV)} {es : List MapEntry}, relE h φ I A l es → relE h φ I A (l ++ [(k, y)]) (es ++ [e])
  | [], es, hE => by simp only [relE] at hE; subst hE; simp only [List.nil_append, relE]; exact ⟨e, [], rfl, hk, hv, rfl⟩
  | (k', v') :: l, es, hE => by
    simp only [relE] at hE
    obtain ⟨e', es', rfl, h1, h2, h3⟩ := hE
    simp only [List.cons_append, relE]
    exact ⟨e', _, rfl, h1, h2, relE_push hk hv h3⟩

theorem stepOK_mapupd (R : RelH X φ I S w.heap) (RA : RelA φ I S nt a w.heap) (hd : ∀ d, dst = some d → d < nt) (hdead : ∀ b', get S.dead b' = none) {t key el : TypeId} {kt : KT} {om ok ov : Operand} {k y : AV} {b : Nat} {l : List (AV × AV)} {r : Option (Nat × AV)}
    (ho : execOp a.eval o = (do Instr.mapUpdate t (a.eval om) (a.eval ok) (a.eval ov); pure .skip)) (hu : P.underlying t = some (.map key el)) (hT : okKT P key kt = true)
    (hm : relV w.heap φ I S.A (.map b) (a.eval om)) (hk : relV w.heap φ I S.A k (a.eval ok)) (hko : keyOK kt k = true) (hv : relV w.heap φ I S.A y (a.eval ov)) (hb : get S.heap b = some (.mp l)) (hf : findKV kt k l 0 = some r) :
    StepOK P X S nt a w o dst id hard { val := .any, upd := some (b, .mp (updE r l k y)) } := by
  simp only [relV] at hm
  obtain ⟨hA, c, hφ, he⟩ := hm
  obtain ⟨_, hB⟩ := R.heap _ _ hb
  simp only [relB] at hB
  obtain ⟨c', es, clk, h1, h2, h3⟩ := hB
  rw [hφ] at h1; injection h1 with h1; injection h1 with h4; subst h4
  obtain ⟨q, h5, h6⟩ := run_findKey (P := P) (w := w) hT hk h3 hf
  have hgo : (getObj c).run P w = .ok (.map es clk) w := by simp [getObj, Sem.run, h2]
  have hcs : c < w.heap.size := (R.live _ _ _ _ hb hφ).1
  let es' : Array MapEntry := match q with
    | some (i, _) => es.modify i fun e => { e with key := a.eval ok, val := a.eval ov }
    | none => es.push { key := a.eval ok, val := a.eval ov, born := clk }
  let clk' : Nat := match q with
    | some _ => clk
    | none => clk + 1
  let h' : Array Obj := w.heap.setIfInBounds c (.map es' clk')
  have hset : ∀ ob, (setObj c ob).run P w = .ok () { w with heap := w.heap.setIfInBounds c ob } := fun ob => by simp [setObj, Sem.run, h2]
  have hrun : (Instr.mapUpdate t (.map (some c)) (a.eval ok) (a.eval ov)).run P w = .ok () { w with heap := h' } := by
    unfold Instr.mapUpdate
    rw [Sem.run_bind, run_underlying hu]
    simp only [Result.andThen_ok, Sem.run_bind, hgo]
    rw [run_checkKey hT hk hko]
    simp only [Result.andThen_ok, h5]
    cases q with
    | none => simp only [hset]; rfl
    | some p =>
      obtain ⟨i, v⟩ := p
      cases r with
      | none => simp [foundV] at h6
      | some rr =>
        obtain ⟨i', y'⟩ := rr
        simp only [foundV] at h6
        obtain ⟨h7, _⟩ := h6; subst h7
        obtain ⟨m, e, k', h8, h9, h10, h11, h12⟩ := findKV_at h3 hf
        simp only [Nat.zero_add] at h8; subst h8
        have h13 : Instr.sameBits 10000 e.key (a.eval ok) = true := sameBits_eqV (eqV_symm h12) h11 hk
        have h14 : (es[i']?.map (·.key)).getD (a.eval ok) = e.key := by
          rw [← Array.getElem?_toList, h9]; rfl
        simp only [Sem.run_bind, Instr.keyThatStays, h14, h13, if_true, Sem.run_pure, Result.andThen_ok, hset]
        rfl
  obtain ⟨R', E⟩ := R.wrote (blk' := .mp (updE r l k y)) (h' := h') (putV dst .any S.vars) hb hφ hdead (by simp [h']) (fun c' h7 => by simp only [h']; rw [Array.getElem?_setIfInBounds]; rw [if_neg (Ne.symm h7)])
    (fun c' s h7 => by
      by_cases h8 : c' = c
      · subst h8; simp [hsize, h2] at h7
      · simp only [h', hsize]; rw [Array.getElem?_setIfInBounds, if_neg (Ne.symm h8)]; exact h7)
    (fun E => by
      simp only [relB]
      refine ⟨c, es', clk', hφ, by simp [h', hcs], ?_⟩
      have hE := relE_mono E _ _ h3
      have hk' := relV_mono E _ _ hk
      have hv' := relV_mono E _ _ hv
      unfold foundV at h6
      unfold updE
      split at h6
      · simp only [es', Array.toList_push]
        exact relE_push hk' hv' hE
      · obtain ⟨h7, _⟩ := h6; subst h7
        simp only [es', Array.toList_modify]
        exact relE_modify hk' hv' _ hE
      · exact h6.elim)
  refine ⟨φ, I, undef, { w with heap := h' }, .inr ⟨?_, rfl⟩, R', RA.app (e := { val := .any, upd := some (b, .mp (updE r l k y)) }) E hd (by simp [relV]), ⟨rfl, rfl, rfl⟩⟩
  rw [ho, he, Sem.run_bind, hrun]; rfl
end
end
end Go.AM

/- Equality of structs and arrays that hold structs and arrays. -/
namespace Go.AM
noncomputable section

def flatFsN (P : Program) (rc : TypeId → Option (List EK)) : List Field → Nat → Option (List EK)
  | [], _ => some []
  | f :: fs, o => match rc f.type with
    | some ks => match flatFsN P rc fs (o + ks.length) with
      | some r => grd (decide (f.offset = o) && (f.name != "_" && (!aggT P f.type || decide (szOf P f.type = some ks.length)))) (some (ks ++ r))
      | none => none
    | none => none

/-- The cells of a type, as they are compared. -/
def flatT (P : Program) : Nat → TypeId → Option (List EK)
  | 0, _ => none
  | d + 1, t => match P.underlying t with
    | some .bool => some [.b]
    | some (.int _) => some [.i]
    | some .string => some [.s]
    | some (.struct fs) => grd (!P.stoodInHeld t) (flatFsN P (flatT P d) fs.toList 0)
    | some (.array n e) => match flatT P d e with
      | some ks => grd (decide (szOf P e = some ks.length)) (some (List.replicate n ks).flatten)
      | none => none
    | _ => none

def okKTN (P : Program) (t : TypeId) : KT → Bool
  | .ag ks => aggT P t && (decide (flatT P 50 t = some ks) && !P.eqGuardType P.depth t)
  | .sc _ => false

theorem eqL_split : ∀ {k1 k2 : List EK} {xs ys : List AV} {r : Bool}, eqL (k1 ++ k2) xs ys = some r → ∃ q, eqL k1 (xs.take k1.length) (ys.take k1.length) = some q ∧ (q = false → r = false) ∧ (q = true → eqL k2 (xs.drop k1.length) (ys.drop k1.length) = some r)
  | [], k2, xs, ys, r, H => ⟨true, by simp [eqL], by simp, fun _ => by simpa using H⟩
  | k :: k1, k2, xs, ys, r, H => by
    simp only [List.cons_append] at H
    cases xs with
    | nil => simp [eqL] at H
    | cons a x =>
      cases ys with
      | nil => simp [eqL] at H
      | cons b y =>
        simp only [eqL] at H
        simp only [List.length_cons, List.take_succ_cons, List.drop_succ_cons]
        cases hr : eqS k a b with
        | none => rw [hr] at H; cases H
        | some q =>
          rw [hr] at H
          cases q with
          | false => injection H with H; subst H; exact ⟨false, by simp [eqL, hr], fun _ => rfl, by simp⟩
          | true =>
            obtain ⟨q, h1, h2⟩ := eqL_split H
            exact ⟨q, by simp only [eqL, hr]; exact h1, h2⟩

section
variable {P : Program} {h : Array Obj} {φ : Nat → Option (Nat × Nat)} {I A : Nat → Prop} {w : World}

theorem aggT_run {t : TypeId} (H : aggT P t = true) : (isAgg t).run P w = .ok true w := by
  unfold aggT at H
  split at H
  · rename_i hu; simp [isAgg, run_underlying hu]
  · rename_i hu; simp [isAgg, run_underlying hu]
  · cases H

theorem run_part_agg {t : TypeId} {n o : Nat} (H : aggT P t = true) (hs : szOf P t = some n) {vs : List Value} : (part t vs.toArray o).run P w = .ok (.agg ((vs.drop o).take n).toArray) w := by
  unfold part
  rw [Sem.run_bind, aggT_run H]
  simp only [Result.andThen_ok, if_true, Sem.run_bind]
  rw [run_szOf hs]
  simp only [Result.andThen_ok, Sem.run_pure]
  congr 2
  apply Array.ext'
  simp [List.drop_take]

/-- What is shown of each type: its value as a whole, and as a part of another one. -/
def EqA (P : Program) (d : Nat) : Prop := ∀ {h : Array Obj} {φ : Nat → Option (Nat × Nat)} {I A : Nat → Prop} {w : World} (t : TypeId) (ks : List EK) (e : Nat) (xs ys : List AV) (vs us : List Value) (r : Bool), flatT P d t = some ks → aggT P t = true → relL h φ I A xs vs → relL h φ I A ys us → eqL ks xs ys = some r →
  (Op.equalIn (d + e) t (.agg vs.toArray) (.agg us.toArray)).run P w = .ok r w

def EqP (P : Program) (d : Nat) : Prop := ∀ {h : Array Obj} {φ : Nat → Option (Nat × Nat)} {I A : Nat → Prop} {w : World} (t : TypeId) (ks : List EK) (e o : Nat) (xs ys : List AV) (vs us : List Value) (r : Bool), flatT P d t = some ks → (aggT P t = true → szOf P t = some ks.length) → relL h φ I A xs vs → relL h φ I A ys us → eqL ks ((xs.drop o).take ks.length) ((ys.drop o).take ks.length) = some r →
  ∃ a b, (part t vs.toArray o).run P w = .ok a w ∧ (part t us.toArray o).run P w = .ok b w ∧ (Op.equalIn (d + e) t a b).run P w = .ok r w

theorem flatT_scalar {d : Nat} {t : TypeId} {ks : List EK} (H : flatT P d t = some ks) (ha : aggT P t = false) : ∃ k d', d = d' + 1 ∧ ks = [k] ∧ ekOf P t = some k := by
  cases d with
  | zero => simp [flatT] at H
  | succ d =>
    simp only [flatT] at H
    unfold aggT at ha
    split at H
    · rename_i hu; injection H with H; exact ⟨.b, d, rfl, H.symm, by simp [ekOf, hu]⟩
    · rename_i hu; injection H with H; exact ⟨.i, d, rfl, H.symm, by simp [ekOf, hu]⟩
    · rename_i hu; injection H with H; exact ⟨.s, d, rfl, H.symm, by simp [ekOf, hu]⟩
    · rename_i hu; rw [hu] at ha; cases ha
    · rename_i hu; rw [hu] at ha; cases ha
    · cases H

theorem EqP.of {d : Nat} (HA : EqA P d) : EqP P d := by
  intro h φ I A w t ks e o xs ys vs us r hf hs hx hy H
  cases ha : aggT P t with
  | true =>
    exact ⟨_, _, run_part_agg ha (hs ha), run_part_agg ha (hs ha), HA t ks e _ _ _ _ r hf ha (relL_take _ (relL_drop o hx)) (relL_take _ (relL_drop o hy)) H⟩
  | false =>
    obtain ⟨k, d', rfl, rfl, hk⟩ := flatT_scalar hf ha
    simp only [List.length_cons, List.length_nil, Nat.zero_add] at H
    cases hdx : xs.drop o with
    | nil => rw [hdx] at H; simp [eqL] at H
    | cons a x =>
      cases hdy : ys.drop o with
      | nil => rw [hdx, hdy] at H; simp [eqL] at H
      | cons b y =>
        rw [hdx, hdy] at H
        simp only [List.take_succ_cons, List.take_zero, eqL] at H
        have ga : xs[o]? = some a := by rw [← List.head?_drop, hdx]; rfl
        have gb : ys[o]? = some b := by rw [← List.head?_drop, hdy]; rfl
        obtain ⟨va, h6, h7⟩ := relL_get hx ga
        obtain ⟨vb, h8, h9⟩ := relL_get hy gb
        refine ⟨va, vb, run_part_one hk (by simpa using h6), run_part_one hk (by simpa using h8), ?_⟩
        cases hr : eqS k a b with
        | none => rw [hr] at H; cases H
        | some q =>
          rw [hr] at H
          have : q = r := by cases q <;> simpa using H
          subst this
          rw [show d' + 1 + e = d' + e + 1 by omega]
          exact eqS_run (d' + e) hk h7 h9 hr

theorem eqFieldsN {d : Nat} (HP : EqP P d) (e : Nat) : ∀ (fs : List Field) (ks : List EK) (o : Nat) (xs ys : List AV) (vs us : List Value) (r : Bool), flatFsN P (flatT P d) fs o = some ks → relL h φ I A xs vs → relL h φ I A ys us → eqL ks (xs.drop o) (ys.drop o) = some r →
    (Op.eqFields (d + e) vs.toArray us.toArray fs).run P w = .ok r w
  | [], ks, o, xs, ys, vs, us, r, hf, hx, hy, H => by
    simp only [flatFsN, Option.some.injEq] at hf; subst hf
    generalize xs.drop o = x at H
    generalize ys.drop o = y at H
    cases x <;> cases y <;> simp [eqL] at H
    subst H; rfl
  | f :: fs, ks, o, xs, ys, vs, us, r, hf, hx, hy, H => by
    simp only [flatFsN] at hf
    split at hf
    · rename_i k1 h1
      split at hf
      · rename_i k2 h2
        obtain ⟨h3, h4⟩ := grd_some hf
        injection h4 with h4; subst h4
        simp only [Bool.and_eq_true, decide_eq_true_eq, Bool.or_eq_true, Bool.not_eq_true'] at h3
        obtain ⟨q1, q2, q3⟩ := h3
        obtain ⟨q, p1, p2, p3⟩ := eqL_split H
        obtain ⟨a, b, r1, r2, r3⟩ := HP (w := w) f.type k1 e o xs ys vs us q h1 (fun ha => q3.resolve_left (by rw [ha]; simp)) hx hy p1
        simp only [Op.eqFields]
        rw [if_pos (by simpa using q2)]
        simp only [Sem.run_bind, q1, r1, Result.andThen_ok, r2, r3]
        cases q with
        | false => rw [p2 rfl]; rfl
        | true =>
          simp only [Bool.not_true, Bool.false_eq_true, if_false]
          exact eqFieldsN HP e fs k2 (o + k1.length) xs ys vs us r h2 hx hy (by rw [← List.drop_drop, ← List.drop_drop]; exact p3 rfl)
      · cases hf
    · cases hf

theorem eqItemsN {d : Nat} (HP : EqP P d) (e : Nat) {t : TypeId} {ks : List EK} (hf : flatT P d t = some ks) (hs : szOf P t = some ks.length) : ∀ (m i : Nat) (xs ys : List AV) (vs us : List Value) (r : Bool), relL h φ I A xs vs → relL h φ I A ys us → eqL (List.replicate m ks).flatten (xs.drop (i * ks.length)) (ys.drop (i * ks.length)) = some r →
    (Op.eqItems (d + e) t ks.length vs.toArray us.toArray (List.range' i m)).run P w = .ok r w
  | 0, i, xs, ys, vs, us, r, hx, hy, H => by
    simp only [List.replicate_zero, List.flatten_nil] at H
    generalize xs.drop (i * ks.length) = x at H
    generalize ys.drop (i * ks.length) = y at H
    cases x <;> cases y <;> simp [eqL] at H
    subst H; rfl
  | m + 1, i, xs, ys, vs, us, r, hx, hy, H => by
    simp only [List.replicate_succ, List.flatten_cons] at H
    obtain ⟨q, p1, p2, p3⟩ := eqL_split H
    obtain ⟨a, b, r1, r2, r3⟩ := HP (w := w) t ks e (i * ks.length) xs ys vs us q hf (fun _ => hs) hx hy p1
    simp only [List.range'_succ, Op.eqItems, Sem.run_bind, r1, Result.andThen_ok, r2, r3]
    cases q with
    | false => rw [p2 rfl]; rfl
    | true =>
      simp only [Bool.not_true, Bool.false_eq_true, if_false]
      exact eqItemsN HP e hf hs m (i + 1) xs ys vs us r hx hy (by rw [Nat.add_mul, Nat.one_mul, ← List.drop_drop, ← List.drop_drop]; exact p3 rfl)

theorem eqA_all : ∀ d, EqA P d
  | 0 => fun t ks e xs ys vs us r hf => by simp [flatT] at hf
  | d + 1 => fun t ks e xs ys vs us r hf ha hx hy H => by
    have HP : EqP P d := EqP.of (eqA_all d)
    rw [show d + 1 + e = d + e + 1 by omega]
    unfold aggT at ha
    simp only [flatT] at hf
    split at hf
    · rename_i hu; rw [hu] at ha; cases ha
    · rename_i hu; rw [hu] at ha; cases ha
    · rename_i hu; rw [hu] at ha; cases ha
    · rename_i fs hu
      obtain ⟨h3, h4⟩ := grd_some hf
      have hfo : P.fieldsOf t = fs := by simp [Program.fieldsOf, hu]
      rw [run_equalIn_struct _ (d + e) t _ _ (by rw [hfo, hu]) (by simpa using h3), hfo]
      exact eqFieldsN HP e fs.toList ks 0 xs ys vs us r h4 hx hy (by simpa using H)
    · rename_i n el hu
      split at hf
      · rename_i k1 h1
        obtain ⟨h3, h4⟩ := grd_some hf
        simp only [decide_eq_true_eq] at h3
        injection h4 with h4; subst h4
        have h5 := h3
        unfold szOf at h5
        cases hi : P.info? el with
        | none => rw [hi] at h5; cases h5
        | some i =>
          rw [hi] at h5
          simp only [Option.map_some, Option.some.injEq] at h5
          rw [run_equalIn_array _ (d + e) _ _ hu hi]
          have hc : P.cellsOf el = k1.length := by simp [Program.cellsOf, hi, h5]
          rw [hc, List.range_eq_range']
          exact eqItemsN HP e h1 h3 n 0 xs ys vs us r hx hy (by simpa using H)
      · cases hf
    · cases hf

theorem y_eqN {t : TypeId} {kt : KT} {ng : Bool} {ox oy : Operand} (hT : okKTN P t kt = true) {x y : AV} {a b : Value} {r : Bool} (hx : relV h φ I A x a) (hy : relV h φ I A y b) (H : eqV kt x y = some r) :
    Yields P (do eqGuard (eqOp ng) t ox oy a b; binOp (eqOp ng) t a b) h φ I A (.bool (ng ^^ r)) w := by
  refine ⟨.bool (ng ^^ r), w, ?_, rfl, by simp [relV]⟩
  cases kt with
  | sc k => cases hT
  | ag ks =>
    simp only [okKTN, Bool.and_eq_true, decide_eq_true_eq, Bool.not_eq_true'] at hT
    obtain ⟨h1, h2, h3⟩ := hT
    cases x <;> simp only [eqV, reduceCtorEq] at H
    cases y <;> simp only [eqV, reduceCtorEq] at H
    rename_i xs ys
    simp only [relV] at hx hy
    obtain ⟨vs, rfl, k1⟩ := hx
    obtain ⟨us, rfl, k2⟩ := hy
    have hrun := eqA_all (P := P) 50 (w := w) t ks 9950 xs ys vs us r h2 h1 k1 k2 H
    rw [Sem.run_bind, run_eqGuard_agg w _ t ox oy _ _ h3]
    simp only [Result.andThen_ok]
    cases ng
    · simp only [eqOp, run_eql_struct]; rw [hrun]; simp
    · simp only [eqOp, run_neq_struct]; rw [hrun]; simp
end
end
end Go.AM
