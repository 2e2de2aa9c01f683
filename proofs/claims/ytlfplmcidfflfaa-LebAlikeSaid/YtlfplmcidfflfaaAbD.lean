import Derived.Orders
import Derived.Below
import Derived.OrdersIn
import Derived.ControlIn
import Derived.Laws.Cells
import Derived.Laws.Entries
import Derived.Laws.BytesString
import Derived.Lib.Strings
import Derived.Laws.StructEq
import Derived.ChangeKeysEq
import Derived.Laws.IdiomCopy
import Derived.Laws.Append
import Derived.MapKept
set_option linter.unusedVariables false
set_option linter.unusedSimpArgs false
namespace Go.Ab

/-! Abstract values, objects, types. -/
inductive AV where
  | v (x : Value)
  | p (id off : Nat)
  | s (id off len : Nat)
  | w (id off len : Nat)
  | z (cs : List AV) (len : Nat)
  | q (cs : List AV) (off : Nat)
  | g (cs : List AV)
  | t (vs : List AV)
  | f (fn : Fn) (first cap : List AV)
  | i (t : TypeId) (x : AV)
  | m (id : Nat)
  | bad
  deriving Inhabited

inductive AO where
  | o (sz : Nat) (cs : List AV)
  | m (es : List (AV × AV))
  | k (b : Nat) (f : Array Value → Obj) (tm : List AV)
  | dead
  deriving Inhabited

inductive TK where
  | no
  | int (k : IntKind)
  | bool
  | ptr (e : Nat)
  | one
  | str
  | sl (e sz by_ : Nat)
  | ar (n e sz : Nat)
  | st (size : Nat) (fs : List (Nat × Nat × Bool))
  | mp (k e : Nat)
  deriving Inhabited, Repr

def TK.size : TK → Nat
  | .no => 0
  | .int _ | .bool | .ptr _ | .one | .str | .sl _ _ _ | .mp _ _ => 1
  | .ar n _ sz => n * sz
  | .st n _ => n
def TK.known : TK → Bool
  | .no => false
  | _ => true
def TK.agg : TK → Bool
  | .ar _ _ _ | .st _ _ => true
  | _ => false

/-- the program, and what its package-level variables hold -/
structure Ctx where
  P : Program
  glob : Nat → List AV
  mixed : P.follows .mixedOrders = true

def isAggOf (P : Program) (t : TypeId) : Bool :=
  match P.underlying t with
  | some (.struct _) => true
  | some (.array _ _) => true
  | _ => false
def tkOf (P : Program) (t : TypeId) : TK :=
  match P.info? t with
  | none => .no
  | some i => match P.underlying t with
    | some (.int k) => bif i.size == 1 then .int k else .no
    | some .bool => bif i.size == 1 then .bool else .no
    | some .string => bif i.size == 1 then .str else .no
    | some (.pointer e) => bif i.size == 1 then .ptr e else .no
    | some (.slice e) => match P.info? e with
      | some j => bif i.size == 1 && (match j.zero with | some z => z.cells.size == j.size | none => false) then .sl e j.size j.bytes else .no
      | none => .no
    | some (.array n e) => match P.info? e with
      | some j => bif i.size == n * j.size then .ar n e j.size else .no
      | none => .no
    | some (.struct fs) => bif fs.toList.all (fun f => P.cellsOf f.type != 0 && (P.underlying f.type).isSome) then .st i.size (fs.toList.map fun f => (f.offset, P.cellsOf f.type, isAggOf P f.type)) else .no
    | some (.map k e) => bif i.size == 1 then .mp k e else .no
    | some (.func _ _ _) => bif i.size == 1 then .one else .no
    | some (.interface _) => bif i.size == 1 then .one else .no
    | _ => .no
def zeroOf (P : Program) (t : TypeId) : Option (List AV) := ((P.info? t).bind (·.zero)).map fun v => v.cells.toList.map AV.v

abbrev Heap := List AO
abbrev St := List AV × Heap
/-- what is to be done with a value and a heap; simp (without dsimp) does not look into it -/
def Tg (_ : AV → Heap → Prop) : Type := Unit
structure Kt where
  c ::
  K : AV → Heap → Prop
  t : Tg K

def cst : Value → AV
  | .agg cs => .g (cs.toList.map .v)
  | .tuple vs => .t (vs.toList.map .v)
  | .iface t v => .i t (.v v)
  | x => .v x

def AV.cells : AV → List AV
  | .g cs => cs
  | a => [a]

/-- may lie in one cell -/
def AV.one : AV → Bool
  | .v (.agg _) => false
  | .v (.tuple _) => false
  | .g _ => false
  | .t _ => false
  | .bad => false
  | _ => true

def evl (X : Ctx) (tm : List AV) : Operand → AV
  | .tmp t => tm.getD t .bad
  | .const v => cst v
  | .global g => .q (X.glob g) 0
  | .func f => .f (.func f) [] []

def setAt (cs : List AV) (off : Nat) : List AV → List AV
  | [] => cs
  | x :: xs => setAt (cs.set off x) (off + 1) xs

/-- parts: of each where it goes, its cells' number, its value -/
abbrev Parts := List (Nat × Nat × AV)
def fill (cs : List AV) : Parts → List AV
  | [] => cs
  | (off, _, x) :: r => fill (setAt cs off x.cells) r
def fits (n : Nat) : Parts → Prop
  | [] => True
  | (off, k, x) :: r => (x.cells.length = k ∧ off + k ≤ n ∧ x.cells.all AV.one = true) ∧ fits n r

def part (n : Nat) (agg : Bool) (cs : List AV) (off : Nat) : AV := bif agg then .g ((cs.drop off).take n) else cs.getD off .bad

/-! The operations: each by patterns, so that its equations (a_load.eq_1 ..) fire on what is known alone. -/
def a_mov (x : AV) (h : Heap) (K : Kt) : Prop := K.K x h
def a_pick : AV → AV → AV → Heap → Kt → Prop
  | .v (.bool t), a, b, h, K => K.K (bif t then a else b) h
  | _, _, _, _, _ => False
def a_alloc (z : List AV) (h : Heap) (K : Kt) : Prop := z.all AV.one = true ∧ K.K (.p h.length 0) (h ++ [.o 1 z])
def a_box (x : AV) (h : Heap) (K : Kt) : Prop := x.cells.all AV.one = true ∧ K.K (.p h.length 0) (h ++ [.o 1 x.cells])
def a_build (z : List AV) (ps : Parts) (h : Heap) (K : Kt) : Prop := fits z.length ps ∧ K.K (.g (fill z ps)) h
def a_lit (sz n : Nat) (z : List AV) (ps : Parts) (h : Heap) (K : Kt) : Prop := (z.all AV.one = true ∧ fits z.length ps ∧ z.length = n * sz ∧ 0 < sz ∧ n * sz ≤ 1000000) ∧ K.K (.s h.length 0 n) (h ++ [.o sz (fill z ps)])
def a_ldo (n : Nat) (agg : Bool) (off : Nat) : AO → Heap → Kt → Prop
  | .o _ cs, h, K => (0 < n ∧ off + n ≤ cs.length) ∧ K.K (part n agg cs off) h
  | _, _, _ => False
def a_load (n : Nat) (agg : Bool) : AV → Heap → Kt → Prop
  | .p id off, h, K => a_ldo n agg off (h.getD id .dead) h K
  | .q cs off, h, K => (0 < n ∧ off + n ≤ cs.length) ∧ K.K (part n agg cs off) h
  | _, _, _ => False
def a_sto (n : Nat) (id off : Nat) (x : AV) : AO → Heap → Kt → Prop
  | .o sz cs, h, K => (0 < n ∧ x.cells.length = n ∧ off + n ≤ cs.length ∧ x.cells.all AV.one = true) ∧ K.K .bad (h.set id (.o sz (setAt cs off x.cells)))
  | _, _, _ => False
def a_store (n : Nat) : AV → AV → Heap → Kt → Prop
  | .p id off, x, h, K => a_sto n id off x (h.getD id .dead) h K
  | _, _, _, _ => False
def a_nilc : AV → Heap → Kt → Prop
  | .p id off, h, K => K.K (.p id off) h
  | .q cs off, h, K => K.K (.q cs off) h
  | .f (.func n) a b, h, K => K.K (.f (.func n) a b) h
  | _, _, _ => False

def abits (op : BinOp) (k : IntKind) (x y : Int) : Int :=
  let a := BitVec.ofInt k.bits x
  let b := BitVec.ofInt k.bits y
  match op with
  | .and => k.wrap (a &&& b).toNat
  | .or => k.wrap (a ||| b).toNat
  | .xor => k.wrap (a ^^^ b).toNat
  | _ => k.wrap (a &&& ~~~b).toNat

def a_bin : BinOp → AV → AV → Heap → Kt → Prop
  | .add, .v (.int k a), .v (.int k' b), h, K => k = k' ∧ K.K (.v (.int k (k.wrap (a + b)))) h
  | .sub, .v (.int k a), .v (.int k' b), h, K => k = k' ∧ K.K (.v (.int k (k.wrap (a - b)))) h
  | .mul, .v (.int k a), .v (.int k' b), h, K => k = k' ∧ K.K (.v (.int k (k.wrap (a * b)))) h
  | .quo, .v (.int k a), .v (.int k' b), h, K => (k = k' ∧ b ≠ 0) ∧ K.K (.v (.int k (k.wrap (a.tdiv b)))) h
  | .rem, .v (.int k a), .v (.int k' b), h, K => (k = k' ∧ b ≠ 0) ∧ K.K (.v (.int k (a.tmod b))) h
  | .and, .v (.int k a), .v (.int k' b), h, K => k = k' ∧ K.K (.v (.int k (abits .and k a b))) h
  | .or, .v (.int k a), .v (.int k' b), h, K => k = k' ∧ K.K (.v (.int k (abits .or k a b))) h
  | .xor, .v (.int k a), .v (.int k' b), h, K => k = k' ∧ K.K (.v (.int k (abits .xor k a b))) h
  | .andNot, .v (.int k a), .v (.int k' b), h, K => k = k' ∧ K.K (.v (.int k (abits .andNot k a b))) h
  | .shl, .v (.int k a), .v (.int _ b), h, K => 0 ≤ b ∧ K.K (.v (.int k (k.wrap (a * 2 ^ min b.toNat k.bits)))) h
  | .shr, .v (.int k a), .v (.int _ b), h, K => 0 ≤ b ∧ K.K (.v (.int k (a.fdiv (2 ^ min b.toNat k.bits)))) h
  | .eql, .v (.int k a), .v (.int k' b), h, K => k = k' ∧ K.K (.v (.bool (a == b))) h
  | .neq, .v (.int k a), .v (.int k' b), h, K => k = k' ∧ K.K (.v (.bool (a != b))) h
  | .lss, .v (.int k a), .v (.int k' b), h, K => k = k' ∧ K.K (.v (.bool (decide (a < b)))) h
  | .leq, .v (.int k a), .v (.int k' b), h, K => k = k' ∧ K.K (.v (.bool (decide (a ≤ b)))) h
  | .gtr, .v (.int k a), .v (.int k' b), h, K => k = k' ∧ K.K (.v (.bool (decide (a > b)))) h
  | .geq, .v (.int k a), .v (.int k' b), h, K => k = k' ∧ K.K (.v (.bool (decide (a ≥ b)))) h
  | _, _, _, _, _ => False

def a_bins : BinOp → AV → AV → Heap → Kt → Prop
  | .add, .v (.string a), .v (.string b), h, K => ((a.size + b.size : Nat) : Int) ≤ 9223372036854775807 ∧ K.K (.v (.string (a ++ b))) h
  | .eql, .v (.string a), .v (.string b), h, K => K.K (.v (.bool (decide (a = b)))) h
  | .neq, .v (.string a), .v (.string b), h, K => K.K (.v (.bool (!decide (a = b)))) h
  | .lss, .v (.string a), .v (.string b), h, K => K.K (.v (.bool (Op.bytesLess a.toList b.toList))) h
  | .gtr, .v (.string a), .v (.string b), h, K => K.K (.v (.bool (!(Op.bytesLess a.toList b.toList || decide (a = b))))) h
  | _, _, _, _, _ => False

def a_eqp (neg : Bool) : AV → AV → Heap → Kt → Prop
  | .p _ _, .v (.pointer none), h, K => K.K (.v (.bool neg)) h
  | .q _ _, .v (.pointer none), h, K => K.K (.v (.bool neg)) h
  | .v (.pointer none), .v (.pointer none), h, K => K.K (.v (.bool !neg)) h
  | _, _, _, _ => False

def a_eqb (neg : Bool) : AV → AV → Heap → Kt → Prop
  | .v (.bool a), .v (.bool b), h, K => K.K (.v (.bool (bif neg then !(a == b) else a == b))) h
  | _, _, _, _ => False

/-! x == y of structs and arrays of numbers, truth values, texts -/
def flatFs (P : Program) (F : TypeId → Option (List TK)) : Nat → List Field → Option (List TK)
  | _, [] => some []
  | off, f :: fs => bif f.name == "_" || !(Nat.beq f.offset off) then none else match F f.type with
    | none => none
    | some ks => bif Nat.beq (P.cellsOf f.type) ks.length then (match flatFs P F (off + ks.length) fs with
        | none => none
        | some r => some (ks ++ r)) else none
def flatK (P : Program) : Nat → TypeId → Option (List TK)
  | 0, _ => none
  | m + 1, t => match P.underlying t with
    | some (.int k) => some [.int k]
    | some .bool => some [.bool]
    | some .string => some [.str]
    | some (.struct fs) => bif P.stoodInHeld t then none else flatFs P (flatK P m) 0 fs.toList
    | some (.array n e) => match flatK P m e with
        | some ks => bif Nat.beq (P.cellsOf e) ks.length then some (List.replicate n ks).flatten else none
        | none => none
    | _ => none
def eqKinds (P : Program) (t : TypeId) : Option (List TK) := bif P.eqGuardType P.depth t then none else flatK P 6 t
def a_eql (neg : Bool) : List TK → List AV → List AV → Bool → Heap → Kt → Prop
  | [], [], [], t, h, K => K.K (.v (.bool (bif neg then !t else t))) h
  | .int _ :: r, .v (.int k a) :: xs, .v (.int k' b) :: ys, t, h, K => k = k' ∧ a_eql neg r xs ys (t && a == b) h K
  | .bool :: r, .v (.bool a) :: xs, .v (.bool b) :: ys, t, h, K => a_eql neg r xs ys (t && a == b) h K
  | .str :: r, .v (.string a) :: xs, .v (.string b) :: ys, t, h, K => a_eql neg r xs ys (t && decide (a = b)) h K
  | _, _, _, _, _, _ => False
def a_eqs (neg : Bool) (ks : List TK) : AV → AV → Heap → Kt → Prop
  | .g xs, .g ys, h, K => a_eql neg ks xs ys true h K
  | _, _, _, _ => False
def a_eqm (neg : Bool) : AV → AV → Heap → Kt → Prop
  | .m _, .v (.map none), h, K => K.K (.v (.bool neg)) h
  | .v (.map none), .v (.map none), h, K => K.K (.v (.bool !neg)) h
  | _, _, _, _ => False

def a_un : UnOp → AV → Heap → Kt → Prop
  | .neg, .v (.int k n), h, K => K.K (.v (.int k (k.wrap (0 - n)))) h
  | .xor, .v (.int k n), h, K => K.K (.v (.int k (abits .xor k (if k.signed then -1 else k.max) n))) h
  | .not, .v (.bool b), h, K => K.K (.v (.bool (!b))) h
  | _, _, _, _ => False

def a_cint (k : IntKind) : AV → Heap → Kt → Prop
  | .v (.int _ n), h, K => K.K (.v (.int k (k.wrap n))) h
  | _, _, _ => False

/-- the bytes of cells -/
def asBytes : List AV → Option (List UInt8)
  | [] => some []
  | .v (.int .u8 n) :: r => match asBytes r with
    | some l => some (UInt8.ofNat n.toNat :: l)
    | none => none
  | _ :: _ => none

def mkStr (l : List UInt8) : ByteArray := ⟨l.toArray⟩

/-- string(x): of a text, of bytes -/
def a_mkstr : Option (List UInt8) → Heap → Kt → Prop
  | some l, h, K => K.K (.v (.string (mkStr l))) h
  | _, _, _ => False
def a_cstro (off n : Nat) : AO → Heap → Kt → Prop
  | .o _ cs, h, K => off + n ≤ cs.length ∧ a_mkstr (asBytes ((cs.drop off).take n)) h K
  | _, _, _ => False
def a_s2s : AV → Heap → Kt → Prop
  | .v (.string s), h, K => K.K (.v (.string s)) h
  | _, _, _ => False
def ofStr (s : ByteArray) : List AV := s.data.toList.map fun b => .v (.int .u8 b.toNat)
/-- []byte(x) -/
def a_s2b : AV → Heap → Kt → Prop
  | .v (.string s), h, K => K.K (.s h.length 0 s.size) (h ++ [.o 1 (ofStr s)])
  | _, _, _ => False
/-- []byte(x) of a constant: its memory is marked, no more -/
def a_sl2o (id off len : Nat) : AO → Heap → Kt → Prop
  | .o _ _, h, K => K.K (.s id off len) h
  | _, _, _ => False
def a_sl2 : AV → Heap → Kt → Prop
  | .s id off len, h, K => 0 < len ∧ a_sl2o id off len (h.getD id .dead) h K
  | _, _, _ => False
def a_cstr : AV → Heap → Kt → Prop
  | .z cs n, h, K => n ≤ cs.length ∧ a_mkstr (asBytes (cs.take n)) h K
  | .s id off n, h, K => a_cstro off n (h.getD id .dead) h K
  | .v (.slice none 0 0), h, K => K.K (.v (.string (mkStr []))) h
  | _, _, _ => False

def bOk : Option AV → Nat → Prop
  | none, _ => True
  | some (.v (.int _ i)), hi => 0 ≤ i ∧ i ≤ (hi : Int)
  | _, _ => False
def bVal : Option AV → Nat → Nat
  | some (.v (.int _ i)), _ => i.toNat
  | _, d => d

/-- x[lo:hi], x[lo:hi:hi] -/
def a_slo (sz id off len : Nat) (lo hi : Option AV) : AO → Heap → Kt → Prop
  | .o sz' _, h, K => (sz' = sz ∧ bOk hi len ∧ bOk lo (bVal hi len)) ∧ K.K (.s id (off + bVal lo 0 * sz) (bVal hi len - bVal lo 0)) h
  | _, _, _ => False
def a_slice (sz : Nat) : AV → Option AV → Option AV → Option AV → Heap → Kt → Prop
  | .s id off len, lo, hi, none, h, K => a_slo sz id off len lo hi (h.getD id .dead) h K
  | .z cs len, lo, hi, mx, h, K => ((mx = none ∨ mx = hi) ∧ bOk hi len ∧ bOk lo (bVal hi len)) ∧
      K.K (.z ((cs.drop (bVal lo 0 * sz)).take ((bVal hi len - bVal lo 0) * sz)) (bVal hi len - bVal lo 0)) h
  | .v (.slice none 0 0), lo, hi, none, h, K => (bOk hi 0 ∧ bOk lo 0) ∧ K.K (.v (.slice none 0 0)) h
  | _, _, _, _, _, _ => False
def a_sstr : AV → Option AV → Option AV → Heap → Kt → Prop
  | .v (.string s), lo, hi, h, K => (bOk hi s.size ∧ bOk lo (bVal hi s.size)) ∧ K.K (.v (.string (s.extract (bVal lo 0) (bVal hi s.size)))) h
  | _, _, _, _, _ => False

/-- x[lo:hi] of an array behind a pointer -/
def a_saro (sz id off n : Nat) (lo hi : Option AV) : AO → Heap → Kt → Prop
  | .o sz' cs, h, K => (sz' = sz ∧ bOk hi n ∧ bOk lo (bVal hi n) ∧ off + n * sz ≤ cs.length) ∧ K.K (.s id (off + bVal lo 0 * sz) (bVal hi n - bVal lo 0)) h
  | _, _, _ => False
def a_sarr (n sz : Nat) : AV → Option AV → Option AV → Heap → Kt → Prop
  | .p id off, lo, hi, h, K => a_saro sz id off n lo hi (h.getD id .dead) h K
  | _, _, _, _, _ => False
/-- the array behind a slice -/
def a_s2a (n : Nat) : AV → Heap → Kt → Prop
  | .s id off len, h, K => (0 < n ∧ n ≤ len) ∧ K.K (.p id off) h
  | _, _, _ => False

def a_fa (o : Nat) : AV → Heap → Kt → Prop
  | .p id off, h, K => K.K (.p id (off + o)) h
  | .q cs off, h, K => K.K (.q cs (off + o)) h
  | _, _, _ => False
def a_fld (o n : Nat) (agg : Bool) : AV → Heap → Kt → Prop
  | .g cs, h, K => o + n ≤ cs.length ∧ K.K (part n agg cs o) h
  | _, _, _ => False
def a_ia (sz : Nat) : AV → AV → Heap → Kt → Prop
  | .s id off len, .v (.int _ i), h, K => (0 ≤ i ∧ i < (len : Int)) ∧ K.K (.p id (off + i.toNat * sz)) h
  | .w id off len, .v (.int _ i), h, K => (0 ≤ i ∧ i < (len : Int)) ∧ K.K (.p id (off + i.toNat * sz)) h
  | .z cs len, .v (.int _ i), h, K => (0 ≤ i ∧ i < (len : Int) ∧ i.toNat * sz < cs.length) ∧ K.K (.q cs (i.toNat * sz)) h
  | _, _, _, _ => False
def a_iarr (n sz : Nat) : AV → AV → Heap → Kt → Prop
  | .p id off, .v (.int _ i), h, K => (0 ≤ i ∧ i < (n : Int)) ∧ K.K (.p id (off + i.toNat * sz)) h
  | .q cs off, .v (.int _ i), h, K => (0 ≤ i ∧ i < (n : Int)) ∧ K.K (.q cs (off + i.toNat * sz)) h
  | _, _, _, _ => False
def a_ixs : AV → AV → Heap → Kt → Prop
  | .v (.string s), .v (.int _ i), h, K => (0 ≤ i ∧ i < (s.size : Int)) ∧ K.K (.v (.int .u8 (s.data.toList.getD i.toNat 0).toNat)) h
  | _, _, _, _ => False
def a_ixa (n sz : Nat) (agg : Bool) : AV → AV → Heap → Kt → Prop
  | .g cs, .v (.int _ i), h, K => ((0 ≤ i ∧ i < (n : Int)) ∧ i.toNat * sz + sz ≤ cs.length) ∧ K.K (part sz agg cs (i.toNat * sz)) h
  | _, _, _, _ => False
def a_ext (i : Nat) : AV → Heap → Kt → Prop
  | .t vs, h, K => i < vs.length ∧ K.K (vs.getD i .bad) h
  | _, _, _ => False
def a_lenmo : AO → Heap → Kt → Prop
  | .m es, h, K => K.K (.v (.int .i64 es.length)) h
  | _, _, _ => False
def a_lenm : AV → Heap → Kt → Prop
  | .m id, h, K => a_lenmo (h.getD id .dead) h K
  | .v (.map none), h, K => K.K (.v (.int .i64 0)) h
  | _, _, _ => False
def a_lens : AV → Heap → Kt → Prop
  | .v (.string s), h, K => K.K (.v (.int .i64 s.size)) h
  | _, _, _ => False
def a_len : AV → Heap → Kt → Prop
  | .s _ _ n, h, K => K.K (.v (.int .i64 n)) h
  | .w _ _ n, h, K => K.K (.v (.int .i64 n)) h
  | .z _ n, h, K => K.K (.v (.int .i64 n)) h
  | .v (.slice none 0 0), h, K => K.K (.v (.int .i64 0)) h
  | _, _, _ => False
def a_max : List AV → Heap → Kt → Prop
  | [.v (.int k x), .v (.int _ y)], h, K => K.K (.v (.int k (if y > x then y else x))) h
  | _, _, _ => False
def a_min : List AV → Heap → Kt → Prop
  | [.v (.int k x), .v (.int _ y)], h, K => K.K (.v (.int k (if y < x then y else x))) h
  | _, _, _ => False

/-- the cells of what is appended or copied: a slice, a text -/
def srcObj (off n sz : Nat) : AO → Option (Nat × List AV)
  | .o _ cs => some (n, (cs.drop off).take (n * sz))
  | _ => none
def srcCells (sz : Nat) : AV → Heap → Option (Nat × List AV)
  | .s id off n, h => srcObj off n sz (h.getD id .dead)
  | .z cs n, _ => some (n, cs.take (n * sz))
  | .v (.string s), _ => some (s.size, ofStr s)
  | .v (.slice none 0 0), _ => some (0, [])
  | _, _ => none

def bigRoom : Nat := 140737488355328

/-- append(x, y...): x's object is no more; what comes is a new one -/
def otherId (id : Nat) : AV → Prop
  | .s j _ _ => j ≠ id
  | _ => True
def a_appo (sz by_ id off len : Nat) (y : AV) : AO → Option (Nat × List AV) → Heap → Kt → Prop
  | .o sz' cs, some (n, new), h, K => (sz' = sz ∧ 0 < sz ∧ 0 < by_ ∧ (len + n) * by_ ≤ bigRoom ∧ off + len * sz ≤ cs.length ∧ new.length = n * sz ∧ otherId id y) ∧
        K.K (.s h.length 0 (len + n)) ((h.set id .dead) ++ [.o sz ((cs.drop off).take (len * sz) ++ new)])
  | _, _, _, _ => False
def a_appn (sz by_ : Nat) : Option (Nat × List AV) → Heap → Kt → Prop
  | some (n, new), h, K => (0 < sz ∧ 0 < by_ ∧ n * by_ ≤ bigRoom ∧ new.length = n * sz) ∧ K.K (.s h.length 0 n) (h ++ [.o sz new])
  | _, _, _ => False
/-- the same, where x stays as it is: what comes stands in its memory, or is a new one -/
def Apk (sz id off len : Nat) (new cs : List AV) (h : Heap) (id' off' : Nat) (h' : Heap) : Prop :=
  (id' = id ∧ off' = off ∧ h' = h.set id (.o sz (cs.take (off + len * sz) ++ new))) ∨ (id' = h.length ∧ off' = 0 ∧ h' = h ++ [.o sz ((cs.drop off).take (len * sz) ++ new)])
def a_appk (sz by_ id off len : Nat) : AO → Option (Nat × List AV) → Heap → Kt → Prop
  | .o sz' cs, some (n, new), h, K => (sz' = sz ∧ 0 < n ∧ 0 < sz ∧ 0 < by_ ∧ (len + n) * by_ ≤ bigRoom ∧ off + len * sz ≤ cs.length ∧ new.length = n * sz) ∧
        ∀ id' off' h', Apk sz id off len new cs h id' off' h' → K.K (.w id' off' (len + n)) h'
  | _, _, _, _ => False
def a_app (sz by_ : Nat) : AV → AV → Heap → Kt → Prop
  | .s id off len, y, h, K => a_appo sz by_ id off len y (h.getD id .dead) (srcCells sz y h) h K
  | .w id off len, y, h, K => a_appk sz by_ id off len (h.getD id .dead) (srcCells sz y h) h K
  | .v (.slice none 0 0), y, h, K => a_appn sz by_ (srcCells sz y h) h K
  | _, _, _, _ => False

/-- append(x, make([]T, n)...): x stays as it is; what comes stands in its memory, or is a new one -/
def Apz (sz id off len n : Nat) (z cs : List AV) (h : Heap) (id' off' : Nat) (h' : Heap) : Prop :=
  (id' = id ∧ off' = off ∧ h' = h.set id (.o sz (cs.take (off + len * sz) ++ (List.replicate n z).flatten))) ∨
  (id' = h.length ∧ off' = 0 ∧ h' = h ++ [.o sz ((cs.drop off).take (len * sz) ++ (List.replicate n z).flatten)])
def a_apzo (sz by_ id off len n : Nat) (z : List AV) : AO → Heap → Kt → Prop
  | .o sz' cs, h, K => (sz' = sz ∧ 0 < n ∧ 0 < sz ∧ 0 < by_ ∧ (len + n) * by_ ≤ bigRoom ∧ off + len * sz ≤ cs.length ∧ z.length = sz ∧ z.all AV.one = true) ∧
        ∀ id' off' h', Apz sz id off len n z cs h id' off' h' → K.K (.s id' off' (len + n)) h'
  | _, _, _ => False
def a_apz (sz by_ : Nat) (z : List AV) : AV → AV → Heap → Kt → Prop
  | .s id off len, .v (.int _ n), h, K => 0 ≤ n ∧ a_apzo sz by_ id off len n.toNat z (h.getD id .dead) h K
  | .v (.slice none 0 0), .v (.int _ n), h, K => (0 ≤ n ∧ 0 < sz ∧ 0 < by_ ∧ n.toNat * by_ ≤ bigRoom ∧ z.length = sz ∧ z.all AV.one = true) ∧ K.K (.s h.length 0 n.toNat) (h ++ [.o sz (List.replicate n.toNat z).flatten])
  | _, _, _, _ => False

/-- copy(x, y), where y is no longer than x -/
def a_cpyo (sz id off len : Nat) : AO → Option (Nat × List AV) → Heap → Kt → Prop
  | .o sz' cs, some (n, new), h, K => (sz' = sz ∧ 0 < len ∧ n ≤ len ∧ off + len * sz ≤ cs.length ∧ new.length = n * sz) ∧ K.K (.v (.int .i64 n)) (h.set id (.o sz (setAt cs off new)))
  | _, _, _, _ => False
def a_cpy (sz : Nat) : AV → AV → Heap → Kt → Prop
  | .s id off len, y, h, K => a_cpyo sz id off len (h.getD id .dead) (srcCells sz y h) h K
  | _, _, _, _ => False

def a_mks (sz by_ : Nat) (z : List AV) : AV → AV → Heap → Kt → Prop
  | .v (.int _ n), .v (.int _ c), h, K => (0 ≤ n ∧ n ≤ c ∧ c.toNat ≤ bigRoom ∧ c.toNat * by_ ≤ bigRoom ∧ z.length = sz ∧ 0 < sz ∧ z.all AV.one = true) ∧ K.K (.s h.length 0 n.toNat) (h ++ [.o sz (List.replicate c.toNat z).flatten])
  | _, _, _, _ => False

/-! maps: keys are numbers (str = false) or texts (str = true); the pairs stand in the order in which their keys came -/
def keq (str : Bool) : AV → AV → Option Bool
  | .v (.int k a), .v (.int k' b) => bif str then none else if k = k' then some (a == b) else none
  | .v (.string a), .v (.string b) => bif str then some (decide (a = b)) else none
  | _, _ => none
def mget (str : Bool) : List (AV × AV) → AV → Option (Option AV)
  | [], k => (keq str k k).map fun _ => none
  | (k', v) :: r, k => match keq str k k' with
    | some true => some (some v)
    | some false => mget str r k
    | none => none
def mput (str : Bool) : List (AV × AV) → AV → AV → Option (List (AV × AV))
  | [], k, v => (keq str k k).map fun _ => [(k, v)]
  | (k', v') :: r, k, v => match keq str k k' with
    | some true => some ((k, v) :: r)
    | some false => (mput str r k v).map fun l => (k', v') :: l
    | none => none
def a_mkm (h : Heap) (K : Kt) : Prop := K.K (.m h.length) (h ++ [.m []])
def a_lkr (ok : Bool) (z : AV) : Option (Option AV) → Heap → Kt → Prop
  | some (some v), h, K => K.K (bif ok then .t [v, .v (.bool true)] else v) h
  | some none, h, K => K.K (bif ok then .t [z, .v (.bool false)] else z) h
  | none, _, _ => False
def a_lko (str ok : Bool) (z k : AV) : AO → Heap → Kt → Prop
  | .m es, h, K => a_lkr ok z (mget str es k) h K
  | _, _, _ => False
def a_lku (str ok : Bool) (z : AV) : AV → AV → Heap → Kt → Prop
  | .m id, k, h, K => a_lko str ok z k (h.getD id .dead) h K
  | .v (.map none), k, h, K => a_lkr ok z (mget str [] k) h K
  | _, _, _, _ => False
def a_upr (id : Nat) : Option (List (AV × AV)) → Heap → Kt → Prop
  | some es, h, K => K.K .bad (h.set id (.m es))
  | none, _, _ => False
def a_upo (str : Bool) (id : Nat) (k x : AV) : AO → Heap → Kt → Prop
  | .m es, h, K => a_upr id (mput str es k x) h K
  | _, _, _ => False
def a_upd (str : Bool) : AV → AV → AV → Heap → Kt → Prop
  | .m id, k, x, h, K => a_upo str id k x (h.getD id .dead) h K
  | _, _, _, _, _ => False
def keyStr (P : Program) (t : TypeId) : Option Bool :=
  match P.underlying t with
  | some (.int _) => some false
  | some .string => some true
  | _ => none
def zval (P : Program) (t : TypeId) : Option AV := match (P.info? t).bind (·.zero) with
  | some (.agg _) => none
  | some (.tuple _) => none
  | some v => some (.v v)
  | none => none

def concrete (P : Program) (t : TypeId) : Bool :=
  match P.underlying t with
  | none => false
  | some (.interface _) => false
  | some _ => true
def a_mki (t : TypeId) (x : AV) (h : Heap) (K : Kt) : Prop := K.K (.i t x) h
def a_mkf (fn : Fn) (a b : List AV) (h : Heap) (K : Kt) : Prop := K.K (.f fn a b) h

/-- a choice that the kernel unfolds ahead of all else -/
abbrev pk {α : Sort _} (b : Bool) (x y : α) : α := match b with
  | true => x
  | false => y

/-- one operation, but a call of a function -/
def aop (X : Ctx) (o : Op) (ρ : Operand → AV) (h : Heap) (K : Kt) : Prop :=
  match o with
  | .move x | .assign x => a_mov (ρ x) h K
  | .pick c a b => a_pick (ρ c) (ρ a) (ρ b) h K
  | .alloc e => match zeroOf X.P e with
    | some z => a_alloc z h K
    | none => False
  | .box _ x => a_box (ρ x) h K
  | .build t ps => match zeroOf X.P t, tkOf X.P t with
    | some z, .st _ fs => pk (ps.toList.all (fun p => decide (p.1 < fs.length))) (a_build z (ps.toList.map fun (i, x) => ((fs.getD i (0, 0, false)).1, (fs.getD i (0, 0, false)).2.1, ρ x)) h K) False
    | some z, .ar _ _ sz => a_build z (ps.toList.map fun (i, x) => (i * sz, sz, ρ x)) h K
    | _, _ => False
  | .buildSlice t n ps => match tkOf X.P t with
    | .sl e sz _ => match zeroOf X.P e with
      | some z => a_lit sz n (List.replicate n z).flatten (ps.toList.map fun (i, x) => (i * sz, sz, ρ x)) h K
      | none => False
    | _ => False
  | .load t a => a_load (tkOf X.P t).size (tkOf X.P t).agg (ρ a) h K
  | .store t a x => a_store (tkOf X.P t).size (ρ a) (ρ x) h K
  | .nilCheck x => a_nilc (ρ x) h K
  | .binOp op t x y _ => match tkOf X.P t with
    | .int _ => a_bin op (ρ x) (ρ y) h K
    | .str => a_bins op (ρ x) (ρ y) h K
    | .bool => match op with
      | .eql => a_eqb false (ρ x) (ρ y) h K
      | .neq => a_eqb true (ρ x) (ρ y) h K
      | _ => False
    | .ptr _ => match op with
      | .eql => a_eqp false (ρ x) (ρ y) h K
      | .neq => a_eqp true (ρ x) (ρ y) h K
      | _ => False
    | .mp _ _ => match op with
      | .eql => a_eqm false (ρ x) (ρ y) h K
      | .neq => a_eqm true (ρ x) (ρ y) h K
      | _ => False
    | .st _ _ => match eqKinds X.P t with
      | some ks => match op with
        | .eql => a_eqs false ks (ρ x) (ρ y) h K
        | .neq => a_eqs true ks (ρ x) (ρ y) h K
        | _ => False
      | none => False
    | .ar _ _ _ => match eqKinds X.P t with
      | some ks => match op with
        | .eql => a_eqs false ks (ρ x) (ρ y) h K
        | .neq => a_eqs true ks (ρ x) (ρ y) h K
        | _ => False
      | none => False
    | _ => False
  | .unOp op _ x => a_un op (ρ x) h K
  | .convert s d x => match tkOf X.P s, tkOf X.P d with
    | .int _, .int k => a_cint k (ρ x) h K
    | .str, .str => a_s2s (ρ x) h K
    | .sl e _ _, .str => match tkOf X.P e with
      | .int .u8 => a_cstr (ρ x) h K
      | _ => False
    | .str, .sl e 1 _ => match tkOf X.P e with
      | .int .u8 => a_s2b (ρ x) h K
      | _ => False
    | .sl e _ _, .sl _ _ _ => match tkOf X.P e with
      | .int .u8 => pk (Nat.beq s d) (a_sl2 (ρ x) h K) False
      | _ => False
    | _, _ => False
  | .slice t x lo hi mx => match tkOf X.P t with
    | .sl _ sz _ => a_slice sz (ρ x) (lo.map ρ) (hi.map ρ) (mx.map ρ) h K
    | .str => match mx with
      | none => a_sstr (ρ x) (lo.map ρ) (hi.map ρ) h K
      | some _ => False
    | .ar n _ sz => match mx with
      | none => a_sarr n sz (ρ x) (lo.map ρ) (hi.map ρ) h K
      | some _ => False
    | _ => False
  | .sliceToArrayPointer t x => match tkOf X.P t with
    | .ar n _ _ => a_s2a n (ρ x) h K
    | _ => False
  | .fieldAddr t x f => match tkOf X.P t with
    | .st _ fs => pk (decide (f < fs.length)) (a_fa (fs.getD f (0, 0, false)).1 (ρ x) h K) False
    | _ => False
  | .field t x f => match tkOf X.P t with
    | .st _ fs => pk (decide (f < fs.length)) (a_fld (fs.getD f (0, 0, false)).1 (fs.getD f (0, 0, false)).2.1 (fs.getD f (0, 0, false)).2.2 (ρ x) h K) False
    | _ => False
  | .indexAddr t x i => match tkOf X.P t with
    | .sl _ sz _ => a_ia sz (ρ x) (ρ i) h K
    | .ar n _ sz => a_iarr n sz (ρ x) (ρ i) h K
    | _ => False
  | .index t x i => match tkOf X.P t with
    | .str => a_ixs (ρ x) (ρ i) h K
    | .ar n e sz => pk ((tkOf X.P e).known && decide (0 < sz)) (a_ixa n sz (tkOf X.P e).agg (ρ x) (ρ i) h K) False
    | _ => False
  | .extract x i => a_ext i (ρ x) h K
  | .makeSlice t l c => match tkOf X.P t with
    | .sl e sz by_ => match zeroOf X.P e with
      | some z => a_mks sz by_ z (ρ l) (ρ c) h K
      | none => False
    | _ => False
  | .makeMap _ none => a_mkm h K
  | .lookup t m k ok => match tkOf X.P t with
    | .mp kt e => match keyStr X.P kt, zval X.P e with
      | some s, some z => a_lku s ok z (ρ m) (ρ k) h K
      | _, _ => False
    | _ => False
  | .mapUpdate t m k x => match tkOf X.P t with
    | .mp kt _ => match keyStr X.P kt with
      | some s => a_upd s (ρ m) (ρ k) (ρ x) h K
      | none => False
    | _ => False
  | .insert t m k x => match tkOf X.P t with
    | .mp kt _ => match keyStr X.P kt with
      | some s => a_upd s (ρ m) (ρ k) (ρ x) h K
      | none => False
    | _ => False
  | .makeInterface t x => pk (concrete X.P t) (a_mki t (ρ x) h K) False
  | .makeFunc fn a b => a_mkf fn (a.toList.map ρ) (b.toList.map ρ) h K
  | .call c => match c.callee with
    | .builtin b => match b, c.args.toList.map ρ, c.argTypes.toList.map (tkOf X.P) with
      | .len, [x], [.sl _ _ _] => a_len x h K
      | .len, [x], [.str] => a_lens x h K
      | .len, [x], [.mp _ _] => a_lenm x h K
      | .max, l, _ => a_max l h K
      | .min, l, _ => a_min l h K
      | .append, [x, y], [.sl _ sz by_, .sl _ _ _] => a_app sz by_ x y h K
      | .append, [x, y], [.sl _ sz by_, .str] => a_app sz by_ x y h K
      | .append, [x, y], [.sl e sz by_, .int _] => match zeroOf X.P e with
        | some z => a_apz sz by_ z x y h K
        | none => False
      | .copy, [x, y], [.sl _ sz _, .sl _ _ _] => a_cpy sz x y h K
      | .copy, [x, y], [.sl _ sz _, .str] => a_cpy sz x y h K
      | _, _, _ => False
    | _ => False
  | _ => False

/-- an operation that is carried out only where a value says so (nothing unfolds it by itself) -/
def und : AV := .v undef
def onR : AV → Bool → (Kt → Prop) → Heap → Kt → Prop
  | .v (.bool t), b, op, h, K => (t = b → op K) ∧ (t ≠ b → K.K und h)
  | .v (.tuple _), _, _, h, K => K.K und h
  | _, _, _, _, _ => False
theorem on_there : ∃ f : AV → Bool → (Kt → Prop) → Heap → Kt → Prop, f = onR := ⟨_, rfl⟩
noncomputable def a_on : AV → Bool → (Kt → Prop) → Heap → Kt → Prop := Classical.choose on_there
theorem a_on_eq : a_on = onR := Classical.choose_spec on_there
theorem a_on_bool (t b : Bool) (op : Kt → Prop) (h : Heap) (K : Kt) : a_on (.v (.bool t)) b op h K = ((t = b → op K) ∧ (t ≠ b → K.K und h)) := by rw [a_on_eq]; rfl
theorem a_on_und (b : Bool) (op : Kt → Prop) (h : Heap) (K : Kt) : a_on und b op h K = K.K und h := by rw [a_on_eq]; rfl
abbrev onG (tm : List AV) (ops : Array Oper) (g : Option (Nat × Bool)) (op : Kt → Prop) (h : Heap) (K : Kt) : Prop :=
  match g with
  | none => op K
  | some (j, b) => match (ops[j]?).bind (·.dst) with
    | some d => a_on (tm.getD d .bad) b op h K
    | none => False

def put (tm : List AV) : Option Nat → AV → List AV
  | some d, v => tm.set d v
  | none, _ => tm

/-- a list, with its spine reckoned out -/
noncomputable abbrev forceL {β : Type} (l : List AV) (k : List AV → β) : β := List.rec (motive := fun _ => (List AV → β) → β) (fun k => k []) (fun a _ f k => f fun r' => k (a :: r')) l k
theorem forceL_eq {β : Type} : ∀ (l : List AV) (k : List AV → β), forceL l k = k l
  | [], _ => rfl
  | _ :: r, _ => forceL_eq r _

inductive AExit where
  | normal
  | exit (id : Nat)
  | ret

abbrev Qt := AExit → St → Prop

end Go.Ab

namespace Go.Ab

/-! What an abstract value says of a value, a heap of a world. -/
abbrev Mu := Nat → Option (Nat × Nat × Nat)   -- an object's block, the cell where it begins, an element's cells

mutual
inductive RV (μ : Mu) (Z : Nat → Prop) (w : World) : Value → AV → Prop
  | v (x : Value) : RV μ Z w x (.v x)
  | p {id off b o sz : Nat} : μ id = some (b, o, sz) → RV μ Z w (.pointer (some ⟨b, o + off, none⟩)) (.p id off)
  | s {id off len b o sz cap : Nat} {c : Array Value} {e : TypeId} {f : Nat × Nat} : μ id = some (b, o, sz) → len ≤ cap → w.heap[b]? = some (.cells c e f) → o + off + cap * sz ≤ c.size →
      RV μ Z w (.slice (some ⟨b, o + off, none⟩) len cap) (.s id off len)
  | snil {id off : Nat} {A : Option Addr} : RV μ Z w (.slice A 0 0) (.s id off 0)
  | w {x : Value} {id off len : Nat} : RV μ Z w x (.s id off len) → RV μ Z w x (.w id off len)
  | z {A : Option Addr} {len cap : Nat} {us : List Value} {cs : List AV} : RVs μ Z w us cs →
      (∀ (j : Nat) (u : Value), us[j]? = some u → ∃ ad : Addr, A = some ad ∧ Z ad.block ∧ w.cell? (ad.add j) = some u ∧ u.oneCell' = true) → len ≤ cap → RV μ Z w (.slice A len cap) (.z cs len)
  | q {b o off : Nat} {us : List Value} {cs : List AV} : RVs μ Z w us cs → (∀ (j : Nat) (u : Value), us[j]? = some u → Z b ∧ w.cell? ⟨b, o + j, none⟩ = some u ∧ u.oneCell' = true) →
      RV μ Z w (.pointer (some ⟨b, o + off, none⟩)) (.q cs off)
  | g {us : List Value} {cs : List AV} : RVs μ Z w us cs → RV μ Z w (.agg us.toArray) (.g cs)
  | t {us : List Value} {cs : List AV} : RVs μ Z w us cs → RV μ Z w (.tuple us.toArray) (.t cs)
  | f {fn : Fn} {us vs : List Value} {as bs : List AV} : RVs μ Z w us as → RVs μ Z w vs bs → RV μ Z w (.func fn us.toArray vs.toArray) (.f fn as bs)
  | i {t : TypeId} {x : Value} {a : AV} : RV μ Z w x a → RV μ Z w (.iface t x) (.i t a)
  | m {id b o sz : Nat} : μ id = some (b, o, sz) → RV μ Z w (.map (some b)) (.m id)
  | bad (x : Value) : RV μ Z w x .bad
inductive RVs (μ : Mu) (Z : Nat → Prop) (w : World) : List Value → List AV → Prop
  | nil : RVs μ Z w [] []
  | cons {x : Value} {a : AV} {xs : List Value} {as : List AV} : RV μ Z w x a → RVs μ Z w xs as → RVs μ Z w (x :: xs) (a :: as)
end

/-- an object's block says what the object says -/
def RO (μ : Mu) (Z : Nat → Prop) (w : World) (id : Nat) : AO → Prop
  | .dead => True
  | .o sz cs => match μ id with
    | none => cs = []
    | some (b, o, sz') => sz' = sz ∧ ¬ Z b ∧ ∃ c e f us, w.heap[b]? = some (.cells c e f) ∧ (c.size ≤ f.1 ∨ f.1 = f.2) ∧ o + cs.length ≤ c.size ∧
        (∀ (j : Nat) (u : Value), us[j]? = some u → c[o + j]? = some u ∧ u.oneCell' = true) ∧ RVs μ Z w us cs
  | .m es => ∃ b o sz ents clock ks vs, μ id = some (b, o, sz) ∧ ¬ Z b ∧ w.heap[b]? = some (.map ents clock) ∧
        ents.toList.map (·.key) = ks ∧ ents.toList.map (·.val) = vs ∧ RVs μ Z w ks (es.map (·.1)) ∧ RVs μ Z w vs (es.map (·.2))
  | .k b f tm => ∃ o sz us, μ id = some (b, o, sz) ∧ ¬ Z b ∧ w.heap[b]? = some (f us) ∧ RVs μ Z w us.toList tm

/-- lives: not dead, and has a block -/
def lives (μ : Mu) (h : Heap) (id b : Nat) : Prop := h.getD id .dead ≠ .dead ∧ ∃ o sz, μ id = some (b, o, sz)
def foot (μ : Mu) (h : Heap) (b : Nat) : Prop := ∃ id, lives μ h id b

structure HR (X : Ctx) (μ : Mu) (Z : Nat → Prop) (w : World) (h : Heap) : Prop where
  obj : ∀ id, RO μ Z w id (h.getD id .dead)
  inj : ∀ i j b, lives μ h i b → lives μ h j b → i = j
  zlt : ∀ b, Z b → b < w.heap.size
  dom : ∀ id, h.length ≤ id → μ id = none
  apart : ∀ b, foot μ h b → ¬ Z b
  glob : ∀ g, X.glob g ≠ [] → ∃ us, RVs μ Z w us (X.glob g) ∧ (∀ (j : Nat) (u : Value), us[j]? = some u → Z g ∧ w.cell? ⟨g, j, none⟩ = some u ∧ u.oneCell' = true)

/-- what a run from one world to another may turn -/
structure Ext (M : Nat → Prop) (μ : Mu) (Z : Nat → Prop) (w : World) (n : Nat) (μ' : Mu) (Z' : Nat → Prop) (w' : World) (h' : Heap) : Prop where
  mu : ∀ id, id < n → μ' id = μ id
  z1 : ∀ b, Z b → Z' b
  z2 : ∀ b, Z' b → Z b ∨ M b ∨ w.heap.size ≤ b
  os : w'.os = w.os
  tape : w'.tape = w.tape
  output : w'.output = w.output
  size : w.heap.size ≤ w'.heap.size
  block : ∀ b, b < w.heap.size → ¬ M b → w'.heap[b]? = w.heap[b]?
  cells : ∀ (b : Nat) (c : Array Value) (e : TypeId) (f : Nat × Nat), w.heap[b]? = some (Obj.cells c e f) → ∃ (c' : Array Value) (f' : Nat × Nat), w'.heap[b]? = some (Obj.cells c' e f') ∧ c'.size = c.size
  foot : ∀ b, foot μ' h' b → M b ∨ w.heap.size ≤ b
  len : n ≤ h'.length

/-- a call of function f returns: a function with a body is entered, others answer themselves -/
def Runs (P : Program) (f : FuncId) (vs : Array Value) (w : World) (R : Value → World → Prop) : Prop :=
  ((callFunc f vs).run P w = .ok (.enter f vs) w ∧ Calls P f vs w fun e w' => ∃ v, e = .returned v ∧ R v w') ∨
  (∃ v w', (callFunc f vs).run P w = .ok (.value v) w' ∧ R v w') ∨
  (∃ row args w1, (callFunc f vs).run P w = .ok (.row row args) w1 ∧ Rows P row args w1 R)

/-- a call of function f on such arguments, in such a heap, returns, and K holds of what it leaves -/
def ACall (X : Ctx) (f : FuncId) (args : List AV) (h : Heap) (K : Kt) : Prop :=
  ∀ μ Z w vs, HR X μ Z w h → RVs μ Z w vs args →
    Runs X.P f vs.toArray w fun v w' => ∃ r h' μ' Z', K.K r h' ∧ HR X μ' Z' w' h' ∧ RV μ' Z' w' v r ∧ Ext (foot μ h) μ Z w h.length μ' Z' w' h'

/-- the machine's fence: none, in a round or not -/
def Fr (ro : Option Nat) : Fence := { Fence.wide with round := ro }
/-- a code without a range over a function -/
def plainC : Code → Bool
  | .seq a b => plainC a && plainC b
  | .cond _ a b => plainC a && plainC b
  | .block _ a => plainC a
  | .loop a => plainC a
  | .scope a => plainC a
  | .rangeFunc _ _ _ _ => false
  | _ => true
/-- what ranges over functions have left among the deferred calls -/
def Marks (B : Nat) (F Z : Nat → Prop) (w : World) (ds : List Deferred) : Prop :=
  B ≤ w.heap.size ∧ ∃ Ds : List Nat, ds = Ds.map (fun D => ({ target := .collected D, args := #[] } : Deferred)) ∧ Ds.Nodup ∧ ∀ D ∈ Ds, B ≤ D ∧ w.heap[D]? = some (.deferred (some [])) ∧ ¬ F D ∧ ¬ Z D
/-- a call of yield on such arguments, in such a heap, returns, and K holds of what it leaves -/
def AYield (X : Ctx) (l : Nat) (args : List AV) (h : Heap) (K : Kt) : Prop :=
  ∀ μ Z w vs, HR X μ Z w h → RVs μ Z w vs args →
    ∃ f tmps x y, (Instr.yield l vs.toArray).run X.P w = .ok (.round l f tmps x y) w ∧ RoundIn (Fr none) 0 X.P l f tmps x y w fun e w' => ∃ v, e = .returned v ∧
      ∃ r h' μ' Z', K.K r h' ∧ HR X μ' Z' w' h' ∧ RV μ' Z' w' v r ∧ Ext (foot μ h) μ Z w h.length μ' Z' w' h'

def ex : AExit → Exit
  | .normal => .normal
  | .exit id => .exit id
  | .ret => .ret

/-- a code, as it is meant: ids below n keep their place -/
def AW (X : Ctx) (n : Nat) (c : Code) (Q : Qt) (st : St) : Prop :=
  n ≤ st.2.length ∧ ∀ ro, (plainC c = true ∨ ro = none) → ∀ B μ Z a w, HR X μ Z w st.2 → RVs μ Z w a.tmps.toList st.1 → Marks B (foot μ st.2) Z w a.defers →
    c.wpIn (Fr ro) 0 X.P (fun e a' w' => ∃ e' st' μ' Z', e = ex e' ∧ Q e' st' ∧ HR X μ' Z' w' st'.2 ∧ RVs μ' Z' w' a'.tmps.toList st'.1 ∧ Marks B (foot μ' st'.2) Z' w' a'.defers ∧
      Ext (foot μ st.2) μ Z w n μ' Z' w' st'.2) a w

/-- a loop, as it is meant -/
def ALoop (X : Ctx) (n : Nat) (c : Code) (Q : Qt) (st : St) : Prop := AW X n (.loop c) Q st
/-- a range over a function, as it is meant -/
def ARange (X : Ctx) (n : Nat) (g : Operand) (ps : Array Tmp) (x y : Code) (Q : Qt) (st : St) : Prop := AW X n (.rangeFunc g ps x y) Q st

def aopc (X : Ctx) (o : Op) (ρ : Operand → AV) (h : Heap) (K : Kt) : Prop :=
  match o with
  | .call c => match c.callee with
    | .value f => match ρ f with
      | .f (.func f) a b => ACall X f (a ++ c.args.toList.map ρ ++ b) h K
      | .f (.yield l) a [] => AYield X l (a ++ c.args.toList.map ρ) h K
      | _ => False
    | _ => aop X o ρ h K
  | o => aop X o ρ h K

/-- a call of what a value is (the same, for the equations) -/
def a_callv (X : Ctx) : AV → List AV → Heap → Kt → Prop
  | .f (.func f) a b, args, h, K => ACall X f (a ++ args ++ b) h K
  | .f (.yield l) a [], args, h, K => AYield X l (a ++ args) h K
  | _, _, _, _ => False

noncomputable def aops (X : Ctx) (ops : Array Oper) : List Oper → St → (St → Prop) → Prop
  | [], st, K => K st
  | o :: r, st, K => onG st.1 ops o.guard (fun k => aopc X o.op (evl X st.1) st.2 k) st.2 (.c (fun v h' => forceL (put st.1 o.dst v) fun tm => aops X ops r (tm, h') K) ())

/-! A region that draws its order. -/
/-- needs no heap -/
def pureOp (X : Ctx) : Op → Bool
  | .convert _ d _ => match tkOf X.P d with
    | .int _ => true
    | _ => false
  | .move _ | .assign _ | .pick .. | .build .. | .nilCheck _ | .sliceToArrayPointer .. | .binOp .. | .unOp .. | .fieldAddr .. | .field .. | .indexAddr .. | .index .. | .extract .. | .makeInterface .. | .makeFunc .. => true
  | .call c => match c.callee with
    | .builtin .max | .builtin .min => true
    | _ => false
  | _ => false
/-- leaves the heap as it is -/
def readOp (X : Ctx) : Op → Bool
  | .load .. | .slice .. | .lookup .. => true
  | .convert _ d _ => match tkOf X.P d with
    | .int _ => true
    | .str => true
    | _ => false
  | .call c => match c.callee with
    | .builtin .len | .builtin .max | .builtin .min => true
    | _ => false
  | o => pureOp X o

def needs (o : Oper) : List Nat := (o.after.toList.filter (fun e => Region.binds .any e)).map (·.on)
/-- a number, reckoned out -/
abbrev force {β : Type} (n : Nat) (k : Nat → β) : β :=
  match n with
  | 0 => k 0
  | m + 1 => k (m + 1)
/-- of each operation the set of those that must have been carried out: row i of n bits -/
def row (n T i : Nat) : Nat := (T >>> (i * n)) &&& (2 ^ n - 1)
def anc (n T i j : Nat) : Bool := Nat.testBit T (i * n + j)
def ancsGo (n : Nat) : List Oper → Nat → Nat → Nat
  | [], _, T => T
  | o :: r, i, T => force ((needs o).foldl (fun m j => m ||| (1 <<< j) ||| row n T j) 0) fun m => force (T ||| (m <<< (i * n))) fun T' => ancsGo n r (i + 1) T'
def ancs (ops : Array Oper) : Nat := ancsGo ops.size ops.toList 0 0

def conj : List Prop → Prop
  | [] => True
  | p :: ps => p ∧ conj ps

def opReads (ops : Array Oper) (o : Oper) : List Nat :=
  (o.op.operands.toList.filterMap fun | .tmp t => some t | _ => none) ++ (match o.guard with | some (j, _) => ((ops[j]?).bind (·.dst)).toList | none => [])
def clash (ops : Array Oper) (x y : Oper) : Bool :=
  (match x.dst with | some d => (opReads ops y).contains d || y.dst == some d | none => false) ||
  (match y.dst with | some d => (opReads ops x).contains d | none => false)
/-- what shares a slot stands in an order -/
def slotsGo (ops : Array Oper) (n T : Nat) : List Oper → Nat → List (Nat × Oper) → Bool
  | [], _, _ => true
  | o :: r, i, seen => seen.all (fun p => anc n T i p.1 || !clash ops o p.2) && slotsGo ops n T r (i + 1) ((i, o) :: seen)
/-- what must have been carried out: what it is told to need, and what that needs -/
def needRow (n T : Nat) (o : Oper) : Nat := (needs o).foldl (fun m j => m ||| (1 <<< j) ||| row n T j) 0
def needGo (n T : Nat) : List Oper → Nat → Bool
  | [], _ => true
  | o :: r, i => force (needRow n T o) fun m => row n T i == m && (needs o).all (fun j => decide (j < n)) && needGo n T r (i + 1)

/-- the order in which a region that draws is run here: what leaves the heap alone as early as may be -/
def isRead (X : Ctx) (ops : Array Oper) (i : Nat) : Bool := match ops[i]? with
  | some o => readOp X o.op
  | none => false
def readsGo (X : Ctx) : List Oper → Nat → Nat → Nat
  | [], _, m => m
  | o :: r, i, m => force (bif readOp X o.op then m ||| (1 <<< i) else m) fun m' => readsGo X r (i + 1) m'
def firstBit (m : Nat) : Nat → Nat → Option Nat
  | 0, _ => none
  | f + 1, i => bif m.testBit i then some i else firstBit m f (i + 1)
def readySet (n T done : Nat) : Nat → Nat → Nat → Nat
  | 0, _, m => m
  | f + 1, i, m => bif !done.testBit i && row n T i &&& done == row n T i then readySet n T done f (i + 1) (m ||| (1 <<< i)) else readySet n T done f (i + 1) m
def orderGo (n T rd : Nat) : Nat → Nat → List Nat
  | 0, _ => []
  | f + 1, done => force (readySet n T done n 0 0) fun m => match (bif m &&& rd == 0 then firstBit m n 0 else firstBit (m &&& rd) n 0) with
    | some i => force i fun i => i :: force (done ||| (1 <<< i)) fun d => orderGo n T rd f d
    | none => []
def order (X : Ctx) (ops : Array Oper) (T : Nat) : List Nat := force (readsGo X ops.toList 0 0) fun rd => orderGo ops.size T rd ops.size 0
/-- the order's law: each stands behind what it waits for; behind an effect stands what waits for it alone. done: a set; effs: the effects among it -/
def orderOk (n T rd : Nat) : List Nat → Nat → Nat → Bool
  | [], done, _ => done == 2 ^ n - 1
  | i :: r, done, effs => decide (i < n) && !done.testBit i && row n T i &&& done == row n T i && row n T i &&& effs == effs &&
      force (done ||| (1 <<< i)) fun d => force (bif rd.testBit i then effs else effs ||| (1 <<< i)) fun e => orderOk n T rd r d e
def planOk (X : Ctx) (ops : Array Oper) (T : Nat) : Bool :=
  needGo ops.size T ops.toList 0 && slotsGo ops ops.size T ops.toList 0 [] && force (readsGo X ops.toList 0 0) fun rd => orderOk ops.size T rd (order X ops T) 0 0

/-! Where the first effects stand in no order: what reads ahead of them, and a run for each that may come first. -/
def readsFst (n T rd : Nat) : Nat → Nat → List Nat
  | 0, _ => []
  | f + 1, done => force (readySet n T done n 0 0) fun m => match firstBit (m &&& rd) n 0 with
    | some i => force i fun i => i :: force (done ||| (1 <<< i)) fun d => readsFst n T rd f d
    | none => []
def bitsOf (l : List Nat) : Nat := l.foldl (fun m i => m ||| (1 <<< i)) 0
def forkA (X : Ctx) (ops : Array Oper) (T : Nat) : List Nat := force (readsGo X ops.toList 0 0) fun rd => readsFst ops.size T rd ops.size 0
def forkE (X : Ctx) (ops : Array Oper) (T : Nat) : List Nat := force (bitsOf (forkA X ops T)) fun d => force (readySet ops.size T d ops.size 0 0) fun m => (List.range ops.size).filter fun i => m.testBit i
def forkB (X : Ctx) (ops : Array Oper) (T e : Nat) : List Nat := force (readsGo X ops.toList 0 0) fun rd => force (bitsOf (forkA X ops T) ||| (1 <<< e)) fun d => orderGo ops.size T rd ops.size d
def forkOk (X : Ctx) (ops : Array Oper) (T : Nat) : Bool :=
  needGo ops.size T ops.toList 0 && slotsGo ops ops.size T ops.toList 0 [] && force (readsGo X ops.toList 0 0) fun rd =>
    force (bitsOf (forkA X ops T)) fun bA => !(forkE X ops T).isEmpty &&
    (forkA X ops T).all (fun i => rd.testBit i && row ops.size T i &&& bA == row ops.size T i) &&
    (forkE X ops T).all (fun e => decide (e < ops.size) && !rd.testBit e && row ops.size T e &&& bA == row ops.size T e && orderOk ops.size T rd (forkA X ops T ++ forkB X ops T e) (1 <<< e) 0) &&
    (List.range ops.size).all (fun i => !(row ops.size T i &&& rd == row ops.size T i) || (forkA X ops T).contains i || (forkE X ops T).contains i)
def conj1 : List Prop → Prop
  | [] => True
  | [p] => p
  | p :: q :: ps => p ∧ conj1 (q :: ps)

noncomputable def drun (X : Ctx) (ops : Array Oper) (T : Nat) : List Nat → St → List (Nat × (Heap → Prop)) → (St → Prop) → Prop
  | [], st, _, K => K st
  | i :: r, st, recs, K => match ops[i]? with
    | none => False
    | some o =>
      pk (pureOp X o.op) (
        onG st.1 ops o.guard (fun k => aopc X o.op (evl X st.1) st.2 k) st.2 (.c (fun v h' => forceL (put st.1 o.dst v) fun tm => drun X ops T r (tm, h') recs K) ())) (pk (readOp X o.op) (
        onG st.1 ops o.guard (fun k => aopc X o.op (evl X st.1) st.2 k) st.2 (.c (fun v h' =>
          forceL (put st.1 o.dst v) fun tm => drun X ops T r (tm, h') ((i, fun hh => onG st.1 ops o.guard (fun k => aopc X o.op (evl X st.1) hh k) hh (.c (fun v' _ => v' = v) ())) :: recs) K) ())) (
        onG st.1 ops o.guard (fun k => aopc X o.op (evl X st.1) st.2 k) st.2 (.c (fun v h' =>
          conj ((recs.filter fun e => !anc ops.size T i e.1).map fun e => e.2 h') ∧ forceL (put st.1 o.dst v) fun tm => drun X ops T r (tm, h') recs K) ())))
/-- the same for what reads, with what is to be asked again -/
noncomputable def drunR (X : Ctx) (ops : Array Oper) : List Nat → St → List (Nat × (Heap → Prop)) → (St → List (Nat × (Heap → Prop)) → Prop) → Prop
  | [], st, recs, K => K st recs
  | i :: r, st, recs, K => match ops[i]? with
    | none => False
    | some o =>
      pk (pureOp X o.op) (
        onG st.1 ops o.guard (fun k => aopc X o.op (evl X st.1) st.2 k) st.2 (.c (fun v h' => forceL (put st.1 o.dst v) fun tm => drunR X ops r (tm, h') recs K) ())) (
        onG st.1 ops o.guard (fun k => aopc X o.op (evl X st.1) st.2 k) st.2 (.c (fun v h' =>
          forceL (put st.1 o.dst v) fun tm => drunR X ops r (tm, h') ((i, fun hh => onG st.1 ops o.guard (fun k => aopc X o.op (evl X st.1) hh k) hh (.c (fun v' _ => v' = v) ())) :: recs) K) ()))
def thenQ (k : St → Prop) (Q : Qt) : Qt
  | .normal, st => k st
  | .exit id, st => Q (.exit id) st
  | .ret, st => Q .ret st
def blockQ (id : Nat) (Q : Qt) : Qt
  | .exit id', st => bif Nat.beq id' id then Q .normal st else Q (.exit id') st
  | .normal, st => Q .normal st
  | .ret, st => Q .ret st

def a_cond : AV → Prop → Prop → Prop
  | .v (.bool t), A, B => (t = true → A) ∧ (t = false → B)
  | _, _, _ => False

noncomputable def awpR (X : Ctx) (n : Nat) : Code → Qt → St → Prop
  | .skip, Q, st => Q .normal st
  | .label _, Q, st => Q .normal st
  | .region _ ops d, Q, st => pk d (force (ancs ops) fun T => pk (planOk X ops T) (drun X ops T (order X ops T) st [] (Q .normal)) (pk (forkOk X ops T) (drunR X ops (forkA X ops T) st [] fun st recs => conj1 ((forkE X ops T).map fun e => drun X ops T (e :: forkB X ops T e) st recs (Q .normal))) False)) (aops X ops ops.toList st (Q .normal))
  | .seq a b, Q, st => awpR X n a (thenQ (awpR X n b Q) Q) st
  | .cond c a b, Q, st => a_cond (evl X st.1 c) (awpR X n a Q st) (awpR X n b Q st)
  | .block id c, Q, st => awpR X n c (blockQ id Q) st
  | .loop c, Q, st => ALoop X n c Q st
  | .exit id, Q, st => Q (.exit id) st
  | .ret, Q, st => Q .ret st
  | .scope c, Q, st => awpR X n c Q st
  | .rangeFunc g ps x y, Q, st => ARange X n g ps x y Q st
  | _, _, _ => False

/-- the same, which nothing unfolds by itself -/
theorem awp_there : ∃ f : Ctx → Nat → Code → Qt → St → Prop, f = awpR := ⟨_, rfl⟩
noncomputable def awp : Ctx → Nat → Code → Qt → St → Prop := Classical.choose awp_there
theorem awp_eq : awp = awpR := Classical.choose_spec awp_there

/-- a function's results -/
def aresL (X : Ctx) (h : Heap) (tm : List AV) : List ResultVar → List AV → (List AV → Prop) → Prop
  | [], acc, K => K acc
  | .tmp t :: r, acc, K => aresL X h tm r (acc ++ [tm.getD t .bad]) K
  | .cell a t :: r, acc, K => a_load (tkOf X.P t).size (tkOf X.P t).agg (tm.getD a .bad) h (.c (fun v _ => aresL X h tm r (acc ++ [v]) K) ())
def aresK (h : Heap) (K : Kt) : List AV → Prop
  | [v] => K.K v h
  | vs => K.K (.t vs) h
def ares (X : Ctx) (fn : Func) (K : Kt) (st : St) : Prop := aresL X st.2 st.1 fn.results.toList [] (aresK st.2 K)
def retQ (X : Ctx) (fn : Func) (K : Kt) : Qt
  | .exit _, _ => False
  | _, st => ares X fn K st

def cl : Code → Code
  | .seq a _ => a
  | .cond _ a _ => a
  | .block _ a => a
  | .loop a => a
  | .scope a => a
  | .rangeFunc _ _ a _ => a
  | c => c
def cr : Code → Code
  | .seq _ b => b
  | .cond _ _ b => b
  | .rangeFunc _ _ _ b => b
  | c => c
def bodyOf (f : Func) : Code := f.body.getD .skip
def frameOf (f : Func) (args : List AV) : List AV := args ++ List.replicate (f.ntmps - args.length) .bad

end Go.Ab

namespace Go.Ab

/-- what keeps abstract values true -/
structure Mov (μ : Mu) (Z : Nat → Prop) (w : World) (μ' : Mu) (Z' : Nat → Prop) (w' : World) : Prop where
  mu : ∀ id x, μ id = some x → μ' id = some x
  z : ∀ b, Z b → Z' b
  block : ∀ b, Z b → w'.heap[b]? = w.heap[b]?
  cells : ∀ (b : Nat) (c : Array Value) (e : TypeId) (f : Nat × Nat), w.heap[b]? = some (Obj.cells c e f) → ∃ (c' : Array Value) (f' : Nat × Nat), w'.heap[b]? = some (Obj.cells c' e f') ∧ c'.size = c.size

theorem cell_same {w w' : World} {a : Addr} (h : w'.heap[a.block]? = w.heap[a.block]?) : w'.cell? a = w.cell? a := by
  unfold World.cell?; rw [h]

theorem add_block (a : Addr) (n : Nat) : (a.add n).block = a.block := by unfold Addr.add; split <;> rfl

mutual
theorem RV.mono {μ Z w μ' Z' w'} (m : Mov μ Z w μ' Z' w') {v : Value} {a : AV} : RV μ Z w v a → RV μ' Z' w' v a
  | .v x => .v x
  | .p h => .p (m.mu _ _ h)
  | .s (c := c) (e := e) (f := f) h h1 h2 h3 => by
    obtain ⟨c', f', hc, hs⟩ := m.cells _ c e f h2
    exact .s (m.mu _ _ h) h1 hc (by rw [hs]; exact h3)
  | .snil => .snil
  | .w h => .w (RV.mono m h)
  | .z h h1 h2 => .z (RVs.mono m h) (fun j u hu => by
      obtain ⟨ad, e, hz, hc, h1c⟩ := h1 j u hu
      exact ⟨ad, e, m.z _ hz, (cell_same (by rw [add_block]; exact m.block _ hz)).trans hc, h1c⟩) h2
  | .q h h1 => .q (RVs.mono m h) (fun j u hu => by
      obtain ⟨hz, hc, h1c⟩ := h1 j u hu
      exact ⟨m.z _ hz, (cell_same (m.block _ hz)).trans hc, h1c⟩)
  | .g h => .g (RVs.mono m h)
  | .t h => .t (RVs.mono m h)
  | .f h h1 => .f (RVs.mono m h) (RVs.mono m h1)
  | .i h => .i (RV.mono m h)
  | .m h => .m (m.mu _ _ h)
  | .bad x => .bad x
theorem RVs.mono {μ Z w μ' Z' w'} (m : Mov μ Z w μ' Z' w') {v : List Value} {a : List AV} : RVs μ Z w v a → RVs μ' Z' w' v a
  | .nil => .nil
  | .cons h h1 => .cons (RV.mono m h) (RVs.mono m h1)
end

section
variable {μ : Mu} {Z : Nat → Prop} {w : World}
theorem RVs.length : ∀ {us : List Value} {cs : List AV}, RVs μ Z w us cs → us.length = cs.length
  | [], _, .nil => rfl
  | _ :: _, _, .cons _ h => by simp [RVs.length h]
theorem RVs.get : ∀ {us : List Value} {cs : List AV} (_ : RVs μ Z w us cs) {j : Nat} {u : Value}, us[j]? = some u → ∃ a, cs[j]? = some a ∧ RV μ Z w u a
  | _ :: _, _, .cons h hs, 0, u, e => by simp at e; subst e; exact ⟨_, rfl, h⟩
  | _ :: _, _, .cons h hs, j + 1, u, e => by simp at e; obtain ⟨a, ha, hr⟩ := RVs.get hs e; exact ⟨a, by simpa using ha, hr⟩
theorem RVs.get' {us : List Value} {cs : List AV} (h : RVs μ Z w us cs) {j : Nat} {a : AV} (e : cs[j]? = some a) : ∃ u, us[j]? = some u ∧ RV μ Z w u a := by
  have hl := h.length
  have hj : j < cs.length := (List.getElem?_eq_some_iff.1 e).1
  obtain ⟨a', ha, hr⟩ := h.get (j := j) (u := us[j]'(by omega)) (List.getElem?_eq_getElem _)
  rw [e] at ha; injection ha with ha; subst ha
  exact ⟨_, List.getElem?_eq_getElem _, hr⟩
theorem RVs.mk : ∀ {us : List Value} {cs : List AV}, us.length = cs.length → (∀ (j : Nat) (u : Value) (a : AV), us[j]? = some u → cs[j]? = some a → RV μ Z w u a) → RVs μ Z w us cs
  | [], [], _, _ => .nil
  | u :: us, c :: cs, h, k => .cons (k 0 u c rfl rfl) (RVs.mk (by simpa using h) (fun j u' a hu ha => k (j + 1) u' a (by simpa using hu) (by simpa using ha)))
theorem RVs.append {us us' : List Value} {cs cs' : List AV} (h : RVs μ Z w us cs) (h' : RVs μ Z w us' cs') : RVs μ Z w (us ++ us') (cs ++ cs') := by
  induction us generalizing cs with
  | nil => cases h; exact h'
  | cons u us ih => cases h with | cons a b => exact .cons a (ih b)
theorem RVs.take {us : List Value} {cs : List AV} (h : RVs μ Z w us cs) (n : Nat) : RVs μ Z w (us.take n) (cs.take n) := by
  induction us generalizing cs n with
  | nil => cases h; simp; exact .nil
  | cons u us ih => cases h with | cons a b => cases n with | zero => exact .nil | succ n => exact .cons a (ih b n)
theorem RVs.drop {us : List Value} {cs : List AV} (h : RVs μ Z w us cs) (n : Nat) : RVs μ Z w (us.drop n) (cs.drop n) := by
  induction us generalizing cs n with
  | nil => cases h; simp; exact .nil
  | cons u us ih => cases n with | zero => exact h | succ n => cases h with | cons a b => exact ih b n
theorem RVs.set {us : List Value} {cs : List AV} (h : RVs μ Z w us cs) (n : Nat) {u : Value} {a : AV} (hr : RV μ Z w u a) : RVs μ Z w (us.set n u) (cs.set n a) := by
  induction us generalizing cs n with
  | nil => cases h; exact .nil
  | cons u' us ih => cases h with | cons x b => cases n with | zero => exact .cons hr b | succ n => exact .cons x (ih b n)
theorem RVs.scalars (us : List Value) : RVs μ Z w us (us.map .v) := by
  induction us with
  | nil => exact .nil
  | cons u us ih => exact .cons (.v u) ih
theorem RVs.getD {us : List Value} {cs : List AV} (h : RVs μ Z w us cs) (n : Nat) (d : Value) : RV μ Z w (us.getD n d) (cs.getD n .bad) := by
  rw [List.getD_eq_getElem?_getD, List.getD_eq_getElem?_getD]
  cases e : cs[n]? with
  | none => exact .bad _
  | some a => obtain ⟨u, hu, hr⟩ := h.get' e; rw [hu]; exact hr
theorem RVs.bads (us : List Value) (n : Nat) (h : us.length = n) : RVs μ Z w us (List.replicate n .bad) := by
  subst h
  induction us with
  | nil => exact .nil
  | cons u us ih => exact .cons (.bad u) ih
theorem RV.const (x : Value) : RV μ Z w x (cst x) := by
  cases x with
  | agg cs => have := RVs.scalars (μ := μ) (Z := Z) (w := w) cs.toList; exact .g this
  | tuple cs => have := RVs.scalars (μ := μ) (Z := Z) (w := w) cs.toList; exact .t this
  | iface t v => exact .i (.v v)
  | _ => exact .v _
end
end Go.Ab

namespace Go.Ab

/-! What a type's kind says of the program. -/
section
variable {P : Program} {t : TypeId}
theorem tk_info (h : tkOf P t ≠ .no) : ∃ i d, P.info? t = some i ∧ P.underlying t = some d ∧ i.size = (tkOf P t).size ∧ isAggOf P t = (tkOf P t).agg := by
  unfold tkOf at *
  split at h
  · exact absurd rfl h
  · rename_i i hi
    simp only [hi]
    unfold isAggOf
    cases hu : P.underlying t with
    | none => simp [hu] at h
    | some d =>
      simp only [hu] at h ⊢
      refine ⟨i, d, rfl, rfl, ?_⟩
      cases d <;> simp only [cond_eq_ite, beq_iff_eq] at h ⊢ <;> (try exact absurd rfl h) <;> (repeat' split at h) <;> (try exact absurd rfl h) <;> simp_all [TK.size, TK.agg]
theorem tk_int {k} (h : tkOf P t = .int k) : P.underlying t = some (.int k) := by
  unfold tkOf at h; (repeat' split at h) <;> (try simp only [cond_eq_ite] at h) <;> (repeat' split at h) <;> simp_all
theorem tk_bool (h : tkOf P t = .bool) : P.underlying t = some .bool := by
  unfold tkOf at h; (repeat' split at h) <;> (try simp only [cond_eq_ite] at h) <;> (repeat' split at h) <;> simp_all
theorem tk_str (h : tkOf P t = .str) : P.underlying t = some .string := by
  unfold tkOf at h; (repeat' split at h) <;> (try simp only [cond_eq_ite] at h) <;> (repeat' split at h) <;> simp_all
theorem tk_ptr {e} (h : tkOf P t = .ptr e) : P.underlying t = some (.pointer e) := by
  unfold tkOf at h; (repeat' split at h) <;> (try simp only [cond_eq_ite] at h) <;> (repeat' split at h) <;> simp_all
theorem tk_mp {k e} (h : tkOf P t = .mp k e) : P.underlying t = some (.map k e) := by
  unfold tkOf at h; (repeat' split at h) <;> (try simp only [cond_eq_ite] at h) <;> (repeat' split at h) <;> simp_all
theorem tk_sl {e sz by_} (h : tkOf P t = .sl e sz by_) : P.underlying t = some (.slice e) ∧ ∃ i z, P.info? e = some i ∧ i.size = sz ∧ i.bytes = by_ ∧ i.zero = some z ∧ z.cells.size = sz := by
  unfold tkOf at h; (repeat' split at h) <;> (try simp only [cond_eq_ite] at h) <;> (repeat' split at h) <;> simp_all

theorem tk_ar {n e sz} (h : tkOf P t = .ar n e sz) : P.underlying t = some (.array n e) ∧ ∃ i, P.info? e = some i ∧ i.size = sz := by
  unfold tkOf at h; (repeat' split at h) <;> (try simp only [cond_eq_ite] at h) <;> (repeat' split at h) <;> simp_all
theorem tk_st {n fs} (h : tkOf P t = .st n fs) : ∃ gs : Array Field, P.underlying t = some (.struct gs) ∧ (∀ f ∈ gs.toList, P.cellsOf f.type ≠ 0 ∧ ∃ d, P.underlying f.type = some d) ∧
    fs = gs.toList.map fun f => (f.offset, P.cellsOf f.type, isAggOf P f.type) := by
  unfold tkOf at h; (repeat' split at h) <;> (try simp only [cond_eq_ite] at h) <;> (repeat' split at h) <;> simp_all
  rename_i hh
  intro f hf; obtain ⟨i, hi, rfl⟩ := Array.mem_iff_getElem.1 hf
  have := hh i hi
  exact ⟨this.1, Option.isSome_iff_exists.1 this.2⟩
end

section
variable {P : Program} {w : World} {t : TypeId}
theorem run_und {d : TypeDesc} (h : P.underlying t = some d) (w : World) : (underlying t).run P w = .ok d w := run_underlying h w
theorem run_ti {i : TypeInfo} (h : P.info? t = some i) (w : World) : (typeInfo t).run P w = .ok i w := by
  simp [typeInfo, program, Sem.run, h]
theorem run_size {i : TypeInfo} (h : P.info? t = some i) (w : World) : (sizeOf t).run P w = .ok i.size w := by
  simp [sizeOf, run_ti h]
theorem run_isAgg {d : TypeDesc} (h : P.underlying t = some d) (w : World) : (isAgg t).run P w = .ok (isAggOf P t) w := by
  unfold isAgg isAggOf
  simp only [Sem.run_bind, run_und h, Result.andThen_ok, h]
  cases d <;> rfl
theorem add_at (b o j : Nat) : (⟨b, o, none⟩ : Addr).add j = ⟨b, o + j, none⟩ := by
  unfold Addr.add; split
  · subst_vars; rfl
  · rfl
theorem run_loadVar {a : Addr} {us : List Value} (ht : tkOf P t ≠ .no) (hl : us.length = (tkOf P t).size) (hc : ∀ (j : Nat) (u : Value), us[j]? = some u → w.cell? (a.add j) = some u) (h0 : 0 < us.length) :
    (loadVar t a).run P w = .ok (if (tkOf P t).agg then .agg us.toArray else us.getD 0 undef) w := by
  obtain ⟨i, d, hi, hd, hs, hg⟩ := tk_info ht
  unfold loadVar
  simp only [Sem.run_bind, run_isAgg hd, Result.andThen_ok, hg]
  cases hag : (tkOf P t).agg with
  | true =>
    simp only [if_true, Sem.run_bind, run_size hi, Result.andThen_ok, hs, ← hl]
    have := run_loadCells_list (P := P) (w := w) a us hc
    simp only [this, Result.andThen_ok]
    rfl
  | false =>
    simp only [Bool.false_eq_true, if_false]
    obtain ⟨u, us', rfl⟩ : ∃ u us', us = u :: us' := by cases us with | nil => simp at h0 | cons u us' => exact ⟨u, us', rfl⟩
    have := hc 0 u rfl
    rw [show a.add 0 = a from by unfold Addr.add; simp] at this
    simp [this]
end
end Go.Ab

namespace Go.Ab

/-! ### Reading cells -/
section
variable {X : Ctx} {μ : Mu} {Z : Nat → Prop} {w : World} {h : Heap}

/-- the cells of an object that is pointed into -/
theorem HR.cells (hr : HR X μ Z w h) {id off : Nat} {v : Value} {sz : Nat} {cs : List AV} (hv : RV μ Z w v (.p id off)) (ho : h.getD id .dead = .o sz cs) :
    ∃ b o us, v = .pointer (some ⟨b, o + off, none⟩) ∧ μ id = some (b, o, sz) ∧ us.length = cs.length ∧ RVs μ Z w us cs ∧
      (∀ (j : Nat) (u : Value), us[j]? = some u → w.cell? ⟨b, o + j, none⟩ = some u ∧ u.oneCell' = true) := by
  cases hv with
  | @p _ _ b o sz' hm =>
    have := hr.obj id
    rw [ho] at this
    unfold RO at this
    rw [hm] at this
    obtain ⟨rfl, hz, c, e, f, us, hb, hf, hle, hus, hrs⟩ := this
    refine ⟨b, o, us, rfl, hm, hrs.length, hrs, fun j u hu => ?_⟩
    obtain ⟨h1, h2⟩ := hus j u hu
    refine ⟨?_, h2⟩
    unfold World.cell?
    rw [hb]
    simpa using h1

theorem seg {us : List Value} {off n j : Nat} {u : Value} (h : ((us.drop off).take n)[j]? = some u) : us[off + j]? = some u ∧ j < n := by
  rw [List.getElem?_take] at h
  split at h
  · rw [List.getElem?_drop] at h; exact ⟨h, by assumption⟩
  · simp at h

theorem part_rv {us : List Value} {cs : List AV} (hrs : RVs μ Z w us cs) (n off : Nat) (agg : Bool) (d : Value) :
    RV μ Z w (if agg then .agg ((us.drop off).take n).toArray else ((us.drop off).take n).getD 0 d) (part n agg cs off) ∨ (agg = false ∧ n = 0) := by
  cases agg with
  | true => exact .inl (.g ((hrs.drop off).take n))
  | false =>
    cases n with
    | zero => exact .inr ⟨rfl, rfl⟩
    | succ n =>
      refine .inl ?_
      have := hrs.getD off d
      simp only [part, Bool.false_eq_true, if_false, cond_false]
      rw [show ((us.drop off).take (n + 1)).getD 0 d = us.getD off d from ?_]
      · exact this
      · rw [List.getD_eq_getElem?_getD, List.getD_eq_getElem?_getD, List.getElem?_take]; simp

theorem ld_sound {t : TypeId} {v : Value} {a : AV} {K : Kt} (hr : HR X μ Z w h) (hv : RV μ Z w v a) (H : a_load (tkOf X.P t).size (tkOf X.P t).agg a h K) :
    ∃ r, K.K r h ∧ ∃ u, (Instr.loadAt t v).run X.P w = .ok u w ∧ RV μ Z w u r := by
  have key : ∀ (b o off : Nat) (us : List Value) (cs : List AV), v = .pointer (some ⟨b, o + off, none⟩) → RVs μ Z w us cs →
      (∀ (j : Nat) (u : Value), us[j]? = some u → w.cell? ⟨b, o + j, none⟩ = some u) → (0 < (tkOf X.P t).size ∧ off + (tkOf X.P t).size ≤ cs.length) →
      ∃ u, (Instr.loadAt t v).run X.P w = .ok u w ∧ RV μ Z w u (part (tkOf X.P t).size (tkOf X.P t).agg cs off) := by
    rintro b o off us cs rfl hrs hc ⟨h0, h1⟩
    have hno : tkOf X.P t ≠ .no := fun e => by rw [e] at h0; exact absurd h0 (by decide)
    have hlen := hrs.length
    have hl : ((us.drop off).take (tkOf X.P t).size).length = (tkOf X.P t).size := by simp; omega
    refine ⟨_, ?_, (part_rv hrs (tkOf X.P t).size off (tkOf X.P t).agg undef).resolve_right (fun e => by omega)⟩
    simp only [Instr.loadAt, Instr.sureAddr, pure_bind]
    exact run_loadVar hno hl (fun j u hu => by
      obtain ⟨h2, _⟩ := seg hu
      rw [add_at, Nat.add_assoc]
      exact hc _ _ h2) (by omega)
  cases a <;> simp only [a_load] at H
  case p id off =>
    cases ho : h.getD id .dead <;> rw [ho] at H <;> simp only [a_ldo] at H
    case o sz cs =>
      obtain ⟨b, o, us, e, _, _, hrs, hc⟩ := hr.cells hv ho
      exact ⟨_, H.2, key b o off us cs e hrs (fun j u hu => (hc j u hu).1) H.1⟩
  case q cs off =>
    cases hv with
    | @q b o _ us _ hrs hc => exact ⟨_, H.2, key b o off us cs rfl hrs (fun j u hu => (hc j u hu).2.1) H.1⟩
end
end Go.Ab

namespace Go.Ab

section
variable {X : Ctx} {μ : Mu} {Z : Nat → Prop} {w : World} {h : Heap} {K : Kt}

theorem pick_sound {vc va vb : Value} {c a b : AV} (hc : RV μ Z w vc c) (ha : RV μ Z w va a) (hb : RV μ Z w vb b) (H : a_pick c a b h K) :
    ∃ r, K.K r h ∧ ∃ u, (do pure (Next.value (if ← asBool vc then va else vb)) : Sem Next).run X.P w = .ok (.value u) w ∧ RV μ Z w u r := by
  cases c <;> simp only [a_pick] at H
  case v x =>
    cases x <;> simp only [a_pick] at H
    case bool t =>
      cases hc
      refine ⟨_, H, if t then va else vb, ?_, ?_⟩
      · simp [asBool, Sem.run_pure]
      · cases t <;> simp [ha, hb]

theorem nilc_sound {v : Value} {a : AV} (hv : RV μ Z w v a) (H : a_nilc a h K) : ∃ r, K.K r h ∧ RV μ Z w v r ∧
    ((∃ ad, v = .pointer (some ad)) ∨ ∃ f x y, v = .func (.func f) x y) := by
  cases a <;> simp only [a_nilc] at H
  case p id off => cases hv with | p h => exact ⟨_, H, .p h, .inl ⟨_, rfl⟩⟩
  case q cs off => cases hv with | q h h' => exact ⟨_, H, .q h h', .inl ⟨_, rfl⟩⟩
  case f fn x y =>
    cases fn <;> simp only [a_nilc] at H
    case func f => cases hv with | f h h' => exact ⟨_, H, .f h h', .inr ⟨_, _, _, rfl⟩⟩

theorem guard_int (op : BinOp) (t : TypeId) (x y : Operand) (k k' : IntKind) (a b : Int) : (eqGuard op t x y (.int k a) (.int k' b)).run X.P w = .ok () w := by
  unfold eqGuard; cases op <;> simp [Sem.run_pure]

theorem bin_shape {op : BinOp} {a b : AV} (H : a_bin op a b h K) : ∃ k n k' m, a = .v (.int k n) ∧ b = .v (.int k' m) := by
  unfold a_bin at H
  split at H <;> first | exact ⟨_, _, _, _, rfl, rfl⟩ | exact H.elim
theorem bin_sound {op : BinOp} {t : TypeId} {x y : Operand} {v u : Value} {a b : AV} (hv : RV μ Z w v a) (hu : RV μ Z w u b) (H : a_bin op a b h K) :
    ∃ r, K.K r h ∧ ∃ z, (do eqGuard op t x y v u; binOp op t v u).run X.P w = .ok z w ∧ RV μ Z w z r := by
  obtain ⟨k, n, k', m, rfl, rfl⟩ := bin_shape H
  cases hv; cases hu
  cases op <;> simp only [a_bin] at H
  all_goals (obtain ⟨hk, H⟩ := H; refine ⟨_, H, _, ?_, .v _⟩; simp only [Sem.run_bind, guard_int, Result.andThen_ok])
  all_goals (try (first | (obtain ⟨rfl, hk⟩ := hk) | subst hk))
  all_goals (try simp_all [binOp, Op.intArith, Op.intDiv, Op.intBits, Op.intCmp, Op.shift, Sem.run_pure, abits])
  all_goals (try (intro hlt; exact absurd hk (by omega)))

theorem guard_str (op : BinOp) (t : TypeId) (x y : Operand) (a b : ByteArray) : (eqGuard op t x y (.string a) (.string b)).run X.P w = .ok () w := by
  unfold eqGuard; cases op <;> simp [Sem.run_pure]
theorem beq_toList (a b : ByteArray) : (a.toList == b.toList) = decide (a = b) := by
  by_cases h : a = b
  · subst h; simp
  · have : a.toList ≠ b.toList := fun e => h (by
      have : a.data.toList = b.data.toList := by rw [← Lib.toList_data, ← Lib.toList_data, e]
      cases a; cases b; simp at this; simp [this])
    simp [h, this]
theorem bins_shape {op : BinOp} {a b : AV} (H : a_bins op a b h K) : ∃ n m, a = .v (.string n) ∧ b = .v (.string m) := by
  unfold a_bins at H
  split at H <;> first | exact ⟨_, _, rfl, rfl⟩ | exact H.elim
theorem bins_sound {op : BinOp} {t : TypeId} {x y : Operand} {v u : Value} {a b : AV} (hv : RV μ Z w v a) (hu : RV μ Z w u b) (H : a_bins op a b h K) :
    ∃ r, K.K r h ∧ ∃ z, (do eqGuard op t x y v u; binOp op t v u).run X.P w = .ok z w ∧ RV μ Z w z r := by
  obtain ⟨n, m, rfl, rfl⟩ := bins_shape H
  cases hv; cases hu
  cases op <;> simp only [a_bins] at H
  case add =>
    refine ⟨_, H.2, _, ?_, .v _⟩
    simp only [Sem.run_bind, guard_str, Result.andThen_ok]
    have : ¬ (((n.size + m.size : Nat) : Int) > IntKind.i64.max) := by have := H.1; show ¬ (_ > (9223372036854775807 : Int)); omega
    simp only [binOp, Op.stringOp, if_neg this, Sem.run_pure]
  all_goals (refine ⟨_, H, _, ?_, .v _⟩; simp only [Sem.run_bind, guard_str, Result.andThen_ok]; simp [binOp, Op.stringOp, Sem.run_pure, beq_toList])

theorem equal_bool {P : Program} {t : TypeId} (ht : P.underlying t = some .bool) (a b : Bool) : (Op.equal t (.bool a) (.bool b)).run P w = .ok (a == b) w := by
  have : ∀ n, (Op.equalIn (n + 1) t (.bool a) (.bool b)).run P w = .ok (a == b) w := fun n => by
    simp only [Op.equalIn, Sem.run_bind, run_und ht, Result.andThen_ok]; rfl
  exact this 9999
theorem equal_nil {P : Program} {t e : TypeId} (ht : P.underlying t = some (.pointer e)) (A : Option Addr) : (Op.equal t (.pointer A) (.pointer none)).run P w = .ok A.isNone w := by
  have : ∀ n, (Op.equalIn (n + 1) t (.pointer A) (.pointer none)).run P w = .ok A.isNone w := fun n => by
    cases A <;> simp only [Op.equalIn, Sem.run_bind, run_und ht, Result.andThen_ok] <;> rfl
  exact this 9999

theorem eqb_sound {neg : Bool} {t : TypeId} {x y : Operand} {v u : Value} {a b : AV} (ht : tkOf X.P t = .bool) (hv : RV μ Z w v a) (hu : RV μ Z w u b) (H : a_eqb neg a b h K) :
    ∃ r, K.K r h ∧ ∃ z, (do eqGuard (if neg then .neq else .eql) t x y v u; binOp (if neg then .neq else .eql) t v u).run X.P w = .ok z w ∧ RV μ Z w z r := by
  obtain ⟨n, m, rfl, rfl⟩ : ∃ n m, a = .v (.bool n) ∧ b = .v (.bool m) := by
    unfold a_eqb at H
    split at H <;> first | exact ⟨_, _, rfl, rfl⟩ | exact H.elim
  cases hv; cases hu
  simp only [a_eqb] at H
  refine ⟨_, H, _, ?_, .v _⟩
  have hg : (eqGuard (if neg then BinOp.neq else .eql) t x y (.bool n) (.bool m)).run X.P w = .ok () w := by unfold eqGuard; cases neg <;> simp [Sem.run_pure]
  simp only [Sem.run_bind, hg, Result.andThen_ok]
  cases neg
  · show (do pure (Value.bool (← Op.equal t (.bool n) (.bool m))) : Sem Value).run X.P w = _
    simp only [Sem.run_bind, equal_bool (tk_bool ht), Result.andThen_ok]; rfl
  · show (do pure (Value.bool (!(← Op.equal t (.bool n) (.bool m)))) : Sem Value).run X.P w = _
    simp only [Sem.run_bind, equal_bool (tk_bool ht), Result.andThen_ok]; rfl

theorem eqp_sound {neg : Bool} {t e : TypeId} {x y : Operand} {v u : Value} {a b : AV} (ht : tkOf X.P t = .ptr e) (hv : RV μ Z w v a) (hu : RV μ Z w u b) (H : a_eqp neg a b h K) :
    ∃ r, K.K r h ∧ ∃ z, (do eqGuard (if neg then .neq else .eql) t x y v u; binOp (if neg then .neq else .eql) t v u).run X.P w = .ok z w ∧ RV μ Z w z r := by
  have key : ∀ (A : Option Addr), (do eqGuard (if neg then BinOp.neq else .eql) t x y (.pointer A) (.pointer none); binOp (if neg then .neq else .eql) t (.pointer A) (.pointer none)).run X.P w = .ok (.bool (bif neg then A.isSome else A.isNone)) w := by
    intro A
    have hg : (eqGuard (if neg then BinOp.neq else .eql) t x y (.pointer A) (.pointer none)).run X.P w = .ok () w := by unfold eqGuard; cases neg <;> simp [Sem.run_pure]
    simp only [Sem.run_bind, hg, Result.andThen_ok]
    cases neg
    · show (do pure (Value.bool (← Op.equal t (.pointer A) (.pointer none))) : Sem Value).run X.P w = _
      simp only [Sem.run_bind, equal_nil (tk_ptr ht), Result.andThen_ok]; rfl
    · show (do pure (Value.bool (!(← Op.equal t (.pointer A) (.pointer none)))) : Sem Value).run X.P w = _
      simp only [Sem.run_bind, equal_nil (tk_ptr ht), Result.andThen_ok]; cases A <;> rfl
  unfold a_eqp at H
  split at H
  · cases hv with | p _ => cases hu; exact ⟨_, H, _, key _, by cases neg <;> exact .v _⟩
  · cases hv with | q _ _ => cases hu; exact ⟨_, H, _, key _, by cases neg <;> exact .v _⟩
  · cases hv; cases hu; exact ⟨_, H, _, key _, by cases neg <;> exact .v _⟩
  · exact H.elim

theorem un_sound {op : UnOp} {v : Value} {a : AV} (hv : RV μ Z w v a) (H : a_un op a h K) :
    ∃ r, K.K r h ∧ ∃ z, (Op.unary op v).run X.P w = .ok z w ∧ RV μ Z w z r := by
  unfold a_un at H
  split at H
  · cases hv; exact ⟨_, H, _, by simp [Op.unary, Op.intArith, Sem.run_pure], .v _⟩
  · cases hv; exact ⟨_, H, _, by simp [Op.unary, Op.intBits, Sem.run_pure, abits], .v _⟩
  · cases hv; exact ⟨_, H, _, by simp [Op.unary, Sem.run_pure], .v _⟩
  · exact H.elim

theorem cint_sound {s d : TypeId} {k : IntKind} {v : Value} {a : AV} (hs : ∃ x, X.P.underlying s = some x) (hd : tkOf X.P d = .int k) (hv : RV μ Z w v a) (H : a_cint k a h K) :
    ∃ r, K.K r h ∧ ∃ z, (convert s d v).run X.P w = .ok z w ∧ RV μ Z w z r := by
  obtain ⟨x, hs⟩ := hs
  unfold a_cint at H
  split at H
  · cases hv
    refine ⟨_, H, _, ?_, .v _⟩
    unfold convert
    simp only [Sem.run_bind, run_und hs, run_und (tk_int hd), Result.andThen_ok]
    cases x <;> simp [Conv.intToInt, Sem.run_pure]
  · exact H.elim
end
end Go.Ab

namespace Go.Ab
/-! Two structs, two arrays, compared. -/
section
variable {P : Program} {w : World}
/-- what stands in the cells, kind by kind, and whether it is the same -/
inductive KE : List TK → List Value → List Value → Bool → Prop
  | nil : KE [] [] [] true
  | int {r : List TK} {us vs : List Value} {t : Bool} {q k : IntKind} {a b : Int} : KE r us vs t → KE (.int q :: r) (.int k a :: us) (.int k b :: vs) (a == b && t)
  | bool {r : List TK} {us vs : List Value} {t a b : Bool} : KE r us vs t → KE (.bool :: r) (.bool a :: us) (.bool b :: vs) (a == b && t)
  | str {r : List TK} {us vs : List Value} {t : Bool} {a b : ByteArray} : KE r us vs t → KE (.str :: r) (.string a :: us) (.string b :: vs) (decide (a = b) && t)
theorem KE.len {ks : List TK} {us vs : List Value} {t : Bool} (h : KE ks us vs t) : us.length = ks.length ∧ vs.length = ks.length := by
  induction h with
  | nil => exact ⟨rfl, rfl⟩
  | int _ ih => simp [ih.1, ih.2]
  | bool _ ih => simp [ih.1, ih.2]
  | str _ ih => simp [ih.1, ih.2]
theorem KE.split : ∀ {k1 k2 : List TK} {us vs : List Value} {t : Bool}, KE (k1 ++ k2) us vs t → ∃ u1 u2 v1 v2 t1 t2, us = u1 ++ u2 ∧ vs = v1 ++ v2 ∧ t = (t1 && t2) ∧ KE k1 u1 v1 t1 ∧ KE k2 u2 v2 t2
  | [], k2, us, vs, t, h => ⟨[], us, [], vs, true, t, rfl, rfl, by simp, .nil, h⟩
  | k :: k1, k2, _, _, _, h => by
    cases h with
    | int h => obtain ⟨u1, u2, v1, v2, t1, t2, rfl, rfl, rfl, h1, h2⟩ := KE.split h; exact ⟨_, u2, _, v2, _, t2, rfl, rfl, (Bool.and_assoc ..).symm, .int h1, h2⟩
    | bool h => obtain ⟨u1, u2, v1, v2, t1, t2, rfl, rfl, rfl, h1, h2⟩ := KE.split h; exact ⟨_, u2, _, v2, _, t2, rfl, rfl, (Bool.and_assoc ..).symm, .bool h1, h2⟩
    | str h => obtain ⟨u1, u2, v1, v2, t1, t2, rfl, rfl, rfl, h1, h2⟩ := KE.split h; exact ⟨_, u2, _, v2, _, t2, rfl, rfl, (Bool.and_assoc ..).symm, .str h1, h2⟩
/-- a value of a type, as its cells -/
def isV (P : Program) (t : TypeId) (x : Value) (us : List Value) : Prop := match P.underlying t with
  | some (.struct _) => x = .agg us.toArray
  | some (.array _ _) => x = .agg us.toArray
  | _ => us = [x]
def EqV (P : Program) (d : Nat) (t : TypeId) (ks : List TK) : Prop :=
  ∀ (w : World) (x y : Value) (us vs : List Value) (b : Bool), KE ks us vs b → isV P t x us → isV P t y vs → (Op.equalIn d t x y).run P w = .ok b w
theorem run_part_v {e : TypeId} {off : Nat} {xs : Array Value} {u1 u2 : List Value} (hd : xs.toList.drop off = u1 ++ u2) (hn : u1.length = P.cellsOf e) {D : TypeDesc} (hu : P.underlying e = some D)
    (h1 : (∀ fs, D ≠ .struct fs) → (∀ n q, D ≠ .array n q) → ∃ v, u1 = [v]) : ∃ a, (Go.part e xs off).run P w = .ok a w ∧ isV P e a u1 := by
  obtain ⟨i, hi⟩ := info_of_underlying hu
  have agg : (isAgg e).run P w = .ok true w → (Go.part e xs off).run P w = .ok (.agg u1.toArray) w := fun h => by
    have : xs.extract off (off + P.cellsOf e) = u1.toArray := by
      apply Array.ext'
      rw [Array.toList_extract]
      simp only [List.extract, hd, Nat.add_sub_cancel_left]
      rw [← hn, List.take_left]
    simp [Go.part, Sem.run_bind, h, run_sizeOf w hi, this]
  by_cases hs : ∃ fs, D = .struct fs
  · obtain ⟨fs, rfl⟩ := hs
    exact ⟨_, agg (by simp [isAgg, run_underlying hu]), by unfold isV; rw [hu]⟩
  · by_cases ha : ∃ n q, D = .array n q
    · obtain ⟨n, q, rfl⟩ := ha
      exact ⟨_, agg (by simp [isAgg, run_underlying hu]), by unfold isV; rw [hu]⟩
    · obtain ⟨v, rfl⟩ := h1 (fun fs e => hs ⟨fs, e⟩) (fun n q e => ha ⟨n, q, e⟩)
      have hx : xs[off]? = some v := by
        have := congrArg (fun l => l[0]?) hd
        simp only [List.getElem?_drop, Nat.add_zero] at this
        simpa using this
      have hA : (isAgg e).run P w = .ok false w := by
        cases D <;> first | (simp [isAgg, run_underlying hu]; done) | (exact absurd ⟨_, rfl⟩ hs) | (exact absurd ⟨_, _, rfl⟩ ha)
      refine ⟨v, by simp [Go.part, Sem.run_bind, hA, hx], ?_⟩
      unfold isV; rw [hu]
      cases D <;> first | rfl | (exact absurd ⟨_, rfl⟩ hs) | (exact absurd ⟨_, _, rfl⟩ ha)
theorem flatK_und : ∀ {m : Nat} {t : TypeId} {ks : List TK}, flatK P m t = some ks → ∃ D, P.underlying t = some D ∧ ((∀ fs, D ≠ .struct fs) → (∀ n q, D ≠ .array n q) → ks.length = 1)
  | 0, _, _, h => by cases h
  | m + 1, t, ks, h => by
    unfold flatK at h
    cases hu : P.underlying t with
    | none => rw [hu] at h; cases h
    | some D =>
      rw [hu] at h
      refine ⟨D, rfl, fun h1 h2 => ?_⟩
      cases D <;> simp only [reduceCtorEq] at h
      case bool => cases h; rfl
      case int => cases h; rfl
      case string => cases h; rfl
      case struct fs => exact absurd rfl (h1 fs)
      case array n q => exact absurd rfl (h2 n q)
theorem one_of {u : List Value} (h : u.length = 1) : ∃ v, u = [v] := by
  match u, h with
  | [v], _ => exact ⟨v, rfl⟩
theorem eqFields_v {m dd : Nat} (IH : ∀ t ks, flatK P m t = some ks → EqV P dd t ks) (xs ys : Array Value) : ∀ (fs : List Field) (off : Nat) (ks : List TK) (us vs : List Value) (b : Bool),
    flatFs P (flatK P m) off fs = some ks → xs.toList.drop off = us → ys.toList.drop off = vs → KE ks us vs b → (Op.eqFields dd xs ys fs).run P w = .ok b w
  | [], off, ks, us, vs, b, h, _, _, hk => by
    cases h; cases hk
    simp [Op.eqFields]
  | f :: fs, off, ks, us, vs, b, h, hx, hy, hk => by
    unfold flatFs at h
    cases hn : (f.name == "_" || !(Nat.beq f.offset off)) with
    | true => rw [hn] at h; cases h
    | false =>
      rw [hn] at h
      simp only [Bool.or_eq_false_iff, Bool.not_eq_false', beq_eq_false_iff_ne] at hn
      have ho : f.offset = off := Nat.eq_of_beq_eq_true hn.2
      cases hf : flatK P m f.type with
      | none => rw [hf] at h; cases h
      | some k1 =>
        rw [hf] at h
        simp only [cond_false] at h
        cases hc : Nat.beq (P.cellsOf f.type) k1.length with
        | false => rw [hc] at h; cases h
        | true =>
          rw [hc] at h
          have hc := Nat.eq_of_beq_eq_true hc
          simp only [cond_true] at h
          cases hr : flatFs P (flatK P m) (off + k1.length) fs with
          | none => rw [hr] at h; cases h
          | some k2 =>
            rw [hr] at h
            cases h
            obtain ⟨u1, u2, v1, v2, t1, t2, rfl, rfl, rfl, e1, e2⟩ := hk.split
            obtain ⟨D, hu, hD⟩ := flatK_und hf
            have l1 := e1.len
            obtain ⟨a, p1, q1⟩ := run_part_v (w := w) hx (by rw [l1.1, hc]) hu (fun h1 h2 => one_of (by rw [l1.1, hD h1 h2]))
            obtain ⟨c, p2, q2⟩ := run_part_v (w := w) hy (by rw [l1.2, hc]) hu (fun h1 h2 => one_of (by rw [l1.2, hD h1 h2]))
            have p3 := IH _ _ hf w a c u1 v1 t1 e1 q1 q2
            have rest := eqFields_v IH xs ys fs (off + k1.length) k2 u2 v2 t2 hr (by rw [← List.drop_drop, hx, ← l1.1, List.drop_left]) (by rw [← List.drop_drop, hy, ← l1.2, List.drop_left]) e2
            simp only [Op.eqFields, hn.1, ne_eq, not_false_eq_true, if_true, Sem.run_bind, ho, p1, p2, p3, Result.andThen_ok]
            cases t1
            · simp
            · simpa using rest
theorem eqItems_v {dd : Nat} {e : TypeId} {k1 : List TK} {D : TypeDesc} (hu : P.underlying e = some D) (hD : (∀ fs, D ≠ .struct fs) → (∀ n q, D ≠ .array n q) → k1.length = 1) (hc : P.cellsOf e = k1.length) (IH : EqV P dd e k1) (xs ys : Array Value) : ∀ (n i : Nat) (us vs : List Value) (b : Bool),
    xs.toList.drop (i * P.cellsOf e) = us → ys.toList.drop (i * P.cellsOf e) = vs → KE (List.replicate n k1).flatten us vs b → (Op.eqItems dd e (P.cellsOf e) xs ys (List.range' i n)).run P w = .ok b w
  | 0, i, us, vs, b, _, _, hk => by
    simp only [List.replicate_zero, List.flatten_nil] at hk
    cases hk
    simp [Op.eqItems]
  | n + 1, i, us, vs, b, hx, hy, hk => by
    rw [List.replicate_succ, List.flatten_cons] at hk
    obtain ⟨u1, u2, v1, v2, t1, t2, rfl, rfl, rfl, e1, e2⟩ := hk.split
    have l1 := e1.len
    obtain ⟨a, p1, q1⟩ := run_part_v (w := w) hx (by rw [l1.1, hc]) hu (fun h1 h2 => one_of (by rw [l1.1, hD h1 h2]))
    obtain ⟨c', p2, q2⟩ := run_part_v (w := w) hy (by rw [l1.2, hc]) hu (fun h1 h2 => one_of (by rw [l1.2, hD h1 h2]))
    have p3 := IH w a c' u1 v1 t1 e1 q1 q2
    have rest := eqItems_v hu hD hc IH xs ys n (i + 1) u2 v2 t2 (by rw [Nat.succ_mul, ← List.drop_drop, hx, hc, ← l1.1, List.drop_left]) (by rw [Nat.succ_mul, ← List.drop_drop, hy, hc, ← l1.2, List.drop_left]) e2
    rw [List.range'_succ]
    simp only [Op.eqItems, Sem.run_bind, p1, p2, p3, Result.andThen_ok]
    cases t1
    · simp
    · simpa using rest
theorem flatK_eq : ∀ (m : Nat) (t : TypeId) (ks : List TK), flatK P m t = some ks → ∀ d, EqV P (d + m) t ks
  | 0, _, _, h, _ => by cases h
  | m + 1, t, ks, h, d => by
    intro w x y us vs b hk hx hy
    unfold flatK at h
    unfold isV at hx hy
    cases hu : P.underlying t with
    | none => rw [hu] at h; cases h
    | some D =>
      rw [hu] at h hx hy
      cases D <;> simp only [reduceCtorEq] at h hx hy
      case bool =>
        cases h; subst hx; subst hy
        cases hk with
        | bool hk => cases hk; rw [Bool.and_true]; exact run_equalIn_bool' w (d + m) t _ _ hu
      case int q =>
        cases h; subst hx; subst hy
        cases hk with
        | int hk => cases hk; rw [Bool.and_true]; exact run_equalIn_int w (d + m) t _ q _ _ hu
      case string =>
        cases h; subst hx; subst hy
        cases hk with
        | str hk => cases hk; rw [Bool.and_true, ← beq_toList]; exact run_equalIn_string w (d + m) t _ _ hu
      case struct fs =>
        subst hx; subst hy
        cases hp : P.stoodInHeld t with
        | true => rw [hp] at h; cases h
        | false =>
          rw [hp] at h
          have hfs : P.fieldsOf t = fs := by simp [Program.fieldsOf, hu]
          rw [show d + (m + 1) = (d + m) + 1 from rfl, run_equalIn_struct w (d + m) t _ _ (by rw [hfs]; exact hu) hp, hfs]
          exact eqFields_v (fun t ks ht => flatK_eq m t ks ht d) us.toArray vs.toArray fs.toList 0 ks us vs b h rfl rfl hk
      case array n e =>
        subst hx; subst hy
        cases he : flatK P m e with
        | none => rw [he] at h; cases h
        | some k1 =>
          rw [he] at h
          simp only at h
          cases hc : Nat.beq (P.cellsOf e) k1.length with
          | false => rw [hc] at h; cases h
          | true =>
            rw [hc] at h
            cases h
            obtain ⟨D, hD, hD1⟩ := flatK_und he
            obtain ⟨i, hi⟩ := info_of_underlying hD
            rw [show d + (m + 1) = (d + m) + 1 from rfl, run_equalIn_array w (d + m) _ _ hu hi, List.range_eq_range']
            exact eqItems_v hD hD1 (Nat.eq_of_beq_eq_true hc) (flatK_eq m e k1 he d) us.toArray vs.toArray n 0 us vs b (by simp) (by simp) hk
end
section
variable {X : Ctx} {μ : Mu} {Z : Nat → Prop} {w : World} {h : Heap} {K : Kt}
theorem eql_sound {neg : Bool} : ∀ {ks : List TK} {us vs : List Value} {xs ys : List AV} {t : Bool}, RVs μ Z w us xs → RVs μ Z w vs ys → a_eql neg ks xs ys t h K → ∃ b, KE ks us vs b ∧ K.K (.v (.bool (bif neg then !(t && b) else t && b))) h := by
  intro ks
  induction ks with
  | nil =>
    intro us vs xs ys t hu hv H
    unfold a_eql at H
    split at H <;> first | exact H.elim | skip
    case _ => cases hu; cases hv; exact ⟨true, .nil, by rw [Bool.and_true]; exact H⟩
    all_goals contradiction
  | cons k ks ih =>
    intro us vs xs ys t hu hv H
    unfold a_eql at H
    split at H
    · contradiction
    · rename k :: ks = _ => e; cases e
      cases hu with | cons hu1 hu2 => cases hv with | cons hv1 hv2 =>
        cases hu1; cases hv1
        obtain ⟨rfl, H⟩ := H
        obtain ⟨b, h1, h2⟩ := ih hu2 hv2 H
        exact ⟨_, .int h1, by rw [← Bool.and_assoc]; exact h2⟩
    · rename k :: ks = _ => e; cases e
      cases hu with | cons hu1 hu2 => cases hv with | cons hv1 hv2 =>
        cases hu1; cases hv1
        obtain ⟨b, h1, h2⟩ := ih hu2 hv2 H
        exact ⟨_, .bool h1, by rw [← Bool.and_assoc]; exact h2⟩
    · rename k :: ks = _ => e; cases e
      cases hu with | cons hu1 hu2 => cases hv with | cons hv1 hv2 =>
        cases hu1; cases hv1
        obtain ⟨b, h1, h2⟩ := ih hu2 hv2 H
        exact ⟨_, .str h1, by rw [← Bool.and_assoc]; exact h2⟩
    · exact H.elim
theorem eqs_sound {neg : Bool} {t : TypeId} {ks : List TK} {x y : Operand} {v u : Value} {a b : AV} (hA : isAggOf X.P t = true) (ht : eqKinds X.P t = some ks) (hv : RV μ Z w v a) (hu : RV μ Z w u b) (H : a_eqs neg ks a b h K) :
    ∃ r, K.K r h ∧ ∃ z, (do eqGuard (if neg then .neq else .eql) t x y v u; binOp (if neg then .neq else .eql) t v u).run X.P w = .ok z w ∧ RV μ Z w z r := by
  unfold a_eqs at H
  split at H
  · rename_i xs ys
    cases hv with | @g us _ hv => cases hu with | @g vs _ hu =>
      obtain ⟨b, hk, hK⟩ := eql_sound hv hu H
      unfold eqKinds at ht
      cases hg : X.P.eqGuardType X.P.depth t with
      | true => rw [hg] at ht; cases ht
      | false =>
        rw [hg] at ht
        have hiv : ∀ us : List Value, isV X.P t (.agg us.toArray) us := fun us => by
          unfold isAggOf at hA; unfold isV
          split at hA
          · rename_i e; first | rfl | rw [e]
          · rename_i e; first | rfl | rw [e]
          · cases hA
        have key := flatK_eq (P := X.P) 6 t ks ht 9994 w _ _ us vs b hk (hiv us) (hiv vs)
        have hG := run_eqGuard_agg (P := X.P) w (if neg then .neq else .eql) t x y us.toArray vs.toArray hg
        refine ⟨_, hK, _, ?_, .v _⟩
        rw [Bool.true_and]
        simp only [Sem.run_bind, hG, Result.andThen_ok]
        cases neg
        · simp only [Bool.false_eq_true, if_false, run_eql_struct, key, Result.andThen_ok, cond_false]
        · simp only [if_true, run_neq_struct, key, Result.andThen_ok, cond_true]
  · exact H.elim
theorem equal_nilm {P : Program} {t k e : TypeId} (ht : P.underlying t = some (.map k e)) (A : Option Nat) : (Op.equal t (.map A) (.map none)).run P w = .ok A.isNone w := by
  have : ∀ n, (Op.equalIn (n + 1) t (.map A) (.map none)).run P w = .ok A.isNone w := fun n => by
    cases A <;> simp only [Op.equalIn, Sem.run_bind, run_und ht, Result.andThen_ok] <;> rfl
  exact this 9999
theorem eqm_sound {neg : Bool} {t k e : TypeId} {x y : Operand} {v u : Value} {a b : AV} (ht : tkOf X.P t = .mp k e) (hv : RV μ Z w v a) (hu : RV μ Z w u b) (H : a_eqm neg a b h K) :
    ∃ r, K.K r h ∧ ∃ z, (do eqGuard (if neg then .neq else .eql) t x y v u; binOp (if neg then .neq else .eql) t v u).run X.P w = .ok z w ∧ RV μ Z w z r := by
  have key : ∀ (A : Option Nat), (do eqGuard (if neg then BinOp.neq else .eql) t x y (.map A) (.map none); binOp (if neg then .neq else .eql) t (.map A) (.map none)).run X.P w = .ok (.bool (bif neg then A.isSome else A.isNone)) w := by
    intro A
    have hg : (eqGuard (if neg then BinOp.neq else .eql) t x y (.map A) (.map none)).run X.P w = .ok () w := by unfold eqGuard; cases neg <;> simp [Sem.run_pure]
    simp only [Sem.run_bind, hg, Result.andThen_ok]
    cases neg
    · show (do pure (Value.bool (← Op.equal t (.map A) (.map none))) : Sem Value).run X.P w = _
      simp only [Sem.run_bind, equal_nilm (tk_mp ht), Result.andThen_ok]; rfl
    · show (do pure (Value.bool (!(← Op.equal t (.map A) (.map none)))) : Sem Value).run X.P w = _
      simp only [Sem.run_bind, equal_nilm (tk_mp ht), Result.andThen_ok]; cases A <;> rfl
  unfold a_eqm at H
  split at H
  · cases hv with | m _ => cases hu; exact ⟨_, H, _, key _, by cases neg <;> exact .v _⟩
  · cases hv; cases hu; exact ⟨_, H, _, key _, by cases neg <;> exact .v _⟩
  · exact H.elim
end
end Go.Ab

namespace Go.Ab

section
variable {X : Ctx} {μ : Mu} {Z : Nat → Prop} {w : World} {h : Heap} {K : Kt}

/-- the cells of a slice of an object -/
theorem HR.slice (hr : HR X μ Z w h) {id off len : Nat} {v : Value} {sz : Nat} {cs : List AV} (hv : RV μ Z w v (.s id off len)) (ho : h.getD id .dead = .o sz cs) :
    ((∃ A, v = .slice A 0 0) ∧ len = 0) ∨ ∃ b o us cap c e f, v = .slice (some ⟨b, o + off, none⟩) len cap ∧ len ≤ cap ∧ μ id = some (b, o, sz) ∧ us.length = cs.length ∧ RVs μ Z w us cs ∧
      (∀ (j : Nat) (u : Value), us[j]? = some u → w.cell? ⟨b, o + j, none⟩ = some u ∧ u.oneCell' = true) ∧
      w.heap[b]? = some (.cells c e f) ∧ (c.size ≤ f.1 ∨ f.1 = f.2) ∧ o + off + cap * sz ≤ c.size ∧ ¬ Z b := by
  cases hv with
  | snil => exact .inl ⟨⟨_, rfl⟩, rfl⟩
  | @s _ _ _ b o sz' cap c e f hm hle hb hc =>
    have := hr.obj id
    rw [ho] at this
    unfold RO at this
    rw [hm] at this
    obtain ⟨rfl, hz, c', e', f', us, hb', hf, hle', hus, hrs⟩ := this
    rw [hb] at hb'
    injection hb' with hb'
    injection hb' with h1 h2 h3
    subst h1 h2 h3
    refine .inr ⟨b, o, us, cap, c, e, f, rfl, hle, hm, hrs.length, hrs, fun j u hu => ?_, hb, hf, hc, hz⟩
    obtain ⟨h1, h2⟩ := hus j u hu
    refine ⟨?_, h2⟩
    unfold World.cell?
    rw [hb]
    simpa using h1

/-! strings of bytes -/
theorem asBytes_rv : ∀ {us : List Value} {cs : List AV} {l : List UInt8}, RVs μ Z w us cs → asBytes cs = some l → ∃ ns : List Int, us = ns.map (Value.int .u8) ∧ l = ns.map (fun n => UInt8.ofNat n.toNat)
  | [], [], l, _, e => by simp only [asBytes] at e; cases e; exact ⟨[], rfl, rfl⟩
  | u :: us, c :: cs, l, .cons hu hs, e => by
    unfold asBytes at e
    split at e
    · rename_i he; exact absurd he (by simp)
    · rename_i n r he
      injection he with h1 h2
      subst h1 h2
      split at e
      · rename_i l' hl
        obtain ⟨ns, rfl, rfl⟩ := asBytes_rv hs hl
        cases hu
        injection e with e
        exact ⟨n :: ns, rfl, e.symm⟩
      · cases e
    · cases e

theorem fold_push (ns : List Int) (s : ByteArray) : ns.foldl (fun r n => r.push (UInt8.ofNat n.toNat)) s = ⟨s.data ++ (ns.map (fun n => UInt8.ofNat n.toNat)).toArray⟩ := by
  induction ns generalizing s with
  | nil => cases s; simp
  | cons n ns ih => simp only [List.foldl_cons, ih]; cases s; simp [ByteArray.push]

theorem run_b2s {P : Program} {a : Addr} {us : List Value} {ns : List Int} (n cap : Nat) (hl : us.length = n) (he : us = ns.map (Value.int .u8)) (hc : ∀ (j : Nat) (u : Value), us[j]? = some u → w.cell? (a.add j) = some u) :
    (Conv.bytesToString (.slice (some a) n cap)).run P w = .ok (.string (mkStr (ns.map fun n => UInt8.ofNat n.toNat))) w := by
  have hL := run_loadCells_list (P := P) (w := w) a us hc
  rw [hl, he] at hL
  rw [run_bytesToString w a n cap ns hL, fold_push]
  simp [mkStr]

theorem cstr_sound {s d e : TypeId} {sz by_ : Nat} {v : Value} {a : AV} (hs : tkOf X.P s = .sl e sz by_) (he : tkOf X.P e = .int .u8) (hd : tkOf X.P d = .str) (hv : RV μ Z w v a) (hr : HR X μ Z w h) (H : a_cstr a h K) :
    ∃ r, K.K r h ∧ ∃ z, (convert s d v).run X.P w = .ok z w ∧ RV μ Z w z r := by
  have hconv : ∀ A l c, (convert s d (.slice A l c)).run X.P w = (Conv.bytesToString (.slice A l c)).run X.P w := fun A l c =>
    run_convert_bytes_string w s d e A l c (tk_sl hs).1 (tk_int he) (tk_str hd)
  have hnil : ∀ l c, (Conv.bytesToString (.slice none l c)).run X.P w = .ok (.string (mkStr [])) w := fun l c => by simp [Conv.bytesToString, Sem.run_pure, mkStr]; rfl
  have mk : ∀ {cs : List AV} {us : List Value} {a : Addr} (n cap : Nat), RVs μ Z w us cs → us.length = n → (∀ (j : Nat) (u : Value), us[j]? = some u → w.cell? (a.add j) = some u) → a_mkstr (asBytes cs) h K →
      ∃ r, K.K r h ∧ ∃ z, (Conv.bytesToString (.slice (some a) n cap)).run X.P w = .ok z w ∧ RV μ Z w z r := by
    intro cs us a n cap hrs hn hc hm
    cases hb : asBytes cs with
    | none => rw [hb] at hm; exact hm.elim
    | some l =>
      rw [hb] at hm
      obtain ⟨ns, hus, rfl⟩ := asBytes_rv hrs hb
      exact ⟨_, hm, _, run_b2s n cap hn hus hc, .v _⟩
  cases a with
  | z cs n =>
    simp only [a_cstr] at H
    cases hv with
    | @z A _ cap us _ hrs hc hle =>
      rw [hconv]
      have hlen := hrs.length
      cases A with
      | none =>
        have h0 : us = [] := by
          cases us with
          | nil => rfl
          | cons u us => obtain ⟨ad, e, _⟩ := hc 0 u rfl; cases e
        subst h0
        have h1 : n = 0 := by have := H.1; simp at hlen; omega
        subst h1
        simp only [List.take_zero] at H
        exact ⟨_, H.2, _, hnil _ _, .v _⟩
      | some ad =>
        refine mk n cap (hrs.take n) (by simp; omega) (fun j u hu => ?_) H.2
        rw [List.getElem?_take] at hu
        split at hu
        · obtain ⟨ad', e, _, h2, _⟩ := hc j u hu; cases e; exact h2
        · cases hu
  | s id off n =>
    simp only [a_cstr] at H
    cases ho : h.getD id .dead <;> rw [ho] at H <;> simp only [a_cstro] at H
    case o sz' cs =>
      rcases hr.slice hv ho with ⟨⟨A, rfl⟩, rfl⟩ | ⟨b, o, us, cap, c, e', f, rfl, hle, hm, hlen, hrs, hc, _⟩
      · rw [hconv]
        simp only [List.take_zero] at H
        cases A with
        | none => exact ⟨_, H.2, _, hnil _ _, .v _⟩
        | some ad => exact ⟨_, H.2, _, run_b2s (us := []) (ns := []) 0 0 rfl rfl (fun j u hu => by cases hu), .v _⟩
      · rw [hconv]
        refine mk n cap ((hrs.drop off).take n) (by simp; have := H.1; omega) (fun j u hu => ?_) H.2
        obtain ⟨h1, _⟩ := seg hu
        rw [add_at, Nat.add_assoc]
        exact (hc _ _ h1).1
  | v x =>
    unfold a_cstr at H
    split at H
    · rename_i hx; cases hx
    · rename_i hx; cases hx
    · rename_i hx; cases hx
      cases hv
      rw [hconv]
      exact ⟨_, H, _, hnil _ _, .v _⟩
    · exact H.elim
  | _ => simp [a_cstr] at H

theorem s2s_sound {s d : TypeId} {v : Value} {a : AV} (hs : tkOf X.P s = .str) (hd : tkOf X.P d = .str) (hv : RV μ Z w v a) (H : a_s2s a h K) :
    ∃ r, K.K r h ∧ ∃ z, (convert s d v).run X.P w = .ok z w ∧ RV μ Z w z r := by
  unfold a_s2s at H
  split at H
  · cases hv
    refine ⟨_, H, _, ?_, .v _⟩
    unfold convert
    simp only [Sem.run_bind, run_und (tk_str hs), run_und (tk_str hd), Result.andThen_ok]
    rfl
  · exact H.elim

theorem fa_sound {s : TypeId} {v : Value} {a : AV} {i : Nat} {n : Nat} {fs : List (Nat × Nat × Bool)} (ht : tkOf X.P s = .st n fs) (hi : i < fs.length) (hv : RV μ Z w v a) (H : a_fa (fs.getD i (0, 0, false)).1 a h K) :
    ∃ r, K.K r h ∧ ∃ z, (Instr.fieldAt s v i).run X.P w = .ok z w ∧ RV μ Z w z r := by
  obtain ⟨gs, hu, hne, rfl⟩ := tk_st ht
  have hi' : i < gs.size := by simpa using hi
  have key : ∀ (b o off : Nat), (Instr.fieldAt s (.pointer (some ⟨b, o + off, none⟩)) i).run X.P w = .ok (.pointer (some ⟨b, o + (off + gs[i].offset), none⟩)) w := by
    intro b o off
    have h0 : X.P.cellsOf gs[i].type ≠ 0 := (hne _ (by simp)).1
    obtain ⟨inf, hinf⟩ : ∃ inf, X.P.info? gs[i].type = some inf := by
      cases hc : X.P.info? gs[i].type with
      | none => simp [Program.cellsOf, hc] at h0
      | some inf => exact ⟨inf, rfl⟩
    have h0' : inf.size ≠ 0 := by simpa [Program.cellsOf, hinf] using h0
    unfold Instr.fieldAt
    simp only [Sem.run_bind, run_und hu, Result.andThen_ok]
    simp only [Array.getElem?_eq_getElem hi', Sem.run_bind, Instr.sureAddr, Sem.run_pure, Result.andThen_ok, fieldPlace, run_size hinf, h0', if_false, add_at]
    rw [Nat.add_assoc]
  have hoff : ((gs.toList.map fun f => (f.offset, X.P.cellsOf f.type, isAggOf X.P f.type)).getD i (0, 0, false)).1 = gs[i].offset := by
    simp [List.getD_eq_getElem?_getD, hi']
  rw [hoff] at H
  unfold a_fa at H
  split at H
  · cases hv with | p hm => exact ⟨_, H, _, key _ _ _, .p hm⟩
  · cases hv with | q h1 h2 => exact ⟨_, H, _, key _ _ _, .q h1 h2⟩
  · exact H.elim
end
end Go.Ab

namespace Go.Ab

section
variable {X : Ctx} {μ : Mu} {Z : Nat → Prop} {w : World} {h : Heap} {K : Kt}

theorem part_run {P : Program} {t : TypeId} {i : TypeInfo} {d : TypeDesc} (hi : P.info? t = some i) (hd : P.underlying t = some d) {us : List Value} {cs : List AV} (hrs : RVs μ Z w us cs) (off : Nat) (h0 : 0 < i.size) (hle : off + i.size ≤ us.length) :
    ∃ z, (Go.part t us.toArray off).run P w = .ok z w ∧ RV μ Z w z (part i.size (isAggOf P t) cs off) := by
  refine ⟨_, ?_, (part_rv hrs i.size off (isAggOf P t) undef).resolve_right (fun e => by omega)⟩
  unfold Go.part
  simp only [Sem.run_bind, run_isAgg hd, Result.andThen_ok]
  cases hag : isAggOf P t with
  | true =>
    simp only [if_true, Sem.run_bind, run_size hi, Result.andThen_ok]
    simp [Sem.run_pure, List.extract_eq_take_drop]
  | false =>
    have h1 : off < us.length := by omega
    simp only [Bool.false_eq_true, if_false, List.getElem?_toArray, List.getElem?_eq_getElem h1, Sem.run_pure]
    rw [List.getD_eq_getElem?_getD, List.getElem?_take, if_pos h0, List.getElem?_drop, Nat.add_zero, List.getElem?_eq_getElem h1]; rfl

theorem fld_sound {s : TypeId} {v : Value} {a : AV} {i n : Nat} {fs : List (Nat × Nat × Bool)} (ht : tkOf X.P s = .st n fs) (hi : i < fs.length) (hv : RV μ Z w v a)
    (H : a_fld (fs.getD i (0, 0, false)).1 (fs.getD i (0, 0, false)).2.1 (fs.getD i (0, 0, false)).2.2 a h K) :
    ∃ r, K.K r h ∧ ∃ z, (Instr.field s v i).run X.P w = .ok z w ∧ RV μ Z w z r := by
  obtain ⟨gs, hu, hne, rfl⟩ := tk_st ht
  have hi' : i < gs.size := by simpa using hi
  obtain ⟨h0, d, hd⟩ := hne gs[i] (by simp)
  have hoff : (gs.toList.map fun f => (f.offset, X.P.cellsOf f.type, isAggOf X.P f.type)).getD i (0, 0, false) = (gs[i].offset, X.P.cellsOf gs[i].type, isAggOf X.P gs[i].type) := by
    simp [List.getD_eq_getElem?_getD, hi']
  rw [hoff] at H
  obtain ⟨inf, hinf⟩ : ∃ inf, X.P.info? gs[i].type = some inf := by
    cases hc : X.P.info? gs[i].type with
    | none => simp [Program.cellsOf, hc] at h0
    | some inf => exact ⟨inf, rfl⟩
  have hc : X.P.cellsOf gs[i].type = inf.size := by simp [Program.cellsOf, hinf]
  rw [hc] at H h0
  cases a with
  | g cs =>
    simp only [a_fld] at H
    cases hv with
    | @g us _ hrs =>
      refine ⟨_, H.2, ?_⟩
      unfold Instr.field
      simp only [Sem.run_bind, run_und hu, Result.andThen_ok, Array.getElem?_eq_getElem hi', asAgg, Sem.run_pure]
      exact part_run hinf hd hrs _ (by omega) (by have := hrs.length; have := H.1; omega)
  | _ => simp [a_fld] at H

theorem z_addr {ad : Addr} {us : List Value} {cs : List AV} (hrs : RVs μ Z w us cs) (hc : ∀ (j : Nat) (u : Value), us[j]? = some u → ∃ ad' : Addr, some ad = some ad' ∧ Z ad'.block ∧ w.cell? (ad'.add j) = some u ∧ u.oneCell' = true)
    (h : 0 < cs.length) : ∃ b o, ad = ⟨b, o, none⟩ := by
  cases us with
  | nil => have := hrs.length; simp at this; omega
  | cons u us =>
    obtain ⟨ad', e, _, h2, _⟩ := hc 0 u rfl
    cases e
    obtain ⟨b, o, s⟩ := ad
    cases s with
    | none => exact ⟨b, o, rfl⟩
    | some s =>
      exfalso
      simp only [Addr.add, if_true, World.cell?] at h2
      split at h2 <;> simp at h2

theorem ia_sound {t e : TypeId} {sz by_ : Nat} {v u : Value} {a b : AV} (ht : tkOf X.P t = .sl e sz by_) (hv : RV μ Z w v a) (hu : RV μ Z w u b) (H : a_ia sz a b h K) :
    ∃ r, K.K r h ∧ ∃ z, (Instr.indexAt t v u).run X.P w = .ok z w ∧ RV μ Z w z r := by
  obtain ⟨hund, inf, z0, hinf, rfl, -, -, -⟩ := tk_sl ht
  have key : ∀ (ad : Addr) (len cap : Nat) (k : IntKind) (i : Int), 0 ≤ i ∧ i < (len : Int) →
      (Instr.indexAt t (.slice (some ad) len cap) (.int k i)).run X.P w = .ok (.pointer (some (ad.add (i.toNat * inf.size)))) w := by
    intro ad len cap k i hi
    unfold Instr.indexAt
    simp only [asIntOf, Sem.run_bind, Sem.run_pure, Result.andThen_ok, run_und hund]
    simp only [if_pos hi, Sem.run_bind, run_size hinf, Result.andThen_ok, Sem.run_pure]
  cases b with
  | v y =>
    cases y with
    | int k i =>
      cases hu
      cases a with
      | s id off len =>
        simp only [a_ia] at H
        cases hv with
        | snil => have := H.1; omega
        | s hm hle hb hc =>
          refine ⟨_, H.2, _, key _ _ _ _ _ H.1, ?_⟩
          rw [add_at, Nat.add_assoc]; exact .p hm
      | w id off len =>
        simp only [a_ia] at H
        cases hv with | w hv => cases hv with
        | snil => have := H.1; omega
        | s hm hle hb hc =>
          refine ⟨_, H.2, _, key _ _ _ _ _ H.1, ?_⟩
          rw [add_at, Nat.add_assoc]; exact .p hm
      | z cs len =>
        simp only [a_ia] at H
        cases hv with
        | @z A _ cap us _ hrs hc hle =>
          cases A with
          | none =>
            have h0 : us = [] := by
              cases us with
              | nil => rfl
              | cons u us => obtain ⟨ad, e, _⟩ := hc 0 u rfl; cases e
            subst h0
            have h1 := hrs.length
            have h2 := H.1.2.2
            simp at h1
            omega
          | some ad =>
            refine ⟨_, H.2, _, key _ _ _ _ _ ⟨H.1.1, H.1.2.1⟩, ?_⟩
            obtain ⟨b, o, rfl⟩ := z_addr hrs hc (by have := H.1.2.2; omega)
            rw [add_at]
            refine .q hrs (fun j u hu => ?_)
            obtain ⟨ad', e', h1, h2, h3⟩ := hc j u hu
            cases e'
            rw [add_at] at h2
            exact ⟨by simpa using h1, h2, h3⟩
      | _ => simp [a_ia] at H
    | _ => cases a <;> simp [a_ia] at H
  | _ => cases a <;> simp [a_ia] at H
theorem iarr_sound {t e : TypeId} {n sz : Nat} {v u : Value} {a b : AV} (ht : tkOf X.P t = .ar n e sz) (hv : RV μ Z w v a) (hu : RV μ Z w u b) (H : a_iarr n sz a b h K) :
    ∃ r, K.K r h ∧ ∃ z, (Instr.indexAt t v u).run X.P w = .ok z w ∧ RV μ Z w z r := by
  obtain ⟨hund, inf, hinf, rfl⟩ := tk_ar ht
  have key : ∀ (ad : Addr) (k : IntKind) (i : Int), 0 ≤ i ∧ i < (n : Int) →
      (Instr.indexAt t (.pointer (some ad)) (.int k i)).run X.P w = .ok (.pointer (some (ad.add (i.toNat * inf.size)))) w := by
    intro ad k i hi
    unfold Instr.indexAt
    simp only [asIntOf, Sem.run_bind, Sem.run_pure, Result.andThen_ok, run_und hund, Instr.sureAddr]
    simp only [if_pos hi, Sem.run_bind, run_size hinf, Result.andThen_ok, Sem.run_pure]
  cases b with
  | v y =>
    cases y with
    | int k i =>
      cases hu
      cases a with
      | p id off =>
        simp only [a_iarr] at H
        cases hv with
        | p hm => refine ⟨_, H.2, _, key _ _ _ H.1, ?_⟩; rw [add_at, Nat.add_assoc]; exact .p hm
      | q cs off =>
        simp only [a_iarr] at H
        cases hv with
        | q h1 h2 => refine ⟨_, H.2, _, key _ _ _ H.1, ?_⟩; rw [add_at, Nat.add_assoc]; exact .q h1 h2
      | _ => simp [a_iarr] at H
    | _ => cases a <;> simp [a_iarr] at H
  | _ => cases a <;> simp [a_iarr] at H

theorem ixs_sound {t : TypeId} {v u : Value} {a b : AV} (ht : tkOf X.P t = .str) (hv : RV μ Z w v a) (hu : RV μ Z w u b) (H : a_ixs a b h K) :
    ∃ r, K.K r h ∧ ∃ z, (Instr.index t v u).run X.P w = .ok z w ∧ RV μ Z w z r := by
  obtain ⟨s, k, i, rfl, rfl⟩ : ∃ s k i, a = .v (.string s) ∧ b = .v (.int k i) := by
    unfold a_ixs at H
    split at H
    · exact ⟨_, _, _, rfl, rfl⟩
    · exact H.elim
  simp only [a_ixs] at H
  cases hv; cases hu
  refine ⟨_, H.2, _, ?_, .v _⟩
  obtain ⟨h0, h1⟩ := H.1
  have h2 : i.toNat < s.size := by omega
  unfold Instr.index
  simp only [asIntOf, Sem.run_bind, Sem.run_pure, Result.andThen_ok, run_und (tk_str ht), if_pos h0]
  have : s[i.toNat]? = some (s.data.toList.getD i.toNat 0) := by
    rw [getElem?_pos s i.toNat h2]
    have h3 : i.toNat < s.data.toList.length := by simpa using h2
    simp only [List.getD_eq_getElem?_getD, List.getElem?_eq_getElem h3, Option.getD_some, Option.some.injEq]
    rfl
  rw [this]
  rfl

theorem ixa_sound {t e : TypeId} {n sz : Nat} {v u : Value} {a b : AV} (ht : tkOf X.P t = .ar n e sz) (hd : tkOf X.P e ≠ .no) (h0 : 0 < sz) (hv : RV μ Z w v a) (hu : RV μ Z w u b) (H : a_ixa n sz (tkOf X.P e).agg a b h K) :
    ∃ r, K.K r h ∧ ∃ z, (Instr.index t v u).run X.P w = .ok z w ∧ RV μ Z w z r := by
  obtain ⟨hund, inf, hinf, rfl⟩ := tk_ar ht
  obtain ⟨inf', d, hi', hd', hs, hg⟩ := tk_info hd
  rw [hinf] at hi'
  cases hi'
  cases b with
  | v y =>
    cases y with
    | int k i =>
      cases hu
      cases a with
      | g cs =>
        simp only [a_ixa] at H
        cases hv with
        | @g us _ hrs =>
          refine ⟨_, H.2, ?_⟩
          unfold Instr.index
          simp only [asIntOf, Sem.run_bind, Sem.run_pure, Result.andThen_ok, run_und hund, if_pos H.1.1, run_size hinf]
          rw [← hg]
          exact part_run hinf hd' hrs _ h0 (by have := hrs.length; have := H.1.2; omega)
      | _ => simp [a_ixa] at H
    | _ => cases a <;> simp [a_ixa] at H
  | _ => cases a <;> simp [a_ixa] at H

theorem ext_sound {i : Nat} {v : Value} {a : AV} (hv : RV μ Z w v a) (H : a_ext i a h K) :
    ∃ r, K.K r h ∧ ∃ z, (Instr.extract v i).run X.P w = .ok z w ∧ RV μ Z w z r := by
  cases a with
  | t vs =>
    simp only [a_ext] at H
    cases hv with
    | @t us _ hrs =>
      have hlen := hrs.length
      have h1 : i < us.length := by have := H.1; omega
      refine ⟨_, H.2, us.getD i undef, ?_, hrs.getD i undef⟩
      simp [Instr.extract, List.getElem?_eq_getElem h1, Sem.run_pure, List.getD_eq_getElem?_getD]
  | _ => simp [a_ext] at H

theorem max_sound {ts : Array TypeId} {t : TypeId} {us : List Value} {as : List AV} (hv : RVs μ Z w us as) (H : a_max as h K) :
    ∃ r, K.K r h ∧ ∃ z, (Builtin.max_ ts t us.toArray).run X.P w = .ok z w ∧ RV μ Z w z r := by
  unfold a_max at H
  split at H
  · cases hv with | cons a hv => cases hv with | cons b hv => cases hv; cases a; cases b; exact ⟨_, H, _, by simp [Builtin.max_, Builtin.max2, Sem.run_pure], .v _⟩
  · exact H.elim
theorem min_sound {ts : Array TypeId} {t : TypeId} {us : List Value} {as : List AV} (hv : RVs μ Z w us as) (H : a_min as h K) :
    ∃ r, K.K r h ∧ ∃ z, (Builtin.min_ ts t us.toArray).run X.P w = .ok z w ∧ RV μ Z w z r := by
  unfold a_min at H
  split at H
  · cases hv with | cons a hv => cases hv with | cons b hv => cases hv; cases a; cases b; exact ⟨_, H, _, by simp [Builtin.min_, Builtin.min2, Sem.run_pure], .v _⟩
  · exact H.elim

/-- an optional operand -/
def ROV (μ : Mu) (Z : Nat → Prop) (w : World) : Option Value → Option AV → Prop
  | none, none => True
  | some v, some b => RV μ Z w v b
  | _, _ => False
theorem bound_run {v : Value} {a : AV} {d hi : Nat} {code : BoundsCode} (hv : RV μ Z w v a) (ok : bOk (some a) hi) :
    (Instr.sliceBound v hi code).run X.P w = .ok (bVal (some a) d) w ∧ bVal (some a) d ≤ hi := by
  cases a with
  | v y =>
    cases y with
    | int k i =>
      simp only [bOk] at ok
      cases hv
      refine ⟨by simp [Instr.sliceBound, asIntOf, Sem.run_pure, ok, bVal], by simp only [bVal]; omega⟩
    | _ => simp [bOk] at ok
  | _ => simp [bOk] at ok

theorem bOk_wide {a : Option AV} {m n : Nat} (hmn : m ≤ n) (hok : bOk a m) : bOk a n := by
  cases a with
  | none => trivial
  | some b => cases b with
    | v y => cases y with
      | int k i => simp only [bOk] at *; omega
      | _ => simp [bOk] at hok
    | _ => simp [bOk] at hok
theorem bVal_le {a : Option AV} {d n : Nat} (hd : d ≤ n) (hok : bOk a n) : bVal a d ≤ n := by
  cases a with
  | none => exact hd
  | some b => cases b with
    | v y => cases y with
      | int k i => simp only [bOk, bVal] at *; omega
      | _ => simp [bOk] at hok
    | _ => simp [bOk] at hok

theorem bounds_run {isSl : Bool} {len cap : Nat} {lo hi : Option Value} {alo ahi : Option AV} (hlo : ROV μ Z w lo alo) (hhi : ROV μ Z w hi ahi) (hle : len ≤ cap) (o1 : bOk ahi len) (o2 : bOk alo (bVal ahi len)) :
    (Instr.sliceBounds isSl len cap lo hi none).run X.P w = .ok (bVal alo 0, bVal ahi len, cap) w := by
  unfold Instr.sliceBounds
  cases hi <;> cases ahi <;> simp only [ROV] at hhi <;> cases lo <;> cases alo <;> simp only [ROV] at hlo <;> simp only [Sem.run_bind, Sem.run_pure, Result.andThen_ok]
  · rfl
  · rw [(bound_run (d := 0) (hi := len) hlo o2).1]; rfl
  · rw [(bound_run (d := len) hhi (bOk_wide hle o1)).1]; rfl
  · rw [(bound_run (d := len) hhi (bOk_wide hle o1)).1]
    simp only [Result.andThen_ok, Sem.run_bind]
    rw [(bound_run (d := 0) hlo o2).1]; rfl

theorem bounds_run3 {isSl : Bool} {len cap : Nat} {lo : Option Value} {hi mx : Value} {alo : Option AV} {ahi : AV} (hlo : ROV μ Z w lo alo) (hhi : RV μ Z w hi ahi) (hmx : RV μ Z w mx ahi) (hle : len ≤ cap) (o1 : bOk (some ahi) len) (o2 : bOk alo (bVal (some ahi) len)) :
    (Instr.sliceBounds isSl len cap lo (some hi) (some mx)).run X.P w = .ok (bVal alo 0, bVal (some ahi) len, bVal (some ahi) len) w := by
  have o3 : bOk (some ahi) (bVal (some ahi) len) := by
    cases ahi with
    | v y => cases y with
      | int k i => simp only [bOk, bVal] at *; omega
      | _ => simp [bOk] at o1
    | _ => simp [bOk] at o1
  unfold Instr.sliceBounds
  cases lo <;> cases alo <;> simp only [ROV] at hlo <;> simp only [Sem.run_bind, Sem.run_pure, Result.andThen_ok]
  · rw [(bound_run (d := len) hmx (bOk_wide hle o1)).1]
    simp only [Result.andThen_ok, Sem.run_bind]
    rw [(bound_run (d := len) hhi o3).1]; rfl
  · rw [(bound_run (d := len) hmx (bOk_wide hle o1)).1]
    simp only [Result.andThen_ok, Sem.run_bind]
    rw [(bound_run (d := len) hhi o3).1]
    simp only [Result.andThen_ok, Sem.run_bind]
    rw [(bound_run (d := 0) hlo o2).1]; rfl

theorem slice_shape {sz : Nat} {x : Value} {lo hi mx : Option AV} (H : a_slice sz (.v x) lo hi mx h K) : x = .slice none 0 0 ∧ mx = none := by
  unfold a_slice at H
  split at H <;> simp_all
theorem len_shape {x : Value} (H : a_len (.v x) h K) : x = .slice none 0 0 := by
  unfold a_len at H
  split at H <;> simp_all
theorem slice_sound (hr : HR X μ Z w h) {t e : TypeId} {sz by_ : Nat} {v : Value} {a : AV} {lo hi mx : Option Value} {alo ahi amx : Option AV} (ht : tkOf X.P t = .sl e sz by_) (hv : RV μ Z w v a)
    (hlo : ROV μ Z w lo alo) (hhi : ROV μ Z w hi ahi) (hmx : ROV μ Z w mx amx) (H : a_slice sz a alo ahi amx h K) :
    ∃ r, K.K r h ∧ ∃ z, (Instr.sliceAt t v lo hi mx).run X.P w = .ok z w ∧ RV μ Z w z r := by
  obtain ⟨hund, inf, z0, hinf, rfl, -, -, -⟩ := tk_sl ht
  have hat : (Instr.sliceAt t v lo hi mx).run X.P w = (Instr.slice t v lo hi mx).run X.P w := by
    unfold Instr.sliceAt
    simp only [Sem.run_bind, run_und hund, Result.andThen_ok]
  have key : ∀ (A : Option Addr) (len cap l b m : Nat), (Instr.sliceBounds true len cap lo hi mx).run X.P w = .ok (l, b, m) w →
      (Instr.slice t (.slice A len cap) lo hi mx).run X.P w = .ok (.slice (if m = l then A else A.map (·.add (l * inf.size))) (b - l) (m - l)) w := by
    intro A len cap l b m hb
    unfold Instr.slice
    simp only [Sem.run_bind, run_und hund, Result.andThen_ok, hb, run_size hinf]
    rfl
  cases a with
  | s id off len =>
    cases amx with
    | some x => simp [a_slice] at H
    | none =>
      cases mx with
      | some x => exact hmx.elim
      | none =>
        simp only [a_slice] at H
        cases ho : h.getD id .dead <;> rw [ho] at H <;> simp only [a_slo] at H
        case o sz1 cs =>
        obtain ⟨⟨rfl, o1, o2⟩, H⟩ := H
        have l1 := bVal_le (Nat.le_refl len) o1
        have l2 := bVal_le (Nat.zero_le _) o2
        rw [hat]
        have hO := hr.obj id
        rw [ho] at hO
        cases hv with
        | snil =>
          refine ⟨_, H, _, key _ _ _ _ _ _ (bounds_run hlo hhi (Nat.le_refl 0) o1 o2), ?_⟩
          have e1 : bVal ahi 0 = 0 := by omega
          have e2 : bVal alo 0 = 0 := by omega
          rw [e1, e2]
          exact .snil
        | @s _ _ _ b o sz' cap c e' f hm hle hb hc =>
          refine ⟨_, H, _, key _ _ _ _ _ _ (bounds_run hlo hhi hle o1 o2), ?_⟩
          by_cases hml : cap = bVal alo 0
          · rw [if_pos hml]
            have e1 : bVal ahi len - bVal alo 0 = 0 := by omega
            have e2 : cap - bVal alo 0 = 0 := by omega
            rw [e1, e2]
            exact .snil
          · rw [if_neg hml]
            simp only [Option.map_some, add_at]
            rw [Nat.add_assoc]
            unfold RO at hO
            rw [hm] at hO
            obtain ⟨rfl, -⟩ := hO
            refine .s hm (by omega) hb ?_
            have : bVal alo 0 * inf.size + (cap - bVal alo 0) * inf.size = cap * inf.size := by rw [← Nat.add_mul]; congr 1; omega
            omega
  | z cs len =>
    simp only [a_slice] at H
    obtain ⟨⟨hmm, o1, o2⟩, H⟩ := H
    have l1 := bVal_le (Nat.le_refl len) o1
    have l2 := bVal_le (Nat.zero_le _) o2
    rw [hat]
    cases hv with
    | @z A _ cap us _ hrs hc hle =>
      -- whatever the capacity left, the cells are these
      have fin : ∀ m, bVal ahi len ≤ m → bVal alo 0 ≤ m → RV μ Z w (.slice (if m = bVal alo 0 then A else A.map (·.add (bVal alo 0 * inf.size))) (bVal ahi len - bVal alo 0) (m - bVal alo 0))
          (.z ((cs.drop (bVal alo 0 * inf.size)).take ((bVal ahi len - bVal alo 0) * inf.size)) (bVal ahi len - bVal alo 0)) := by
        intro m hm1 hm2
        refine .z ((hrs.drop _).take _) (fun j u hu => ?_) (by omega)
        obtain ⟨h1, h2⟩ := seg hu
        obtain ⟨ad, rfl, z1, z2, z3⟩ := hc _ _ h1
        have hne : m ≠ bVal alo 0 := by
          intro e
          have : bVal ahi len - bVal alo 0 = 0 := by omega
          rw [this] at h2; omega
        rw [if_neg hne]
        refine ⟨_, rfl, by rw [add_block]; exact z1, ?_, z3⟩
        have hlen : 0 < cs.length := by
          have := hrs.length
          have := (List.getElem?_eq_some_iff.1 h1).1
          omega
        obtain ⟨b, o, rfl⟩ := z_addr hrs hc hlen
        rw [add_at] at z2
        show w.cell? (((⟨b, o, none⟩ : Addr).add (bVal alo 0 * inf.size)).add j) = some u
        rw [add_at, add_at, Nat.add_assoc]
        exact z2
      rcases hmm with rfl | rfl
      · cases mx with
        | some x => exact hmx.elim
        | none => exact ⟨_, H, _, key _ _ _ _ _ _ (bounds_run hlo hhi hle o1 o2), fin _ (by omega) (by omega)⟩
      · cases amx with
        | none =>
          cases mx with
          | some x => exact hmx.elim
          | none => exact ⟨_, H, _, key _ _ _ _ _ _ (bounds_run hlo hhi hle o1 o2), fin _ (by omega) (by omega)⟩
        | some b =>
          cases mx with
          | none => exact hmx.elim
          | some x =>
            cases hi with
            | none => exact hhi.elim
            | some y => exact ⟨_, H, _, key _ _ _ _ _ _ (bounds_run3 hlo hhi hmx hle o1 o2), fin _ (by omega) (by omega)⟩
  | v x =>
    obtain ⟨rfl, rfl⟩ := slice_shape H
    simp only [a_slice] at H
    obtain ⟨⟨o1, o2⟩, H⟩ := H
    rw [hat]
    cases hv
    cases mx with
    | some x => exact hmx.elim
    | none =>
      refine ⟨_, H, _, ?_, .v _⟩
      have l1 := bVal_le (Nat.le_refl 0) o1
      have e1 : bVal ahi 0 = 0 := by omega
      have e2 : bVal alo 0 = 0 := by have := bVal_le (Nat.zero_le _) o2; omega
      have := bounds_run (isSl := true) (X := X) hlo hhi (Nat.le_refl 0) o1 (by rw [e1]; exact o2)
      rw [key _ _ _ _ _ _ this, e1, e2]
      simp
  | _ => simp [a_slice] at H

theorem sstr_sound {t : TypeId} {v : Value} {a : AV} {lo hi : Option Value} {alo ahi : Option AV} (ht : tkOf X.P t = .str) (hv : RV μ Z w v a)
    (hlo : ROV μ Z w lo alo) (hhi : ROV μ Z w hi ahi) (H : a_sstr a alo ahi h K) :
    ∃ r, K.K r h ∧ ∃ z, (Instr.sliceAt t v lo hi none).run X.P w = .ok z w ∧ RV μ Z w z r := by
  cases a with
  | v x =>
    cases x with
    | string s =>
      simp only [a_sstr] at H
      cases hv
      refine ⟨_, H.2, _, ?_, .v _⟩
      have hb := bounds_run (isSl := false) (X := X) hlo hhi (Nat.le_refl s.size) H.1.1 H.1.2
      unfold Instr.sliceAt
      simp only [Sem.run_bind, run_und (tk_str ht), Result.andThen_ok]
      unfold Instr.slice
      simp only [Sem.run_bind, run_und (tk_str ht), Result.andThen_ok]
      simp only [Option.isSome_none, Bool.false_eq_true, if_false, Sem.run_bind, hb, Result.andThen_ok, Sem.run_pure]
    | _ => simp [a_sstr] at H
  | _ => simp [a_sstr] at H

theorem len_sound {t ty e : TypeId} {sz by_ : Nat} {v : Value} {a : AV} (ht : tkOf X.P t = .sl e sz by_) (hv : RV μ Z w v a) (H : a_len a h K) :
    ∃ r, K.K r h ∧ ∃ z, (Builtin.len_ #[t] ty #[v]).run X.P w = .ok z w ∧ RV μ Z w z r := by
  have sl : ∀ A n c, (Builtin.len_ #[t] ty #[.slice A n c]).run X.P w = .ok (.int .i64 n) w := by
    intro A n c
    unfold Builtin.len_
    simp [run_und (tk_sl ht).1, Sem.run_pure, goInt]
  cases a with
  | s id off n => cases hv with
    | snil => exact ⟨_, H, _, sl _ _ _, .v _⟩
    | s _ _ _ _ => exact ⟨_, H, _, sl _ _ _, .v _⟩
  | w id off n => cases hv with | w hv => cases hv with
    | snil => exact ⟨_, H, _, sl _ _ _, .v _⟩
    | s _ _ _ _ => exact ⟨_, H, _, sl _ _ _, .v _⟩
  | z cs n => cases hv; exact ⟨_, H, _, sl _ _ _, .v _⟩
  | v x =>
    obtain rfl := len_shape H
    simp only [a_len] at H
    cases hv
    exact ⟨_, H, _, sl _ _ _, .v _⟩
  | _ => simp [a_len] at H
theorem lens_sound {t ty : TypeId} {v : Value} {a : AV} (ht : tkOf X.P t = .str) (hv : RV μ Z w v a) (H : a_lens a h K) :
    ∃ r, K.K r h ∧ ∃ z, (Builtin.len_ #[t] ty #[v]).run X.P w = .ok z w ∧ RV μ Z w z r := by
  cases a with
  | v x =>
    cases x with
    | string s =>
      simp only [a_lens] at H
      cases hv
      refine ⟨_, H, _, ?_, .v _⟩
      unfold Builtin.len_
      simp [run_und (tk_str ht), Sem.run_pure, goInt]
    | _ => simp [a_lens] at H
  | _ => simp [a_lens] at H
theorem lenm_sound (hr : HR X μ Z w h) {t ty k e : TypeId} {v : Value} {a : AV} (ht : tkOf X.P t = .mp k e) (hv : RV μ Z w v a) (H : a_lenm a h K) :
    ∃ r, K.K r h ∧ ∃ z, (Builtin.len_ #[t] ty #[v]).run X.P w = .ok z w ∧ RV μ Z w z r := by
  cases a with
  | m id =>
    simp only [a_lenm] at H
    cases ho : h.getD id .dead <;> rw [ho] at H <;> simp only [a_lenmo] at H
    case m es =>
      cases hv with
      | @m _ b o sz hm =>
        have := hr.obj id
        rw [ho] at this
        obtain ⟨b', o', sz', ents, clock, ks, vs, hm', hz, hb, rfl, rfl, h1, h2⟩ := this
        rw [hm] at hm'
        cases hm'
        refine ⟨_, H, _, ?_, .v _⟩
        have hl := h1.length
        simp at hl
        unfold Builtin.len_
        simp [run_und (tk_mp ht), getObj, Sem.run, hb, Sem.run_pure, goInt, hl]
  | v x =>
    unfold a_lenm at H
    split at H
    · contradiction
    · rename AV.v x = _ => e; cases e
      cases hv
      refine ⟨_, H, _, ?_, .v _⟩
      unfold Builtin.len_
      simp [run_und (tk_mp ht), Sem.run_pure, goInt]
    · exact H.elim
  | _ => simp [a_lenm] at H

/-! composite values -/
theorem RV.cells {v : Value} {a : AV} (hv : RV μ Z w v a) (h1 : a.cells.all AV.one = true) : RVs μ Z w v.cells.toList a.cells ∧ ∀ u ∈ v.cells.toList, u.oneCell' = true := by
  have one : ∀ {u : Value} {x : AV}, RV μ Z w u x → x.one = true → u.oneCell' = true := by
    intro u x hu hx
    cases hu with
    | v x => cases u <;> first | rfl | (simp [AV.one] at hx)
    | w hu => cases hu <;> rfl
    | _ => first | rfl | (simp [AV.one] at hx)
  have plain : a.cells = [a] → v.cells = #[v] → RVs μ Z w v.cells.toList a.cells ∧ ∀ u ∈ v.cells.toList, u.oneCell' = true := by
    intro e1 e2
    rw [e1, e2]
    rw [e1] at h1
    simp at h1
    exact ⟨.cons hv .nil, fun u hu => by simp at hu; subst hu; exact one hv h1⟩
  cases hv with
  | g hrs =>
    refine ⟨hrs, fun u hu => ?_⟩
    obtain ⟨j, hj⟩ := List.mem_iff_getElem?.1 hu
    obtain ⟨x, hx, hr⟩ := hrs.get hj
    exact one hr (List.all_eq_true.1 h1 x (List.mem_of_getElem? hx))
  | v x =>
    cases v with
    | agg cs => simp [AV.cells, AV.one] at h1
    | _ => exact plain rfl rfl
  | bad => simp [AV.cells, AV.one] at h1
  | w hw => exact plain rfl (by cases hw <;> rfl)
  | _ => exact plain rfl rfl

/-- the model's way of laying a part -/
theorem lay_rv : ∀ {xs : List Value} {as : List AV} {us : List Value} {cs : List AV} (off : Nat), RVs μ Z w us cs → RVs μ Z w xs as → ∀ (arr : Array Value), arr.toList = us → ∀ k,
    RVs μ Z w ((xs.zipIdx k).foldl (fun (cs : Array Value) p => cs.setIfInBounds (off + p.2) p.1) arr).toList (setAt cs (off + k) as)
  | [], _, us, cs, off, hrs, .nil, arr, he, k => by simpa [setAt, he] using hrs
  | x :: xs, a :: as, us, cs, off, hrs, .cons hx hxs, arr, he, k => by
    have := lay_rv off (hrs.set (off + k) hx) hxs (arr.setIfInBounds (off + k) x) (by simp [he]) (k + 1)
    simp only [setAt, List.zipIdx_cons, List.foldl_cons]
    rw [show off + (k + 1) = off + k + 1 from by omega] at this
    exact this
theorem lay_eq (c : Array Value) (off : Nat) (arr : Array Value) :
    c.zipIdx.foldl (fun cs (p : Value × Nat) => cs.setIfInBounds (off + p.2) p.1) arr = (c.toList.zipIdx 0).foldl (fun (cs : Array Value) p => cs.setIfInBounds (off + p.2) p.1) arr := by
  rw [← Array.foldl_toList]; simp
theorem lay_size (xs : List Value) (off : Nat) : ∀ (k : Nat) (arr : Array Value), ((xs.zipIdx k).foldl (fun (cs : Array Value) p => cs.setIfInBounds (off + p.2) p.1) arr).size = arr.size := by
  induction xs with
  | nil => intro k arr; rfl
  | cons x xs ih => intro k arr; simp only [List.zipIdx_cons, List.foldl_cons]; rw [ih]; simp

theorem setAt_length (cs : List AV) : ∀ (xs : List AV) (off : Nat), (setAt cs off xs).length = cs.length
  | [], off => rfl
  | x :: xs, off => by simp only [setAt]; rw [setAt_length _ xs]; simp

/-- parts and their operands' values -/
theorem fill_rv {place : Nat → Option (Nat × Nat)} : ∀ {ps : List (Nat × Value)} {qs : Parts} {arr : Array Value} {cs : List AV}, RVs μ Z w arr.toList cs →
    ps.length = qs.length → (∀ (j : Nat) (p : Nat × Value) (q : Nat × Nat × AV), ps[j]? = some p → qs[j]? = some q → place p.1 = some (q.1, q.2.1) ∧ RV μ Z w p.2 q.2.2) → fits cs.length qs →
    ∃ arr', Instr.fill place arr ps = some arr' ∧ RVs μ Z w arr'.toList (fill cs qs) ∧ arr'.size = arr.size
  | [], [], arr, cs, hrs, _, _, _ => ⟨arr, rfl, hrs, rfl⟩
  | (i, v) :: ps, (off, n, x) :: qs, arr, cs, hrs, hl, hp, hf => by
    obtain ⟨⟨f1, f2, f3⟩, hf⟩ := hf
    obtain ⟨hpl, hv⟩ := hp 0 (i, v) (off, n, x) rfl rfl
    obtain ⟨hc, -⟩ := hv.cells f3
    have hlen := hc.length
    simp only [Array.length_toList] at hlen
    have hlen2 := hrs.length
    simp only [Array.length_toList] at hlen2
    have hlay := lay_rv off hrs hc arr rfl 0
    rw [Nat.add_zero] at hlay
    obtain ⟨arr', h1, h2, h3⟩ := fill_rv (place := place) (ps := ps) (qs := qs) hlay (by simpa using hl) (fun j p q hp' hq' => hp (j + 1) p q (by simpa using hp') (by simpa using hq')) (by rw [setAt_length]; exact hf)
    refine ⟨arr', ?_, h2, by rw [h3, lay_size]⟩
    unfold Instr.fill
    simp only [] at hpl
    rw [hpl]
    have c1 : ¬ (v.cells.size ≠ n ∨ off + v.cells.size > arr.size) := by
      intro e
      rcases e with e | e <;> omega
    simp only [ne_eq, Bool.or_eq_true, decide_eq_true_eq] at c1 ⊢
    rw [if_neg c1, lay_eq]
    exact h1
end
end Go.Ab

namespace Go.Ab

section
variable {X : Ctx} {μ : Mu} {Z : Nat → Prop} {w : World} {h : Heap} {K : Kt}

theorem zero_run {P : Program} {t : TypeId} {z : List AV} (hz : zeroOf P t = some z) : ∃ v, (zeroValue t).run P w = .ok v w ∧ z = v.cells.toList.map AV.v := by
  unfold zeroOf at hz
  cases hi : P.info? t with
  | none => simp [hi] at hz
  | some i =>
    cases hv : i.zero with
    | none => simp [hi, hv] at hz
    | some v =>
      simp [hi, hv] at hz
      refine ⟨v, ?_, hz.symm⟩
      simp [zeroValue, run_ti hi, hv, Sem.run_pure]

theorem mapM_run {α β : Type} {P : Program} {f : α → Sem β} {g : α → β} : ∀ (l : List α), (∀ x ∈ l, (f x).run P w = .ok (g x) w) → (l.mapM f).run P w = .ok (l.map g) w
  | [], _ => by simp [Sem.run_pure]
  | x :: l, hx => by
    simp only [List.mapM_cons, Sem.run_bind, hx x (by simp), Result.andThen_ok, mapM_run l (fun y hy => hx y (by simp [hy])), Sem.run_pure, List.map_cons]

theorem build_sound {t : TypeId} {z : List AV} {ps : Array (Nat × Value)} {qs : Parts} {place : Nat → Nat × Nat}
    (ht : (∃ n fs, tkOf X.P t = .st n fs ∧ (∀ p ∈ ps.toList, p.1 < fs.length) ∧ ∀ i, place i = ((fs.getD i (0, 0, false)).1, (fs.getD i (0, 0, false)).2.1)) ∨ (∃ n e sz, tkOf X.P t = .ar n e sz ∧ ∀ i, place i = (i * sz, sz)))
    (hz : zeroOf X.P t = some z) (hl : ps.size = qs.length)
    (hp : ∀ (j : Nat) (p : Nat × Value) (q : Nat × Nat × AV), ps.toList[j]? = some p → qs[j]? = some q → place p.1 = (q.1, q.2.1) ∧ RV μ Z w p.2 q.2.2) (H : a_build z qs h K) :
    ∃ r, K.K r h ∧ ∃ u, (Instr.build t ps).run X.P w = .ok u w ∧ RV μ Z w u r := by
  obtain ⟨v, hv, rfl⟩ := zero_run (w := w) hz
  obtain ⟨hf, HK⟩ := H
  refine ⟨_, HK, ?_⟩
  have hrs : RVs μ Z w v.cells.toList (v.cells.toList.map AV.v) := RVs.scalars _
  rcases ht with ⟨n, fs, ht, hin, hpl⟩ | ⟨n, e, sz, ht, hpl⟩
  · obtain ⟨gs, hu, hne, rfl⟩ := tk_st ht
    have hm : (gs.mapM (fun f => do pure (f.offset, ← sizeOf f.type) : Field → Sem (Nat × Nat))).run X.P w = .ok (gs.toList.map fun f => (f.offset, X.P.cellsOf f.type)).toArray w := by
      rw [Array.mapM_eq_mapM_toList, Sem.run_map, mapM_run (g := fun f => (f.offset, X.P.cellsOf f.type))]
      · rfl
      · intro f hf
        obtain ⟨h0, d, hd⟩ := hne f hf
        obtain ⟨inf, hinf⟩ : ∃ inf, X.P.info? f.type = some inf := by
          cases hc : X.P.info? f.type with
          | none => simp [Program.cellsOf, hc] at h0
          | some inf => exact ⟨inf, rfl⟩
        simp [run_size hinf, Sem.run_pure, Program.cellsOf, hinf]
    obtain ⟨arr', h1, h2, -⟩ := fill_rv (place := fun i => (gs.toList.map fun f => (f.offset, X.P.cellsOf f.type)).toArray[i]?) (ps := ps.toList) (qs := qs) hrs (by simpa using hl) (fun j p q hp' hq' => by
      obtain ⟨e1, e2⟩ := hp j p q hp' hq'
      refine ⟨?_, e2⟩
      have hi := hin p (List.mem_of_getElem? hp')
      rw [hpl] at e1
      have hi' : p.1 < gs.size := by simpa using hi
      simp [List.getD_eq_getElem?_getD, hi'] at e1
      simp [hi', ← e1.1, ← e1.2]) hf
    refine ⟨.agg arr', ?_, .g h2⟩
    unfold Instr.build
    simp only [Sem.run_bind, hv, Result.andThen_ok, run_und hu, hm]
    rw [h1]
    rfl
  · obtain ⟨hu, inf, hinf, rfl⟩ := tk_ar ht
    obtain ⟨arr', h1, h2, -⟩ := fill_rv (place := fun i => some (i * inf.size, inf.size)) (ps := ps.toList) (qs := qs) hrs (by simpa using hl) (fun j p q hp' hq' => by
      obtain ⟨e1, e2⟩ := hp j p q hp' hq'
      exact ⟨by rw [← e1, hpl], e2⟩) hf
    refine ⟨.agg arr', ?_, .g h2⟩
    unfold Instr.build
    simp only [Sem.run_bind, hv, Result.andThen_ok, run_und hu, run_size hinf]
    rw [h1]
    rfl

/-! ### All that only reads -/
def RdS (X : Ctx) (o : Oper) (ρ : Operand → AV) (h : Heap) (r : AV) : Prop :=
  ∀ μ Z w (σ : Operand → Value), HR X μ Z w h → (∀ x : Operand, RV μ Z w (σ x) (ρ x)) → ∃ u, (execOp σ o).run X.P w = .ok (.value u) w ∧ RV μ Z w u r
end
end Go.Ab

namespace Go.Ab

section
variable {X : Ctx} {μ μ' : Mu} {Z Z' : Nat → Prop} {w w' : World} {h h' : Heap} {K : Kt}

theorem RO.mono {id : Nat} {o : AO} (hr : RO μ Z w id o) (m : Mov μ Z w μ' Z' w') (hm : μ' id = μ id) (hb : o ≠ .dead → ∀ b o' sz, μ id = some (b, o', sz) → w'.heap[b]? = w.heap[b]? ∧ ¬ Z' b) : RO μ' Z' w' id o := by
  cases o with
  | dead => trivial
  | o sz cs =>
    unfold RO at *
    rw [hm]
    cases he : μ id with
    | none => rw [he] at hr; exact hr
    | some x =>
      obtain ⟨b, o', sz'⟩ := x
      rw [he] at hr
      obtain ⟨h1, h2, c, e, f, us, h3, h4, h5, h6, h7⟩ := hr
      obtain ⟨e1, e2⟩ := hb (by simp) b o' sz' he
      exact ⟨h1, e2, c, e, f, us, e1.trans h3, h4, h5, h6, h7.mono m⟩
  | m es =>
    obtain ⟨b, o', sz', ents, clock, ks, vs, h1, h2, h3, h4, h5, h6, h7⟩ := hr
    obtain ⟨e1, e2⟩ := hb (by simp) b o' sz' h1
    exact ⟨b, o', sz', ents, clock, ks, vs, hm.trans h1, e2, e1.trans h3, h4, h5, h6.mono m, h7.mono m⟩
  | k b f tm =>
    obtain ⟨o', sz', us, h1, h2, h3, h4⟩ := hr
    obtain ⟨e1, e2⟩ := hb (by simp) b o' sz' h1
    exact ⟨o', sz', us, hm.trans h1, e2, e1.trans h3, h4.mono m⟩

/-- the general step: what is new (or other) is shown, the rest stays -/
theorem HR.step (hr : HR X μ Z w h) {C : Nat → Prop}
    (mu : ∀ id, id < h.length → μ' id = μ id)
    (os : w'.os = w.os) (tape : w'.tape = w.tape) (output : w'.output = w.output) (size : w.heap.size ≤ w'.heap.size)
    (block : ∀ b, b < w.heap.size → ¬ C b → w'.heap[b]? = w.heap[b]?)
    (hC : ∀ b, C b → foot μ h b)
    (cells : ∀ (b : Nat) (c : Array Value) (e : TypeId) (f : Nat × Nat), C b → w.heap[b]? = some (Obj.cells c e f) → ∃ (c' : Array Value) (f' : Nat × Nat), w'.heap[b]? = some (Obj.cells c' e f') ∧ c'.size = c.size)
    (z1 : ∀ b, Z b → Z' b) (z2 : ∀ b, Z' b → Z b ∨ foot μ h b ∨ w.heap.size ≤ b) (z3 : ∀ b, Z' b → b < w'.heap.size)
    (len : h.length ≤ h'.length)
    (old : ∀ id, id < h.length → h'.getD id .dead ≠ .dead → (h'.getD id .dead = h.getD id .dead ∧ ∀ b o sz, μ id = some (b, o, sz) → ¬ C b ∧ ¬ Z' b) ∨ RO μ' Z' w' id (h'.getD id .dead))
    (livesOld : ∀ id, id < h.length → h'.getD id .dead ≠ .dead → h.getD id .dead ≠ .dead)
    (new : ∀ id, h.length ≤ id → h'.getD id .dead ≠ .dead → RO μ' Z' w' id (h'.getD id .dead))
    (dom : ∀ id, h'.length ≤ id → μ' id = none)
    (inj : ∀ i j b, lives μ' h' i b → lives μ' h' j b → i = j)
    (foot' : ∀ b, foot μ' h' b → foot μ h b ∨ w.heap.size ≤ b) (apart' : ∀ b, foot μ' h' b → ¬ Z' b) :
    HR X μ' Z' w' h' ∧ Ext (foot μ h) μ Z w h.length μ' Z' w' h' := by
  have hcells : ∀ (b : Nat) (c : Array Value) (e : TypeId) (f : Nat × Nat), w.heap[b]? = some (Obj.cells c e f) → ∃ (c' : Array Value) (f' : Nat × Nat), w'.heap[b]? = some (Obj.cells c' e f') ∧ c'.size = c.size := by
    intro b c e f hb
    by_cases hc : C b
    · exact cells b c e f hc hb
    · exact ⟨c, f, (block b (Array.getElem?_eq_some_iff.1 hb).1 hc).trans hb, rfl⟩
  have hmov : Mov μ Z w μ' Z' w' := ⟨fun id x hx => by
      have hid : id < h.length := by
        rcases Nat.lt_or_ge id h.length with h1 | h1
        · exact h1
        · rw [hr.dom id h1] at hx; cases hx
      rw [mu id hid]; exact hx,
    z1, fun b hb => block b (hr.zlt b hb) (fun hc => hr.apart b (hC b hc) hb), hcells⟩
  refine ⟨⟨fun id => ?_, inj, z3, dom, apart', fun g hg => ?_⟩, ⟨mu, z1, z2, os, tape, output, size, fun b hb hn => block b hb (fun hc => hn (hC b hc)), hcells, foot', len⟩⟩
  · by_cases hd : h'.getD id .dead = .dead
    · rw [hd]; trivial
    · rcases Nat.lt_or_ge id h.length with h1 | h1
      · rcases old id h1 hd with ⟨e, hc⟩ | h2
        · rw [e]
          refine (hr.obj id).mono hmov (mu id h1) (fun _ b o sz hm => ?_)
          obtain ⟨c1, c2⟩ := hc b o sz hm
          have hl : b < w.heap.size := by
            have h3 := hr.obj id
            cases ho : h.getD id .dead with
            | dead => exact absurd ho (livesOld id h1 hd)
            | o sz' cs =>
              rw [ho] at h3; unfold RO at h3; rw [hm] at h3
              obtain ⟨_, _, c, e, f, us, h4, _⟩ := h3
              exact (Array.getElem?_eq_some_iff.1 h4).1
            | m es =>
              rw [ho] at h3
              obtain ⟨b', o', sz', ents, clock, ks, vs, h4, _, h5, _⟩ := h3
              rw [hm] at h4; cases h4
              exact (Array.getElem?_eq_some_iff.1 h5).1
            | k b' f tm =>
              rw [ho] at h3
              obtain ⟨o', sz', us, h4, _, h5, _⟩ := h3
              rw [hm] at h4; cases h4
              exact (Array.getElem?_eq_some_iff.1 h5).1
          exact ⟨block b hl c1, c2⟩
        · exact h2
      · exact new id h1 hd
  · obtain ⟨us, h1, h2⟩ := hr.glob g hg
    exact ⟨us, h1.mono hmov, fun j u hu => by
      obtain ⟨h3, h4, h5⟩ := h2 j u hu
      exact ⟨z1 _ h3, (cell_same (block _ (hr.zlt _ h3) (fun hc => hr.apart _ (hC _ hc) h3))).trans h4, h5⟩⟩

theorem getD_push (h : Heap) (o : AO) (id : Nat) : (h ++ [o]).getD id .dead = if id = h.length then o else h.getD id .dead := by
  simp only [List.getD_eq_getElem?_getD, List.getElem?_append]
  split
  · rw [if_neg (by omega)]
  · rename_i h1
    by_cases h2 : id = h.length
    · subst h2; simp
    · rw [if_neg h2, List.getElem?_eq_none (by simp; omega), List.getElem?_eq_none (by omega)]
theorem getD_ge (h : Heap) (id : Nat) (h1 : h.length ≤ id) : h.getD id .dead = .dead := by
  rw [List.getD_eq_getElem?_getD, List.getElem?_eq_none h1]; rfl

/-- a new object in a new block -/
theorem HR.push (hr : HR X μ Z w h) (o : AO) (hd : o ≠ .dead) (sz : Nat) (b0 : Nat) (hb0 : w.heap.size ≤ b0) (hb1 : b0 < w'.heap.size)
    (os : w'.os = w.os) (tape : w'.tape = w.tape) (output : w'.output = w.output) (size : w.heap.size ≤ w'.heap.size)
    (block : ∀ b, b < w.heap.size → w'.heap[b]? = w.heap[b]?)
    (new : ∀ μ', (∀ id, id ≠ h.length → μ' id = μ id) → μ' h.length = some (b0, 0, sz) → Mov μ Z w μ' Z w' → RO μ' Z w' h.length o) :
    ∃ μ', HR X μ' Z w' (h ++ [o]) ∧ Ext (foot μ h) μ Z w h.length μ' Z w' (h ++ [o]) ∧ μ' h.length = some (b0, 0, sz) ∧ Mov μ Z w μ' Z w' := by
  let μ' : Mu := fun id => if id = h.length then some (b0, 0, sz) else μ id
  have m1 : ∀ id, id ≠ h.length → μ' id = μ id := fun id hid => if_neg hid
  have m2 : μ' h.length = some (b0, 0, sz) := if_pos rfl
  have hmov : Mov μ Z w μ' Z w' := ⟨fun id x hx => by
      have hid : id < h.length := by
        rcases Nat.lt_or_ge id h.length with h1 | h1
        · exact h1
        · rw [hr.dom id h1] at hx; cases hx
      rw [m1 id (by omega)]; exact hx,
    fun b hb => hb, fun b hb => block b (hr.zlt b hb), fun b c e f hb => ⟨c, f, (block b (Array.getElem?_eq_some_iff.1 hb).1).trans hb, rfl⟩⟩
  have liv : ∀ i b, lives μ' (h ++ [o]) i b → (i = h.length ∧ b = b0) ∨ (i ≠ h.length ∧ lives μ h i b) := by
    rintro i b ⟨h1, o', sz', h2⟩
    rw [getD_push] at h1
    by_cases hi : i = h.length
    · subst hi
      rw [m2] at h2; cases h2
      exact .inl ⟨rfl, rfl⟩
    · rw [if_neg hi] at h1
      rw [m1 i hi] at h2
      exact .inr ⟨hi, h1, o', sz', h2⟩
  have lt : ∀ i b, lives μ h i b → b < w.heap.size := by
    rintro i b ⟨h1, o', sz', h2⟩
    have h3 := hr.obj i
    cases ho : h.getD i .dead with
    | dead => exact absurd ho h1
    | o sz' cs =>
      rw [ho] at h3; unfold RO at h3; rw [h2] at h3
      obtain ⟨_, _, c, e, f, us, h4, _⟩ := h3
      exact (Array.getElem?_eq_some_iff.1 h4).1
    | m es =>
      rw [ho] at h3
      obtain ⟨b', o', sz', ents, clock, ks, vs, h4, _, h5, _⟩ := h3
      rw [h2] at h4; cases h4
      exact (Array.getElem?_eq_some_iff.1 h5).1
    | k b' f tm =>
      rw [ho] at h3
      obtain ⟨o', sz', us, h4, _, h5, _⟩ := h3
      rw [h2] at h4; cases h4
      exact (Array.getElem?_eq_some_iff.1 h5).1
  obtain ⟨r1, r2⟩ := HR.step (μ' := μ') (Z' := Z) (w' := w') (h' := h ++ [o]) (C := fun _ => False) hr (fun id hid => m1 id (by omega)) os tape output size (fun b hb _ => block b hb) (fun _ hc => hc.elim) (fun _ _ _ _ hc => hc.elim)
    (fun b hb => hb) (fun b hb => .inl hb) (fun b hb => by have := hr.zlt b hb; omega) (by simp)
    (fun id hid hd' => .inl ⟨by rw [getD_push, if_neg (by omega)], fun b o sz hm => ⟨fun hc => hc, hr.apart b ⟨id, by rw [getD_push, if_neg (by omega)] at hd'; exact hd', o, sz, hm⟩⟩⟩)
    (fun id hid hd' => by rw [getD_push, if_neg (by omega)] at hd'; exact hd')
    (fun id hid hd' => by
      rw [getD_push] at hd' ⊢
      by_cases hi : id = h.length
      · subst hi; rw [if_pos rfl]; exact new μ' m1 m2 hmov
      · rw [if_neg hi, getD_ge h id hid] at hd'; exact absurd rfl hd')
    (fun id hid => by rw [m1 id (by simp at hid; omega)]; exact hr.dom id (by simp at hid; omega))
    (fun i j b hi hj => by
      rcases liv i b hi with ⟨e1, e2⟩ | ⟨e1, e2⟩ <;> rcases liv j b hj with ⟨e3, e4⟩ | ⟨e3, e4⟩
      · omega
      · have := lt j b e4; omega
      · have := lt i b e2; omega
      · exact hr.inj i j b e2 e4)
    (fun b ⟨i, hi⟩ => by
      rcases liv i b hi with ⟨e1, e2⟩ | ⟨e1, e2⟩
      · exact .inr (by omega)
      · exact .inl ⟨i, e2⟩)
    (fun b ⟨i, hi⟩ hz => by
      rcases liv i b hi with ⟨e1, e2⟩ | ⟨e1, e2⟩
      · have := hr.zlt b hz; omega
      · exact hr.apart b ⟨i, e2⟩ hz)
  exact ⟨μ', r1, r2, m2, hmov⟩
end
end Go.Ab

namespace Go.Ab

section
variable {X : Ctx} {μ μ' : Mu} {Z Z' : Nat → Prop} {w w' : World} {h h' : Heap} {K : Kt}

/-- what an operation that may turn memory comes to -/
def EfS (X : Ctx) (μ : Mu) (Z : Nat → Prop) (w : World) (h : Heap) (K : Kt) (s : Sem Value) : Prop :=
  ∃ u w' r h' μ' Z', s.run X.P w = .ok u w' ∧ K.K r h' ∧ HR X μ' Z' w' h' ∧ RV μ' Z' w' u r ∧ Ext (foot μ h) μ Z w h.length μ' Z' w' h'

theorem foot_lt (hr : HR X μ Z w h) {i b : Nat} (hl : lives μ h i b) : b < w.heap.size := by
  obtain ⟨h1, o', sz', h2⟩ := hl
  have h3 := hr.obj i
  cases ho : h.getD i .dead with
  | dead => exact absurd ho h1
  | o sz' cs =>
    rw [ho] at h3; unfold RO at h3; rw [h2] at h3
    obtain ⟨_, _, c, e, f, us, h4, _⟩ := h3
    exact (Array.getElem?_eq_some_iff.1 h4).1
  | m es =>
    rw [ho] at h3
    obtain ⟨b', o', sz', ents, clock, ks, vs, h4, _, h5, _⟩ := h3
    rw [h2] at h4; cases h4
    exact (Array.getElem?_eq_some_iff.1 h5).1
  | k b' f tm =>
    rw [ho] at h3
    obtain ⟨o', sz', us, h4, _, h5, _⟩ := h3
    rw [h2] at h4; cases h4
    exact (Array.getElem?_eq_some_iff.1 h5).1

/-- new cells in a new block -/
theorem HR.cellsNew (hr : HR X μ Z w h) (sz : Nat) {us : List Value} {cs : List AV} {c : Array Value} {e : TypeId} {f : Nat × Nat} (hrs : RVs μ Z w us cs) (h1 : ∀ u ∈ us, u.oneCell' = true)
    (hc : ∀ (j : Nat) (u : Value), us[j]? = some u → c[j]? = some u) (hl : us.length ≤ c.size) (hf : c.size ≤ f.1 ∨ f.1 = f.2)
    (os : w'.os = w.os) (tape : w'.tape = w.tape) (output : w'.output = w.output) (size : w'.heap.size = w.heap.size + 1)
    (block : ∀ b, b < w.heap.size → w'.heap[b]? = w.heap[b]?) (hb : w'.heap[w.heap.size]? = some (.cells c e f)) :
    ∃ μ', HR X μ' Z w' (h ++ [.o sz cs]) ∧ Ext (foot μ h) μ Z w h.length μ' Z w' (h ++ [.o sz cs]) ∧ μ' h.length = some (w.heap.size, 0, sz) ∧ Mov μ Z w μ' Z w' :=
  hr.push (.o sz cs) (by simp) sz w.heap.size (Nat.le_refl _) (by omega) os tape output (by omega) block (fun μ' m1 m2 hm => by
    unfold RO
    rw [m2]
    refine ⟨rfl, fun hz => by have := hr.zlt _ hz; omega, c, e, f, us, hb, hf, ?_, fun j u hu => ⟨by rw [Nat.zero_add]; exact hc j u hu, h1 u (List.mem_of_getElem? hu)⟩, hrs.mono hm⟩
    have := hrs.length; omega)

theorem alloc_old (w : World) (o : Obj) (b : Nat) (hb : b < w.heap.size) : (w.alloc o).heap[b]? = w.heap[b]? := by
  show (w.heap.push o)[b]? = _
  rw [Array.getElem?_push, if_neg (by omega)]
theorem alloc_new (w : World) (o : Obj) : (w.alloc o).heap[w.heap.size]? = some o := by
  show (w.heap.push o)[w.heap.size]? = _
  rw [Array.getElem?_push, if_pos rfl]
theorem newRow_run {P : Program} (e : TypeId) (c : Array Value) (w : World) : (newRow e c).run P w = .ok ⟨w.heap.size, 0, none⟩ (w.alloc (.cells c e)) := by
  rfl

theorem box_sound (hr : HR X μ Z w h) {t : TypeId} {v : Value} {a : AV} (hv : RV μ Z w v a) (H : a_box a h K) : EfS X μ Z w h K (Instr.box t v) := by
  obtain ⟨h1, H⟩ := H
  obtain ⟨hc, h1c⟩ := hv.cells h1
  obtain ⟨μ', r1, r2, r3, r4⟩ := hr.cellsNew (w' := w.alloc (.cells v.cells t)) (f := (0, 0)) 1 hc h1c (fun j u hu => by simpa using hu) (by simp) (.inr rfl) rfl rfl rfl (by simp)
    (fun b hb => alloc_old w _ b hb) (alloc_new w _)
  refine ⟨.pointer (some ⟨w.heap.size, 0, none⟩), _, _, _, μ', Z, ?_, H, r1, ?_, r2⟩
  · simp only [Instr.box, newVar, Sem.run_bind, newRow_run, Result.andThen_ok, Sem.run_pure]
  · have := RV.p (μ := μ') (Z := Z) (w := w.alloc (.cells v.cells t)) (off := 0) r3
    simpa using this

theorem scalars_one {us : List Value} (h : (us.map AV.v).all AV.one = true) : ∀ u ∈ us, u.oneCell' = true := by
  intro u hu
  have := List.all_eq_true.1 h (.v u) (List.mem_map.2 ⟨u, hu, rfl⟩)
  cases u <;> first | rfl | simp [AV.one] at this

theorem alloc_sound (hr : HR X μ Z w h) {t : TypeId} {z : List AV} (hz : zeroOf X.P t = some z) (H : a_alloc z h K) : EfS X μ Z w h K (Instr.alloc t true (.tuple #[])) := by
  obtain ⟨v, hv, rfl⟩ := zero_run (w := w) hz
  obtain ⟨h1, H⟩ := H
  obtain ⟨μ', r1, r2, r3, r4⟩ := hr.cellsNew (w' := w.alloc (.cells v.cells t)) (f := (0, 0)) 1 (RVs.scalars v.cells.toList) (scalars_one h1) (fun j u hu => by simpa using hu) (by simp) (.inr rfl) rfl rfl rfl (by simp)
    (fun b hb => alloc_old w _ b hb) (alloc_new w _)
  refine ⟨.pointer (some ⟨w.heap.size, 0, none⟩), _, _, _, μ', Z, ?_, H, r1, ?_, r2⟩
  · simp only [Instr.alloc, Sem.run_bind, hv, Result.andThen_ok, newVar, newRow_run, Sem.run_pure]
  · have := RV.p (μ := μ') (Z := Z) (w := w.alloc (.cells v.cells t)) (off := 0) r3
    simpa using this

theorem rep_get {α : Type} (z : List α) (n j : Nat) (hz : 0 < z.length) (hj : j < n * z.length) : ((List.replicate n z).flatten)[j]? = z[j % z.length]? := by
  induction n generalizing j with
  | zero => omega
  | succ n ih =>
    rw [List.replicate_succ, List.flatten_cons]
    by_cases h : j < z.length
    · rw [List.getElem?_append_left h, Nat.mod_eq_of_lt h]
    · rw [List.getElem?_append_right (by omega), ih (j - z.length) (by rw [Nat.add_mul] at hj; omega)]
      congr 1
      conv => rhs; rw [Nat.mod_eq_sub_mod (by omega)]
theorem rep_len {α : Type} (z : List α) (n : Nat) : ((List.replicate n z).flatten).length = n * z.length := by
  induction n with
  | zero => simp
  | succ n ih => rw [List.replicate_succ, List.flatten_cons, List.length_append, ih]; rw [Nat.add_mul]; omega

/-- zero cells, n times -/
theorem zeros_eq (zc : Array Value) (n : Nat) (h : 0 < zc.size) : ((Array.range (n * zc.size)).map (zc[· % zc.size]!)).toList = (List.replicate n zc.toList).flatten := by
  apply List.ext_getElem?
  intro j
  by_cases hj : j < n * zc.size
  · rw [rep_get zc.toList n j (by simpa using h) (by simpa using hj)]
    have h2 : j % zc.size < zc.size := Nat.mod_lt _ h
    simp [hj, h2]
  · rw [List.getElem?_eq_none (by simp; omega), List.getElem?_eq_none (by rw [rep_len]; simp; omega)]

theorem map_rep (z : List Value) (n : Nat) : (List.replicate n (z.map AV.v)).flatten = ((List.replicate n z).flatten).map AV.v := by
  induction n with
  | zero => rfl
  | succ n ih => rw [List.replicate_succ, List.flatten_cons, List.replicate_succ, List.flatten_cons, List.map_append, ih]

theorem lay_one (xs : List Value) (off : Nat) : ∀ (k : Nat) (arr : Array Value), (∀ u ∈ arr.toList, u.oneCell' = true) → (∀ u ∈ xs, u.oneCell' = true) →
    ∀ u ∈ ((xs.zipIdx k).foldl (fun (cs : Array Value) p => cs.setIfInBounds (off + p.2) p.1) arr).toList, u.oneCell' = true := by
  induction xs with
  | nil => intro k arr h _; exact h
  | cons x xs ih =>
    intro k arr h h2
    simp only [List.zipIdx_cons, List.foldl_cons]
    refine ih (k + 1) _ (fun u hu => ?_) (fun u hu => h2 u (by simp [hu]))
    rw [Array.toList_setIfInBounds] at hu
    rcases List.mem_or_eq_of_mem_set hu with h3 | h3
    · exact h u h3
    · subst h3; exact h2 _ (by simp)
theorem fill_one {place : Nat → Option (Nat × Nat)} : ∀ {ps : List (Nat × Value)} {arr arr' : Array Value}, Instr.fill place arr ps = some arr' → (∀ u ∈ arr.toList, u.oneCell' = true) →
    (∀ p ∈ ps, ∀ u ∈ p.2.cells.toList, u.oneCell' = true) → ∀ u ∈ arr'.toList, u.oneCell' = true
  | [], arr, arr', e, h, _ => by simp only [Instr.fill] at e; cases e; exact h
  | (i, v) :: ps, arr, arr', e, h, h2 => by
    unfold Instr.fill at e
    split at e
    · cases e
    · split at e
      · cases e
      · refine fill_one e ?_ (fun p hp => h2 p (by simp [hp]))
        rw [lay_eq]
        exact lay_one _ _ 0 _ h (h2 (i, v) (by simp))
theorem fits_one {n : Nat} : ∀ {qs : Parts}, fits n qs → ∀ q ∈ qs, q.2.2.cells.all AV.one = true
  | [], _, q, hq => by simp at hq
  | (off, k, x) :: r, ⟨⟨_, _, h3⟩, h⟩, q, hq => by
    rcases List.mem_cons.1 hq with rfl | hq
    · exact h3
    · exact fits_one h q hq

theorem lit_sound (hr : HR X μ Z w h) {t e : TypeId} {sz by_ n : Nat} {z : List AV} {ps : Array (Nat × Value)} {qs : Parts} (ht : tkOf X.P t = .sl e sz by_) (hz : zeroOf X.P e = some z)
    (hl : ps.size = qs.length) (hp : ∀ (j : Nat) (p : Nat × Value) (q : Nat × Nat × AV), ps.toList[j]? = some p → qs[j]? = some q → (p.1 * sz, sz) = (q.1, q.2.1) ∧ RV μ Z w p.2 q.2.2)
    (H : a_lit sz n (List.replicate n z).flatten qs h K) : EfS X μ Z w h K (Instr.buildSlice t n ps) := by
  obtain ⟨v, hv, rfl⟩ := zero_run (w := w) hz
  obtain ⟨hu, inf, zv, hinf, rfl, -, hzv, hzs⟩ := tk_sl ht
  have hvz : v = zv := by
    have : (zeroValue e).run X.P w = .ok zv w := by simp [zeroValue, run_ti hinf, hzv, Sem.run_pure]
    rw [this] at hv; cases hv; rfl
  subst hvz
  obtain ⟨⟨h1, hf, h2, h3, h4⟩, H⟩ := H
  rw [map_rep] at h1 hf H h2
  have hrs : RVs μ Z w ((Array.range (n * inf.size)).map (v.cells[· % v.cells.size]!)).toList (((List.replicate n v.cells.toList).flatten).map AV.v) := by
    rw [← hzs, zeros_eq v.cells n (by omega)]
    exact RVs.scalars _
  obtain ⟨arr', f1, f2, f3⟩ := fill_rv (place := fun i => some (i * inf.size, inf.size)) (ps := ps.toList) (qs := qs) hrs (by simpa using hl) (fun j p q hp' hq' => by
      obtain ⟨e1, e2⟩ := hp j p q hp' hq'
      exact ⟨by rw [← e1], e2⟩) hf
  have hzone : ∀ u ∈ ((Array.range (n * inf.size)).map (v.cells[· % v.cells.size]!)).toList, u.oneCell' = true := by
    rw [← hzs, zeros_eq v.cells n (by omega)]
    exact scalars_one h1
  have hone : ∀ u ∈ arr'.toList, u.oneCell' = true := by
    refine fill_one f1 hzone (fun p hp' u hu => ?_)
    obtain ⟨j, hj⟩ := List.mem_iff_getElem?.1 hp'
    have hjl : j < qs.length := by rw [← hl]; have := (List.getElem?_eq_some_iff.1 hj).1; simpa using this
    obtain ⟨-, e2⟩ := hp j p _ hj (List.getElem?_eq_getElem hjl)
    exact (e2.cells (fits_one hf _ (List.getElem_mem hjl))).2 u hu
  obtain ⟨μ', r1, r2, r3, r4⟩ := hr.cellsNew (w' := w.alloc (.cells arr' e)) (f := (0, 0)) inf.size f2 hone (fun j u hu => by simpa using hu) (by simp) (.inr rfl) rfl rfl rfl (by simp)
    (fun b hb => alloc_old w _ b hb) (alloc_new w _)
  refine ⟨.slice (some ⟨w.heap.size, 0, none⟩) n n, _, _, _, μ', Z, ?_, H, r1, ?_, r2⟩
  · unfold Instr.buildSlice
    simp only [Sem.run_bind, run_und hu, Result.andThen_ok, run_size hinf]
    have c1 : ¬ (n * inf.size > 2 ^ 24) := by omega
    simp only [if_neg c1]
    by_cases c2 : n * inf.size = 0
    · have c3 : ∀ f : Nat → Value, (Array.range (n * inf.size)).map f = #[] := fun f => by rw [c2]; simp
      rw [c3] at f1
      simp only [if_pos c2, Sem.run_bind, Result.andThen_ok, Sem.run_pure, c3, f1, newRow_run]
    · simp only [if_neg c2, Sem.run_bind, hv, Result.andThen_ok, Sem.run_pure, f1, newRow_run]
  · have := RV.s (μ := μ') (Z := Z) (w := w.alloc (.cells arr' e)) (off := 0) (len := n) (cap := n) r3 (Nat.le_refl _) (alloc_new w _) (by rw [f3]; simp)
    simpa using this
end
end Go.Ab

namespace Go.Ab

section
variable {X : Ctx} {μ μ' : Mu} {Z Z' : Nat → Prop} {w w' : World} {h h' : Heap} {K : Kt}

def layV (us : List Value) (off : Nat) : List Value → List Value
  | [] => us
  | x :: xs => layV (us.set off x) (off + 1) xs
theorem layV_len (us : List Value) : ∀ (xs : List Value) (off : Nat), (layV us off xs).length = us.length
  | [], off => rfl
  | x :: xs, off => by simp only [layV]; rw [layV_len _ xs]; simp
theorem layV_rv {us : List Value} {cs : List AV} (hrs : RVs μ Z w us cs) : ∀ {xs : List Value} {as : List AV} (off : Nat), RVs μ Z w xs as → RVs μ Z w (layV us off xs) (setAt cs off as) := by
  intro xs
  induction xs generalizing us cs with
  | nil => intro as off hx; cases hx; exact hrs
  | cons x xs ih => intro as off hx; cases hx with | cons hx hxs => exact ih (hrs.set off hx) (off + 1) hxs
theorem layV_one : ∀ (xs : List Value) (us : List Value) (off : Nat), (∀ u ∈ us, u.oneCell' = true) → (∀ u ∈ xs, u.oneCell' = true) → ∀ u ∈ layV us off xs, u.oneCell' = true
  | [], us, off, h, _ => h
  | x :: xs, us, off, h, h2 => layV_one xs (us.set off x) (off + 1) (fun u hu => by
      rcases List.mem_or_eq_of_mem_set hu with h3 | h3
      · exact h u h3
      · subst h3; exact h2 _ (by simp)) (fun u hu => h2 u (by simp [hu]))
def layA (c : Array Value) (o : Nat) : List Value → Array Value
  | [] => c
  | x :: xs => layA (c.setIfInBounds o x) (o + 1) xs
theorem layA_size (xs : List Value) : ∀ (c : Array Value) (o : Nat), (layA c o xs).size = c.size := by
  induction xs with
  | nil => intro c o; rfl
  | cons x xs ih => intro c o; simp only [layA]; rw [ih]; simp
theorem layA_rel : ∀ (xs : List Value) (us : List Value) (c : Array Value) (o off : Nat), off + xs.length ≤ us.length → (∀ (j : Nat) (u : Value), us[j]? = some u → c[o + j]? = some u) →
    ∀ (j : Nat) (u : Value), (layV us off xs)[j]? = some u → (layA c (o + off) xs)[o + j]? = some u
  | [], us, c, o, off, _, h => h
  | x :: xs, us, c, o, off, hl, h => by
    intro j u hu
    simp only [layV, layA] at hu ⊢
    rw [show o + off + 1 = o + (off + 1) from by omega]
    refine layA_rel xs (us.set off x) (c.setIfInBounds (o + off) x) o (off + 1) (by simp at hl ⊢; omega) (fun j u hu => ?_) j u hu
    rw [List.getElem?_set] at hu
    rw [Array.getElem?_setIfInBounds]
    by_cases e : off = j
    · subst e
      rw [if_pos rfl] at hu ⊢
      simp at hl
      rw [if_pos (by omega)] at hu
      have h3 : off < us.length := by omega
      have h2 := h off (us[off]) (List.getElem?_eq_getElem h3)
      rw [if_pos (Array.getElem?_eq_some_iff.1 h2).1]
      exact hu
    · rw [if_neg e] at hu
      rw [if_neg (by omega)]
      exact h j u hu

theorem storeCells_run {P : Program} (b o : Nat) (e : TypeId) (f : Nat × Nat) : ∀ (vs : List Value) (i : Nat) (c : Array Value) (w : World), w.heap[b]? = some (.cells c e f) → (c.size ≤ f.1 ∨ f.1 = f.2) →
    o + i + vs.length ≤ c.size → (∀ v ∈ vs, v.oneCell' = true) → (storeCells ⟨b, o, none⟩ vs i).run P w = .ok () (w.setRow b (layA c (o + i) vs))
  | [], i, c, w, hb, _, _, _ => by
    simp only [storeCells, layA]
    rw [setRow_self w b c e f hb]
    rfl
  | v :: rest, i, c, w, hb, hf, hl, h1 => by
    have hi : o + i < c.size := by simp at hl; omega
    have hcell : w.cell? ⟨b, o + i, none⟩ = some c[o + i] := by simp [World.cell?, hb, hi]
    have hfro : w.frozen? ⟨b, o + i, none⟩ = false := by
      obtain ⟨lo, hi'⟩ := f
      simp only [World.frozen?, hb, Bool.and_eq_false_iff, decide_eq_false_iff_not]
      simp only at hf
      omega
    have hst : (store ((⟨b, o, none⟩ : Addr).add i) v).run P w = .ok () (w.setRow b (c.setIfInBounds (o + i) v)) := by
      rw [add_at, run_store P w _ v _ (h1 v (by simp)), hcell]
      simp [hfro, setCell_eq_setRow w b (o + i) c e f v hb]
    have ih := storeCells_run (P := P) b o e f rest (i + 1) (c.setIfInBounds (o + i) v) (w.setRow b (c.setIfInBounds (o + i) v)) (setRow_heap w b c _ e _ hb) (by simpa using hf) (by simp at hl ⊢; omega) (fun x hx => h1 x (by simp [hx]))
    simp only [storeCells, Sem.run_bind, hst, Result.andThen_ok, ih, setRow_setRow, layA]
    rw [show o + (i + 1) = o + i + 1 from by omega]

/-- an object of ours is written -/
theorem HR.update (hr : HR X μ Z w h) {id b o sz : Nat} {cs cs' : List AV} {c c' : Array Value} {e : TypeId} {f : Nat × Nat} {us' : List Value} (ho : h.getD id .dead = .o sz cs) (hm : μ id = some (b, o, sz))
    (hb : w.heap[b]? = some (.cells c e f)) (hf : c.size ≤ f.1 ∨ f.1 = f.2) (hs : c'.size = c.size) (hl : o + cs'.length ≤ c.size) (hrs : RVs μ Z w us' cs')
    (hc : ∀ (j : Nat) (u : Value), us'[j]? = some u → c'[o + j]? = some u ∧ u.oneCell' = true) :
    HR X μ Z (w.setRow b c') (h.set id (.o sz cs')) ∧ Ext (foot μ h) μ Z w h.length μ Z (w.setRow b c') (h.set id (.o sz cs')) := by
  have hid : id < h.length := by
    rcases Nat.lt_or_ge id h.length with h1 | h1
    · exact h1
    · rw [getD_ge h id h1] at ho; cases ho
  have hlive : lives μ h id b := ⟨by rw [ho]; simp, o, sz, hm⟩
  have gs : ∀ i, (h.set id (.o sz cs')).getD i .dead = if i = id then .o sz cs' else h.getD i .dead := by
    intro i
    simp only [List.getD_eq_getElem?_getD, List.getElem?_set]
    by_cases hi : id = i
    · subst hi; simp [hid]
    · rw [if_neg hi, if_neg (Ne.symm hi)]
  have liv : ∀ i b', lives μ (h.set id (.o sz cs')) i b' ↔ lives μ h i b' := by
    intro i b'
    unfold lives
    rw [gs]
    by_cases hi : i = id
    · subst hi; rw [if_pos rfl, ho]; constructor <;> rintro ⟨_, hx⟩ <;> exact ⟨by simp, hx⟩
    · rw [if_neg hi]
  have hblock : ∀ b', b' ≠ b → (w.setRow b c').heap[b']? = w.heap[b']? := fun b' hne => setRow_other w b b' c' hne
  have hzb : ¬ Z b := hr.apart b ⟨id, hlive⟩
  have hmov : Mov μ Z w μ Z (w.setRow b c') := ⟨fun _ _ h => h, fun _ h => h, fun b' hz => hblock b' (fun e => hzb (e ▸ hz)), fun b' c1 e1 f1 h1 => by
    by_cases hbb : b' = b
    · subst hbb
      rw [hb] at h1; cases h1
      exact ⟨c', f, setRow_heap w b' c c' e f hb, hs⟩
    · exact ⟨c1, f1, (hblock b' hbb).trans h1, rfl⟩⟩
  refine HR.step (C := fun b' => b' = b) hr (fun _ _ => rfl) rfl rfl rfl (by simp) (fun b' _ hne => hblock b' hne) (fun b' e => e ▸ ⟨id, hlive⟩)
    (fun b' c1 e1 f1 hbb h1 => by subst hbb; rw [hb] at h1; cases h1; exact ⟨c', f, setRow_heap w b' c c' e f hb, hs⟩)
    (fun _ h => h) (fun _ h => .inl h) (fun b' hz => by have := hr.zlt b' hz; simpa using this) (by simp)
    (fun i hi hd => ?_) (fun i hi hd => ?_) (fun i hi hd => ?_) (fun i hi => hr.dom i (by simpa using hi)) (fun i j b' hi hj => hr.inj i j b' ((liv i b').1 hi) ((liv j b').1 hj))
    (fun b' ⟨i, hi⟩ => .inl ⟨i, (liv i b').1 hi⟩) (fun b' ⟨i, hi⟩ => hr.apart b' ⟨i, (liv i b').1 hi⟩)
  · rw [gs] at hd ⊢
    by_cases hii : i = id
    · subst hii
      right
      rw [if_pos rfl]
      unfold RO
      rw [hm]
      exact ⟨rfl, hzb, c', e, f, us', setRow_heap w b c c' e f hb, by rw [hs]; exact hf, by rw [hs]; exact hl, hc, hrs.mono hmov⟩
    · left
      rw [if_neg hii] at hd ⊢
      refine ⟨rfl, fun b' o' sz' hm' => ⟨fun e => hii (hr.inj i id b ⟨hd, o', sz', by rw [hm', e]⟩ hlive), hr.apart b' ⟨i, hd, o', sz', hm'⟩⟩⟩
  · rw [gs] at hd
    by_cases hii : i = id
    · subst hii; rw [ho]; simp
    · rw [if_neg hii] at hd; exact hd
  · rw [gs, if_neg (by omega), getD_ge h i hi] at hd
    exact absurd rfl hd

theorem sto_sound (hr : HR X μ Z w h) {t : TypeId} {v u : Value} {a b : AV} (hv : RV μ Z w v a) (hu : RV μ Z w u b) (H : a_store (tkOf X.P t).size a b h K) :
    ∃ w' r h' μ' Z', (Instr.storeAt t v u).run X.P w = .ok () w' ∧ K.K r h' ∧ HR X μ' Z' w' h' ∧ RV μ' Z' w' undef r ∧ Ext (foot μ h) μ Z w h.length μ' Z' w' h' := by
  cases a with
  | p id off =>
    simp only [a_store] at H
    cases ho : h.getD id .dead <;> rw [ho] at H <;> simp only [a_sto] at H
    case o sz cs =>
      obtain ⟨⟨h0, h1, h2, h3⟩, H⟩ := H
      obtain ⟨hc, hone⟩ := hu.cells h3
      have hO := hr.obj id
      rw [ho] at hO
      cases hv with
      | @p _ _ b0 o sz' hm =>
        unfold RO at hO
        rw [hm] at hO
        obtain ⟨rfl, hz, c, e, f, us, hb, hf, hle, hus, hrs⟩ := hO
        have hno : tkOf X.P t ≠ .no := fun e => by rw [e] at h0; exact absurd h0 (by decide)
        obtain ⟨i, d, hi, hd, hs, hg⟩ := tk_info hno
        have hcl := hc.length
        have hul := hrs.length
        simp only [Array.length_toList] at hcl
        obtain ⟨r1, r2⟩ := hr.update (c' := layA c (o + off) u.cells.toList) (cs' := setAt cs off b.cells) (us' := layV us off u.cells.toList) ho hm hb hf (layA_size _ _ _) (by rw [setAt_length]; exact hle) (layV_rv hrs off hc)
          (fun j x hx => ⟨layA_rel _ us c o off (by simp; omega) (fun j u hu => (hus j u hu).1) j x hx, layV_one _ us off (fun y hy => by
            obtain ⟨k, hk⟩ := List.mem_iff_getElem?.1 hy
            exact (hus k y hk).2) hone x (List.mem_of_getElem? hx)⟩)
        refine ⟨_, .bad, _, μ, Z, ?_, H, r1, .bad _, r2⟩
        simp only [Instr.storeAt, Instr.sureAddr, pure_bind]
        unfold storeVar
        have c1 : ¬ (u.cells.size ≠ (tkOf X.P t).size) := by omega
        simp only [Sem.run_bind, run_size hi, Result.andThen_ok, hs, if_neg c1, Sem.run_pure]
        have := storeCells_run (P := X.P) b0 (o + off) e f u.cells.toList 0 c w hb hf (by simp; omega) hone
        simpa using this
  | _ => simp [a_store] at H
end
end Go.Ab

namespace Go.Ab

section
variable {X : Ctx} {μ μ' μ1 μ2 : Mu} {Z Z' Z1 Z2 : Nat → Prop} {w w' w1 w2 : World} {h h' h1 h2 : Heap} {K : Kt}

theorem Ext.refl (μ : Mu) (Z : Nat → Prop) (w : World) (h : Heap) {n : Nat} (hn : n ≤ h.length) : Ext (Go.Ab.foot μ h) μ Z w n μ Z w h :=
  ⟨fun _ _ => rfl, fun _ h => h, fun _ h => .inl h, rfl, rfl, rfl, Nat.le_refl _, fun _ _ _ => rfl, fun b c e f hb => ⟨c, f, hb, rfl⟩, fun _ h => .inl h, hn⟩

theorem Ext.trans {M : Nat → Prop} {n n1 : Nat} (a : Ext M μ Z w n μ1 Z1 w1 h1) (b : Ext (Go.Ab.foot μ1 h1) μ1 Z1 w1 n1 μ2 Z2 w2 h2) (hn : n ≤ n1) : Ext M μ Z w n μ2 Z2 w2 h2 where
  mu id hid := (b.mu id (by omega)).trans (a.mu id hid)
  z1 x hx := b.z1 x (a.z1 x hx)
  z2 x hx := by
    rcases b.z2 x hx with h | h | h
    · exact a.z2 x h
    · exact .inr (a.foot x h)
    · exact .inr (.inr (Nat.le_trans a.size h))
  os := b.os.trans a.os
  tape := b.tape.trans a.tape
  output := b.output.trans a.output
  size := Nat.le_trans a.size b.size
  block x hx hm := (b.block x (Nat.lt_of_lt_of_le hx a.size) (fun hf => by
    rcases a.foot x hf with h | h
    · exact hm h
    · omega)).trans (a.block x hx hm)
  cells x c e f hx := by
    obtain ⟨c1, f1, e1, e2⟩ := a.cells x c e f hx
    obtain ⟨c2, f2, e3, e4⟩ := b.cells x c1 e f1 e1
    exact ⟨c2, f2, e3, e4.trans e2⟩
  foot x hx := by
    rcases b.foot x hx with h | h
    · exact a.foot x h
    · exact .inr (Nat.le_trans a.size h)
  len := Nat.le_trans hn b.len

theorem Ext.mono {M M' : Nat → Prop} {n n' : Nat} (a : Ext M μ Z w n μ' Z' w' h') (hM : ∀ b, M b → M' b) (hn : n' ≤ n) : Ext M' μ Z w n' μ' Z' w' h' where
  mu id hid := a.mu id (by omega)
  z1 := a.z1
  z2 x hx := (a.z2 x hx).imp id (Or.imp (hM x) id)
  os := a.os
  tape := a.tape
  output := a.output
  size := a.size
  block x hx hm := a.block x hx (fun h => hm (hM x h))
  cells := a.cells
  foot x hx := (a.foot x hx).imp (hM x) id
  len := Nat.le_trans hn a.len

theorem Ext.mov (hr : HR X μ Z w h) (e : Ext (Go.Ab.foot μ h) μ Z w h.length μ' Z' w' h') : Mov μ Z w μ' Z' w' :=
  ⟨fun id x hx => by
      have hid : id < h.length := by
        rcases Nat.lt_or_ge id h.length with h1 | h1
        · exact h1
        · rw [hr.dom id h1] at hx; cases hx
      rw [e.mu id hid]; exact hx,
    e.z1, fun b hb => e.block b (hr.zlt b hb) (fun hf => hr.apart b hf hb), e.cells⟩

theorem getD_set (h : Heap) (id : Nat) (o : AO) (i : Nat) : (h.set id o).getD i .dead = if i = id ∧ id < h.length then o else h.getD i .dead := by
  simp only [List.getD_eq_getElem?_getD, List.getElem?_set]
  by_cases hi : id = i
  · subst hi
    by_cases hl : id < h.length
    · simp [hl]
    · rw [List.getElem?_eq_none (Nat.not_lt.1 hl)]; simp [hl]
  · rw [if_neg hi, if_neg (fun e => hi e.1.symm)]

/-- an object is forgotten -/
theorem HR.kill (hr : HR X μ Z w h) (id : Nat) : HR X μ Z w (h.set id .dead) ∧ Ext (foot μ h) μ Z w h.length μ Z w (h.set id .dead) := by
  have liv : ∀ i b', lives μ (h.set id .dead) i b' → lives μ h i b' := by
    rintro i b' ⟨e1, e2⟩
    refine ⟨?_, e2⟩
    rw [getD_set] at e1
    split at e1
    · exact absurd rfl e1
    · exact e1
  refine HR.step (C := fun _ => False) hr (fun _ _ => rfl) rfl rfl rfl (Nat.le_refl _) (fun _ _ _ => rfl) (fun _ e => e.elim) (fun _ _ _ _ e => e.elim) (fun _ h => h) (fun _ h => .inl h) hr.zlt (by simp)
    (fun i hi hd => ?_) (fun i hi hd => ?_) (fun i hi hd => ?_) (fun i hi => hr.dom i (by simpa using hi)) (fun i j b' hi hj => hr.inj i j b' (liv i b' hi) (liv j b' hj))
    (fun b' ⟨i, hi⟩ => .inl ⟨i, liv i b' hi⟩) (fun b' ⟨i, hi⟩ => hr.apart b' ⟨i, liv i b' hi⟩)
  · rw [getD_set] at hd ⊢
    split at hd
    · exact absurd rfl hd
    · rename_i hne
      rw [if_neg hne]
      exact .inl ⟨rfl, fun b' o' sz' hm' => ⟨fun e => e, hr.apart b' ⟨i, hd, o', sz', hm'⟩⟩⟩
  · rw [getD_set] at hd
    split at hd
    · exact absurd rfl hd
    · exact hd
  · rw [getD_set] at hd
    split at hd
    · exact absurd rfl hd
    · rw [getD_ge h i hi] at hd; exact absurd rfl hd

/-- an object goes on in place, under a new number -/
theorem HR.regrow (hr : HR X μ Z w h) {id b o off sz : Nat} {cs cs' : List AV} {c c' : Array Value} {e : TypeId} {f : Nat × Nat} {us' : List Value} (ho : h.getD id .dead = .o sz cs) (hm : μ id = some (b, o, sz))
    (hb : w.heap[b]? = some (.cells c e f)) (hf : c.size ≤ f.1 ∨ f.1 = f.2) (hs : c'.size = c.size) (hl : off + cs'.length ≤ c.size) (hrs : RVs μ Z w us' cs')
    (hc : ∀ (j : Nat) (u : Value), us'[j]? = some u → c'[off + j]? = some u ∧ u.oneCell' = true) :
    ∃ μ', HR X μ' Z (w.setRow b c') ((h.set id .dead) ++ [.o sz cs']) ∧ Ext (foot μ h) μ Z w h.length μ' Z (w.setRow b c') ((h.set id .dead) ++ [.o sz cs']) ∧ μ' h.length = some (b, off, sz) := by
  have hid : id < h.length := by
    rcases Nat.lt_or_ge id h.length with h1 | h1
    · exact h1
    · rw [getD_ge h id h1] at ho; cases ho
  have hlive : lives μ h id b := ⟨by rw [ho]; simp, o, sz, hm⟩
  let μ' : Mu := fun i => if i = h.length then some (b, off, sz) else μ i
  have m1 : ∀ i, i ≠ h.length → μ' i = μ i := fun i hi => if_neg hi
  have m2 : μ' h.length = some (b, off, sz) := if_pos rfl
  have gs : ∀ i, ((h.set id .dead) ++ [AO.o sz cs']).getD i .dead = if i = h.length then AO.o sz cs' else if i = id then .dead else h.getD i .dead := by
    intro i
    rw [getD_push, List.length_set, getD_set]
    by_cases e1 : i = h.length
    · rw [if_pos e1, if_pos e1]
    · rw [if_neg e1, if_neg e1]
      by_cases e2 : i = id
      · rw [if_pos ⟨e2, hid⟩, if_pos e2]
      · rw [if_neg (fun e => e2 e.1), if_neg e2]
  have liv : ∀ i b', lives μ' ((h.set id .dead) ++ [.o sz cs']) i b' → (i = h.length ∧ b' = b) ∨ (i ≠ h.length ∧ i ≠ id ∧ lives μ h i b') := by
    rintro i b' ⟨e1, o', sz', e2⟩
    rw [gs] at e1
    by_cases e3 : i = h.length
    · subst e3; rw [m2] at e2; cases e2; exact .inl ⟨rfl, rfl⟩
    · rw [if_neg e3] at e1
      by_cases e4 : i = id
      · rw [if_pos e4] at e1; exact absurd rfl e1
      · rw [if_neg e4] at e1; rw [m1 i e3] at e2; exact .inr ⟨e3, e4, e1, o', sz', e2⟩
  have hblock : ∀ b', b' ≠ b → (w.setRow b c').heap[b']? = w.heap[b']? := fun b' hne => setRow_other w b b' c' hne
  have hzb : ¬ Z b := hr.apart b ⟨id, hlive⟩
  have hcells : ∀ (b' : Nat) (c1 : Array Value) (e1 : TypeId) (f1 : Nat × Nat), w.heap[b']? = some (Obj.cells c1 e1 f1) → ∃ (c2 : Array Value) (f2 : Nat × Nat), (w.setRow b c').heap[b']? = some (Obj.cells c2 e1 f2) ∧ c2.size = c1.size := by
    intro b' c1 e1 f1 hx
    by_cases hbb : b' = b
    · subst hbb
      rw [hb] at hx; cases hx
      exact ⟨c', f, setRow_heap w b' c c' e f hb, hs⟩
    · exact ⟨c1, f1, (hblock b' hbb).trans hx, rfl⟩
  have hmov : Mov μ Z w μ' Z (w.setRow b c') := ⟨fun i x hx => by
      rw [m1 i (fun e => by subst e; rw [hr.dom _ (Nat.le_refl _)] at hx; cases hx)]; exact hx,
    fun _ h => h, fun b' hz => hblock b' (fun e => hzb (e ▸ hz)), hcells⟩
  obtain ⟨r1, r2⟩ := HR.step (μ' := μ') (Z' := Z) (w' := w.setRow b c') (h' := (h.set id .dead) ++ [.o sz cs']) (C := fun b' => b' = b) hr (fun i hi => m1 i (by omega)) rfl rfl rfl (by simp) (fun b' _ hne => hblock b' hne) (fun b' e => e ▸ ⟨id, hlive⟩)
    (fun b' c1 e1 f1 _ h1 => hcells b' c1 e1 f1 h1)
    (fun _ h => h) (fun _ h => .inl h) (fun b' hz => by have := hr.zlt b' hz; simpa using this) (by simp)
    (fun i hi hd => by
      rw [gs] at hd ⊢
      rw [if_neg (by omega)] at hd ⊢
      by_cases e4 : i = id
      · rw [if_pos e4] at hd; exact absurd rfl hd
      · rw [if_neg e4] at hd ⊢
        exact .inl ⟨rfl, fun b' o' sz' hm' => ⟨fun e => e4 (hr.inj i id b ⟨hd, o', sz', by rw [hm', e]⟩ hlive), hr.apart b' ⟨i, hd, o', sz', hm'⟩⟩⟩)
    (fun i hi hd => by
      rw [gs, if_neg (by omega)] at hd
      by_cases e4 : i = id
      · rw [if_pos e4] at hd; exact absurd rfl hd
      · rw [if_neg e4] at hd; exact hd)
    (fun i hi hd => by
      rw [gs] at hd ⊢
      by_cases e3 : i = h.length
      · subst e3
        rw [if_pos rfl]
        unfold RO
        rw [m2]
        exact ⟨rfl, hzb, c', e, f, us', setRow_heap w b c c' e f hb, by rw [hs]; exact hf, by rw [hs]; exact hl, hc, hrs.mono hmov⟩
      · rw [if_neg e3] at hd
        rw [if_neg (by omega), getD_ge h i hi] at hd
        exact absurd rfl hd)
    (fun i hi => by simp at hi; rw [m1 i (by omega)]; exact hr.dom i (by omega))
    (fun i j b' hi hj => by
      rcases liv i b' hi with ⟨e1, e2⟩ | ⟨e1, e2, e3⟩ <;> rcases liv j b' hj with ⟨e4, e5⟩ | ⟨e4, e5, e6⟩
      · omega
      · subst e2; exact absurd (hr.inj j id b' e6 hlive) e5
      · subst e5; exact absurd (hr.inj i id b' e3 hlive) e2
      · exact hr.inj i j b' e3 e6)
    (fun b' ⟨i, hi⟩ => by
      rcases liv i b' hi with ⟨e1, e2⟩ | ⟨e1, e2, e3⟩
      · exact .inl ⟨id, e2 ▸ hlive⟩
      · exact .inl ⟨i, e3⟩)
    (fun b' ⟨i, hi⟩ => by
      rcases liv i b' hi with ⟨e1, e2⟩ | ⟨e1, e2, e3⟩
      · rw [e2]; exact hzb
      · exact hr.apart b' ⟨i, e3⟩)
  exact ⟨μ', r1, r2, m2⟩

/-! append -/
section
variable {P : Program}
theorem append_room {t1 t2 ty e : TypeId} {i : TypeInfo} (ht : P.underlying t1 = some (.slice e)) (ht2 : ∃ d, P.underlying t2 = some d ∧ ∀ k, d ≠ .int k) (hi : P.info? e = some i)
    {x : Value} {n : Nat} {news : List Value} (hlen : (Builtin.lenOf x).run P w = .ok n w) (hnew : (Builtin.firstCells i.size n x).run P w = .ok news.toArray w)
    {A : Option Addr} {sLen sCap : Nat} (hroom : sLen + n ≤ sCap) {w' : World} (hst : (match A with | some a => storeCells (a.add (sLen * i.size)) news | none => pure ()).run P w = .ok () w') :
    (Builtin.append_ #[t1, t2] ty #[.slice A sLen sCap, x]).run P w = .ok (.slice A (sLen + n) sCap) w' := by
  obtain ⟨d, hd, hk⟩ := ht2
  have hz : (match d with | .int _ => true | _ => false) = false := by
    cases d with
    | int k => exact absurd rfl (hk k)
    | _ => rfl
  unfold Builtin.append_
  simp only [List.getElem?_toArray, List.getElem?_cons_zero, List.getElem?_cons_succ, Sem.run_bind, run_und ht, Result.andThen_ok, run_size hi, run_und hd, Sem.run_pure, hz]
  simp only [Bool.false_eq_true, if_false, Sem.run_bind, hlen, Result.andThen_ok, if_pos hroom, Bool.not_false, if_true, hnew]
  cases A with
  | none => simp only [Sem.run_pure] at hst ⊢; cases hst; rfl
  | some a => simp only [Sem.run_bind, List.toList_toArray] at hst ⊢; rw [hst]; rfl

theorem append_grow {t1 t2 ty e : TypeId} {i : TypeInfo} {z : Value} (ht : P.underlying t1 = some (.slice e)) (ht2 : ∃ d, P.underlying t2 = some d ∧ ∀ k, d ≠ .int k) (hi : P.info? e = some i) (hzv : i.zero = some z)
    {x : Value} {n : Nat} {olds news : List Value} (hlen : (Builtin.lenOf x).run P w = .ok n w) (hnew : (Builtin.firstCells i.size n x).run P w.drew = .ok news.toArray w.drew)
    {A : Option Addr} {sLen sCap : Nat} (hold : (Builtin.firstCells i.size sLen (.slice A sLen sCap)).run P w.drew = .ok olds.toArray w.drew) (hroom : sCap < sLen + n) (hb : (sLen + n) * i.bytes ≤ 140737488355328) (hn : sLen + n ≤ 9223372036854775807) :
    (Builtin.append_ #[t1, t2] ty #[.slice A sLen sCap, x]).run P w = .ok (.slice (some ⟨w.heap.size, 0, none⟩) (sLen + n) (grownCap w (sLen + n) sCap e))
      (w.drew.alloc (.cells (olds.toArray ++ news.toArray ++ Builtin.zeroCells z.cells (grownCap w (sLen + n) sCap e - (sLen + n))) e)) := by
  obtain ⟨d, hd, hk⟩ := ht2
  have hz : (match d with | .int _ => true | _ => false) = false := by
    cases d with
    | int k => exact absurd rfl (hk k)
    | _ => rfl
  have h1 : ¬ (sLen + n ≤ sCap) := by omega
  have h2 : ¬ (((sLen + n : Nat) : Int) > IntKind.i64.max) := by show ¬ (_ > (9223372036854775807 : Int)); omega
  have h3 : ¬ (Builtin.nextslicecap (sLen + n) sCap * i.bytes > 2 ^ 48) := by have := growslice_fits hroom hb; omega
  have h4 : (zeroValue e).run P w.drew = .ok z w.drew := by simp [zeroValue, run_ti hi, hzv, Sem.run_pure]
  have h5 : (choose (.appendCap (sLen + n) sCap e)).run P w = .ok (grownCap w (sLen + n) sCap e) w.drew := by
    simp [choose, Sem.run, Question.forced, grownCap]
  have h6 : ∀ b, (askRoom b).run P w.drew = .ok () w.drew := by intro b; unfold askRoom; split <;> rfl
  unfold Builtin.append_
  simp only [List.getElem?_toArray, List.getElem?_cons_zero, List.getElem?_cons_succ, Sem.run_bind, run_und ht, Result.andThen_ok, run_size hi, run_und hd, Sem.run_pure, hz]
  simp only [Bool.false_eq_true, if_false, Sem.run_bind, hlen, Result.andThen_ok, if_neg h1, Bool.not_false, if_true, run_ti hi, h2, false_and, h3, h5, h6, hold, hnew, h4, newRow_run, Sem.run_pure]
  rfl
end
end
end Go.Ab

namespace Go.Ab
/-! Maps. -/
section
variable {X : Ctx} {μ : Mu} {Z : Nat → Prop} {w : World} {h : Heap} {K : Kt}
/-- what a key's type and the kinds of keys have to do with one another -/
def keyD (str : Bool) (D : TypeDesc) : Prop := (str = true ∧ D = .string) ∨ (str = false ∧ ∃ k, D = .int k)
theorem keyStr_D {P : Program} {t : TypeId} {s : Bool} (h : keyStr P t = some s) : ∃ D, P.underlying t = some D ∧ keyD s D := by
  unfold keyStr at h
  split at h
  · rename_i k e; cases h; exact ⟨_, e, .inr ⟨rfl, _, rfl⟩⟩
  · rename_i e; cases h; exact ⟨_, e, .inl ⟨rfl, rfl⟩⟩
  · cases h
theorem keq_now {str : Bool} {D : TypeDesc} (hD : keyD str D) {v u : Value} {a b : AV} {t : Bool} (hv : RV μ Z w v a) (hu : RV μ Z w u b) (h : keq str a b = some t) : Instr.sameNow D v u = some t ∧ (t = true → Instr.sameBits 10000 u v = true) := by
  unfold keq at h
  split at h
  · cases hv; cases hu
    rcases hD with ⟨rfl, rfl⟩ | ⟨rfl, q, rfl⟩
    · cases h
    · simp only [cond_false] at h
      split at h
      · rename_i e; subst e; cases h
        refine ⟨by simp [Instr.sameNow], fun e => ?_⟩
        simp at e; subst e; simp [Instr.sameBits]
      · cases h
  · cases hv; cases hu
    rcases hD with ⟨rfl, rfl⟩ | ⟨rfl, q, rfl⟩
    · simp only [cond_true] at h
      cases h
      rename_i a b
      have eb : ∀ a b : ByteArray, (a == b) = decide (a = b) := fun a b => by rw [beq_toListBytes, beq_toList]
      refine ⟨by simp only [Instr.sameNow, eb], fun e => ?_⟩
      simp at e; subst e; simp [Instr.sameBits, eb]
    · cases h
  · cases h
theorem keq_isKey {str : Bool} {D : TypeDesc} (hD : keyD str D) {v : Value} {a b : AV} {t : Bool} (hv : RV μ Z w v a) (h : keq str a b = some t) : (str = true ∧ ∃ s, v = .string s) ∨ (str = false ∧ ∃ k n, v = .int k n) := by
  unfold keq at h
  split at h
  · cases hv
    cases str
    · exact .inr ⟨rfl, _, _, rfl⟩
    · cases h
  · cases hv
    cases str
    · cases h
    · exact .inl ⟨rfl, _, rfl⟩
  · cases h
theorem check_key {P : Program} {str : Bool} {D : TypeDesc} {kt : TypeId} (hD : keyD str D) (hu : P.underlying kt = some D) (v : Value) (e : Bool) : (Instr.checkKey e 10000 kt v).run P w = .ok () w := by
  unfold Instr.checkKey
  simp only [Sem.run_bind, run_und hu, Result.andThen_ok]
  rcases hD with ⟨rfl, rfl⟩ | ⟨rfl, q, rfl⟩ <;> rfl
/-- the entries, seen as pairs -/
def Ents (μ : Mu) (Z : Nat → Prop) (w : World) (l : List MapEntry) (es : List (AV × AV)) : Prop := RVs μ Z w (l.map (·.key)) (es.map (·.1)) ∧ RVs μ Z w (l.map (·.val)) (es.map (·.2))
theorem get_now {str : Bool} {D : TypeDesc} (hD : keyD str D) {v : Value} {a : AV} (hv : RV μ Z w v a) : ∀ (l : List MapEntry) (es : List (AV × AV)) (i : Nat) (r : Option AV), Ents μ Z w l es → mget str es a = some r →
    (r = none ∧ Instr.findNow D v l i = some none) ∨ ∃ j x c, r = some c ∧ Instr.findNow D v l i = some (some (j, x)) ∧ RV μ Z w x c
  | [], es, i, r, hE, h => by
    obtain ⟨h1, h2⟩ := hE
    cases es with
    | cons p es => cases h1
    | nil =>
      unfold mget at h
      cases hk : keq str a a with
      | none => rw [hk] at h; cases h
      | some t => rw [hk] at h; cases h; exact .inl ⟨rfl, rfl⟩
  | e :: l, es, i, r, hE, h => by
    obtain ⟨h1, h2⟩ := hE
    cases es with
    | nil => cases h1
    | cons p es =>
      obtain ⟨k', v'⟩ := p
      cases h1 with | cons a1 a2 => cases h2 with | cons b1 b2 =>
        unfold mget at h
        split at h
        · rename_i hk
          cases h
          obtain ⟨e1, _⟩ := keq_now hD hv a1 hk
          exact .inr ⟨i, e.val, v', rfl, by simp [Instr.findNow, e1], b1⟩
        · rename_i hk
          obtain ⟨e1, _⟩ := keq_now hD hv a1 hk
          have := get_now hD hv l es (i + 1) r ⟨a2, b2⟩ h
          simpa [Instr.findNow, e1] using this
        · cases h
theorem get_key {str : Bool} {D : TypeDesc} (hD : keyD str D) {v : Value} {a : AV} (hv : RV μ Z w v a) : ∀ (es : List (AV × AV)) (r : Option AV), mget str es a = some r → ∃ b t, keq str a b = some t
  | [], r, h => by
    unfold mget at h
    cases hk : keq str a a with
    | none => rw [hk] at h; cases h
    | some t => exact ⟨_, _, hk⟩
  | (k', v') :: es, r, h => by
    unfold mget at h
    split at h
    · rename_i hk; exact ⟨_, _, hk⟩
    · rename_i hk; exact ⟨_, _, hk⟩
    · cases h
theorem zval_run {P : Program} {t : TypeId} {z : AV} (hz : zval P t = some z) : ∃ v, (zeroValue t).run P w = .ok v w ∧ z = .v v := by
  unfold zval at hz
  cases hi : P.info? t with
  | none => rw [hi] at hz; cases hz
  | some i =>
    cases hv : i.zero with
    | none => rw [hi] at hz; simp [hv] at hz
    | some v =>
      rw [hi] at hz
      simp only [Option.bind_some, hv] at hz
      refine ⟨v, by simp [zeroValue, run_ti hi, hv, Sem.run_pure], ?_⟩
      split at hz <;> first | (cases hz; done) | skip
      all_goals (rename_i e; cases e; cases hz; rfl)
theorem lku_sound (hr : HR X μ Z w h) {t kt e : TypeId} {s ok : Bool} {z : AV} {v u : Value} {a b : AV} (ht : tkOf X.P t = .mp kt e) (hk : keyStr X.P kt = some s) (hz : zval X.P e = some z) (hv : RV μ Z w v a) (hu : RV μ Z w u b) (H : a_lku s ok z a b h K) :
    ∃ r, K.K r h ∧ ∃ y, (Instr.lookup t v u ok).run X.P w = .ok y w ∧ RV μ Z w y r := by
  obtain ⟨D, hD1, hD⟩ := keyStr_D hk
  obtain ⟨zv, hz1, rfl⟩ := zval_run (w := w) hz
  have key : ∀ (l : List MapEntry) (es : List (AV × AV)), Ents μ Z w l es → a_lkr ok (.v zv) (mget s es b) h K → ∀ em : Bool,
      ∃ r, K.K r h ∧ ∃ y, (do
        Instr.checkKey em 10000 kt u
        let (v, o) ← match ← Instr.findKey kt u l with
          | some (_, v) => pure (v, true)
          | none => pure (← zeroValue e, false)
        pure (if ok then Value.tuple #[v, .bool o] else v) : Sem Value).run X.P w = .ok y w ∧ RV μ Z w y r := by
    intro l es hE H _
    cases hg : mget s es b with
    | none => rw [hg] at H; exact H.elim
    | some r =>
      rw [hg] at H
      rcases get_now hD hu l es 0 r hE hg with ⟨rfl, e1⟩ | ⟨j, x, c, rfl, e1, hx⟩
      · refine ⟨_, H, (if ok then Value.tuple #[zv, .bool false] else zv), ?_, ?_⟩
        · simp only [Sem.run_bind, check_key hD hD1, Result.andThen_ok, Instr.findKey, run_und hD1, e1, Sem.run_pure, hz1]
        · cases ok
          · exact .v _
          · exact .t (us := [zv, .bool false]) (.cons (.v _) (.cons (.v _) .nil))
      · refine ⟨_, H, (if ok then Value.tuple #[x, .bool true] else x), ?_, ?_⟩
        · simp only [Sem.run_bind, check_key hD hD1, Result.andThen_ok, Instr.findKey, run_und hD1, e1, Sem.run_pure]
        · cases ok
          · exact hx
          · exact .t (us := [x, .bool true]) (.cons hx (.cons (.v _) .nil))
  unfold a_lku at H
  split at H
  · rename_i id
    cases ho : h.getD id .dead <;> rw [ho] at H <;> simp only [a_lko] at H
    case m es =>
      cases hv with
      | @m _ b0 o sz hm =>
        have := hr.obj id
        rw [ho] at this
        obtain ⟨b', o', sz', ents, clock, ks, vs, hm', hz', hb, rfl, rfl, h1, h2⟩ := this
        rw [hm] at hm'
        cases hm'
        obtain ⟨r, a1, y, a2, a3⟩ := key ents.toList es ⟨h1, h2⟩ H ents.isEmpty
        refine ⟨r, a1, y, ?_, a3⟩
        rw [← a2]
        simp only [Instr.lookup, Sem.run_bind, run_und (tk_mp ht), Result.andThen_ok, MapKept.run_getObj_map hb, Sem.run_pure]
        rfl
  · cases hv
    obtain ⟨r, a1, y, a2, a3⟩ := key [] [] ⟨.nil, .nil⟩ H true
    refine ⟨r, a1, y, ?_, a3⟩
    rw [← a2]
    simp only [Instr.lookup, Sem.run_bind, run_und (tk_mp ht), Result.andThen_ok, Sem.run_pure]
    rfl
  · exact H.elim
theorem mkm_sound (hr : HR X μ Z w h) {t : TypeId} (H : a_mkm h K) : EfS X μ Z w h K (Instr.makeMap t none) := by
  obtain ⟨μ', r1, r2, r3, r4⟩ := hr.push (w' := w.alloc (.map #[] 0)) (.m []) (by simp) 0 w.heap.size (Nat.le_refl _) (by simp) rfl rfl rfl (by simp) (fun b hb => alloc_old w _ b hb) (fun μ' m1 m2 hm => by
    unfold RO
    exact ⟨w.heap.size, 0, 0, #[], 0, [], [], m2, fun hz => by have := hr.zlt _ hz; omega, alloc_new w _, rfl, rfl, .nil, .nil⟩)
  refine ⟨.map (some w.heap.size), _, _, _, μ', Z, ?_, H, r1, .m r3, r2⟩
  rfl
/-- where a pair is put -/
theorem put_now {str : Bool} {D : TypeDesc} (hD : keyD str D) {v x : Value} {a c : AV} (hv : RV μ Z w v a) (hx : RV μ Z w x c) : ∀ (l : List MapEntry) (es es' : List (AV × AV)) (i : Nat), Ents μ Z w l es → mput str es a c = some es' →
    (Instr.findNow D v l i = some none ∧ es' = es ++ [(a, c)]) ∨
    ∃ j y e, Instr.findNow D v l i = some (some (i + j, y)) ∧ l[j]? = some e ∧ Instr.sameBits 10000 e.key v = true ∧ ∀ m : MapEntry, m.key = v → m.val = x → Ents μ Z w (l.set j m) es'
  | [], es, es', i, hE, h => by
    obtain ⟨h1, h2⟩ := hE
    cases es with
    | cons p es => cases h1
    | nil =>
      unfold mput at h
      cases hk : keq str a a with
      | none => rw [hk] at h; cases h
      | some t => rw [hk] at h; cases h; exact .inl ⟨rfl, rfl⟩
  | e :: l, es, es', i, hE, h => by
    obtain ⟨h1, h2⟩ := hE
    cases es with
    | nil => cases h1
    | cons p es =>
      obtain ⟨k', v'⟩ := p
      cases h1 with | cons a1 a2 => cases h2 with | cons b1 b2 =>
        unfold mput at h
        split at h
        · rename_i hk
          cases h
          obtain ⟨e1, e2⟩ := keq_now hD hv a1 hk
          refine .inr ⟨0, e.val, e, by simp [Instr.findNow, e1], rfl, e2 rfl, fun m m1 m2 => ⟨?_, ?_⟩⟩
          · exact .cons (show RV μ Z w m.key a by rw [m1]; exact hv) a2
          · exact .cons (show RV μ Z w m.val c by rw [m2]; exact hx) b2
        · rename_i hk
          obtain ⟨e1, _⟩ := keq_now hD hv a1 hk
          cases hp : mput str es a c with
          | none => rw [hp] at h; cases h
          | some es2 =>
            rw [hp] at h; cases h
            rcases put_now hD hv hx l es es2 (i + 1) ⟨a2, b2⟩ hp with ⟨q1, rfl⟩ | ⟨j, y, e0, q1, q2, q3, q4⟩
            · exact .inl ⟨by simpa [Instr.findNow, e1] using q1, rfl⟩
            · refine .inr ⟨j + 1, y, e0, by simp only [Instr.findNow, e1, q1]; rw [Nat.add_right_comm]; rfl, by simpa using q2, q3, fun m m1 m2 => ?_⟩
              obtain ⟨c1, c2⟩ := q4 m m1 m2
              exact ⟨.cons a1 c1, .cons b1 c2⟩
        · cases h
theorem HR.upmap (hr : HR X μ Z w h) {id b o sz : Nat} {es es' : List (AV × AV)} {ents ents' : Array MapEntry} {clock clock' : Nat} (ho : h.getD id .dead = .m es) (hm : μ id = some (b, o, sz))
    (hb : w.heap[b]? = some (.map ents clock)) (hE : Ents μ Z w ents'.toList es') :
    HR X μ Z { w with heap := w.heap.setIfInBounds b (.map ents' clock') } (h.set id (.m es')) ∧ Ext (foot μ h) μ Z w h.length μ Z { w with heap := w.heap.setIfInBounds b (.map ents' clock') } (h.set id (.m es')) := by
  have hid : id < h.length := by
    rcases Nat.lt_or_ge id h.length with h1 | h1
    · exact h1
    · rw [getD_ge h id h1] at ho; cases ho
  have hlive : lives μ h id b := ⟨by rw [ho]; simp, o, sz, hm⟩
  have gs : ∀ i, (h.set id (.m es')).getD i .dead = if i = id then .m es' else h.getD i .dead := by
    intro i
    simp only [List.getD_eq_getElem?_getD, List.getElem?_set]
    by_cases hi : id = i
    · subst hi; simp [hid]
    · rw [if_neg hi, if_neg (Ne.symm hi)]
  have liv : ∀ i b', lives μ (h.set id (.m es')) i b' ↔ lives μ h i b' := by
    intro i b'
    unfold lives
    rw [gs]
    by_cases hi : i = id
    · subst hi; rw [if_pos rfl, ho]; constructor <;> rintro ⟨_, hx⟩ <;> exact ⟨by simp, hx⟩
    · rw [if_neg hi]
  have hbl : b < w.heap.size := (Array.getElem?_eq_some_iff.1 hb).1
  have hnew : (w.heap.setIfInBounds b (.map ents' clock'))[b]? = some (.map ents' clock') := by
    rw [Array.getElem?_setIfInBounds, if_pos rfl, if_pos hbl]
  have hblock : ∀ b', b' ≠ b → (w.heap.setIfInBounds b (.map ents' clock'))[b']? = w.heap[b']? := fun b' hne => by
    rw [Array.getElem?_setIfInBounds, if_neg (Ne.symm hne)]
  have hzb : ¬ Z b := hr.apart b ⟨id, hlive⟩
  have hmov : Mov μ Z w μ Z { w with heap := w.heap.setIfInBounds b (.map ents' clock') } := ⟨fun _ _ h => h, fun _ h => h, fun b' hz => hblock b' (fun e => hzb (e ▸ hz)), fun b' c1 e1 f1 h1 => by
    by_cases hbb : b' = b
    · subst hbb; rw [hb] at h1; cases h1
    · exact ⟨c1, f1, (hblock b' hbb).trans h1, rfl⟩⟩
  refine HR.step (C := fun b' => b' = b) hr (fun _ _ => rfl) rfl rfl rfl (by simp) (fun b' _ hne => hblock b' hne) (fun b' e => e ▸ ⟨id, hlive⟩)
    (fun b' c1 e1 f1 hbb h1 => by subst hbb; rw [hb] at h1; cases h1)
    (fun _ h => h) (fun _ h => .inl h) (fun b' hz => by have := hr.zlt b' hz; simpa using this) (by simp)
    (fun i hi hd => ?_) (fun i hi hd => ?_) (fun i hi hd => ?_) (fun i hi => hr.dom i (by simpa using hi)) (fun i j b' hi hj => hr.inj i j b' ((liv i b').1 hi) ((liv j b').1 hj))
    (fun b' ⟨i, hi⟩ => .inl ⟨i, (liv i b').1 hi⟩) (fun b' ⟨i, hi⟩ => hr.apart b' ⟨i, (liv i b').1 hi⟩)
  · rw [gs] at hd ⊢
    by_cases hii : i = id
    · subst hii
      right
      rw [if_pos rfl]
      unfold RO
      exact ⟨b, o, sz, ents', clock', _, _, hm, hzb, hnew, rfl, rfl, hE.1.mono hmov, hE.2.mono hmov⟩
    · left
      rw [if_neg hii] at hd ⊢
      refine ⟨rfl, fun b' o' sz' hm' => ⟨fun e => hii (hr.inj i id b ⟨hd, o', sz', by rw [hm', e]⟩ hlive), hr.apart b' ⟨i, hd, o', sz', hm'⟩⟩⟩
  · rw [gs] at hd
    by_cases hii : i = id
    · subst hii; rw [ho]; simp
    · rw [if_neg hii] at hd; exact hd
  · rw [gs, if_neg (by omega), getD_ge h i hi] at hd
    exact absurd rfl hd
theorem ents_push {l : List MapEntry} {es : List (AV × AV)} {m : MapEntry} {a c : AV} (hE : Ents μ Z w l es) (hk : RV μ Z w m.key a) (hv : RV μ Z w m.val c) : Ents μ Z w (l ++ [m]) (es ++ [(a, c)]) := by
  obtain ⟨h1, h2⟩ := hE
  constructor
  · rw [List.map_append, List.map_append]; exact h1.append (.cons hk .nil)
  · rw [List.map_append, List.map_append]; exact h2.append (.cons hv .nil)
theorem upd_sound (hr : HR X μ Z w h) {t kt e : TypeId} {s : Bool} {v u x : Value} {a b c : AV} (ht : tkOf X.P t = .mp kt e) (hk : keyStr X.P kt = some s) (hv : RV μ Z w v a) (hu : RV μ Z w u b) (hx : RV μ Z w x c) (H : a_upd s a b c h K) :
    ∃ w' r h' μ' Z', (Instr.mapUpdate t v u x).run X.P w = .ok () w' ∧ K.K r h' ∧ HR X μ' Z' w' h' ∧ RV μ' Z' w' undef r ∧ Ext (foot μ h) μ Z w h.length μ' Z' w' h' := by
  obtain ⟨D, hD1, hD⟩ := keyStr_D hk
  unfold a_upd at H
  split at H
  · rename_i id
    cases ho : h.getD id .dead <;> rw [ho] at H <;> simp only [a_upo] at H
    case m es =>
      cases hp : mput s es b c with
      | none => rw [hp] at H; exact H.elim
      | some es' =>
        rw [hp] at H
        cases hv with
        | @m _ b0 o sz hm =>
          have := hr.obj id
          rw [ho] at this
          obtain ⟨b', o', sz', ents, clock, ks, vs, hm', hz', hb, rfl, rfl, h1, h2⟩ := this
          rw [hm] at hm'
          cases hm'
          rcases put_now hD hu hx ents.toList es es' 0 ⟨h1, h2⟩ hp with ⟨q1, rfl⟩ | ⟨j, y, e0, q1, q2, q3, q4⟩
          · obtain ⟨r1, r2⟩ := hr.upmap (ents' := ents.push { key := u, val := x, born := clock }) (clock' := clock + 1) ho hm hb (by rw [Array.toList_push]; exact ents_push ⟨h1, h2⟩ hu hx)
            refine ⟨_, .bad, _, μ, Z, ?_, H, r1, .bad _, r2⟩
            simp only [Instr.mapUpdate, Sem.run_bind, run_und (tk_mp ht), Result.andThen_ok, MapKept.run_getObj_map hb, check_key hD hD1, Instr.findKey, run_und hD1, q1, Sem.run_pure, MapKept.run_setObj_map _ hb]
          · have q2' : ents[j]? = some e0 := by simpa using q2
            have hE := q4 { e0 with key := u, val := x } rfl rfl
            obtain ⟨r1, r2⟩ := hr.upmap (ents' := ents.modify j fun e => { e with key := u, val := x }) (clock' := clock) ho hm hb (by
              have : (ents.modify j fun e => { e with key := u, val := x }).toList = ents.toList.set j { e0 with key := u, val := x } := by
                rw [Array.toList_modify]
                apply List.ext_getElem?
                intro i
                rw [List.getElem?_modify, List.getElem?_set]
                have hjl : j < ents.toList.length := (List.getElem?_eq_some_iff.1 q2).1
                by_cases hi : j = i
                · subst hi; rw [if_pos rfl, if_pos hjl, q2]; simp
                · simp [hi]
              rw [this]; exact hE)
            refine ⟨_, .bad, _, μ, Z, ?_, H, r1, .bad _, r2⟩
            rw [Nat.zero_add] at q1
            simp only [Instr.mapUpdate, Sem.run_bind, run_und (tk_mp ht), Result.andThen_ok, MapKept.run_getObj_map hb, check_key hD hD1, Instr.findKey, run_und hD1, q1, Sem.run_pure, q2', Option.map_some, Option.getD_some, Instr.keyThatStays, q3, if_true, MapKept.run_setObj_map _ hb]
  · exact H.elim
end
end Go.Ab

namespace Go.Ab

section
variable {X : Ctx} {μ μ' : Mu} {Z Z' : Nat → Prop} {w w' : World} {h h' : Heap} {K : Kt}

/-- an empty list without a block -/
theorem HR.pushVirtual (hr : HR X μ Z w h) (sz : Nat) : HR X μ Z w (h ++ [.o sz []]) ∧ Ext (foot μ h) μ Z w h.length μ Z w (h ++ [.o sz []]) := by
  have hn := hr.dom h.length (Nat.le_refl _)
  have liv : ∀ i b', lives μ (h ++ [.o sz []]) i b' → lives μ h i b' := by
    rintro i b' ⟨e1, o', sz', e2⟩
    rw [getD_push] at e1
    by_cases e3 : i = h.length
    · subst e3; rw [hn] at e2; cases e2
    · rw [if_neg e3] at e1; exact ⟨e1, o', sz', e2⟩
  refine HR.step (C := fun _ => False) hr (fun _ _ => rfl) rfl rfl rfl (Nat.le_refl _) (fun _ _ _ => rfl) (fun _ e => e.elim) (fun _ _ _ _ e => e.elim) (fun _ h => h) (fun _ h => .inl h) hr.zlt (by simp)
    (fun i hi hd => ?_) (fun i hi hd => ?_) (fun i hi hd => ?_) (fun i hi => hr.dom i (by simp at hi; omega)) (fun i j b' hi hj => hr.inj i j b' (liv i b' hi) (liv j b' hj))
    (fun b' ⟨i, hi⟩ => .inl ⟨i, liv i b' hi⟩) (fun b' ⟨i, hi⟩ => hr.apart b' ⟨i, liv i b' hi⟩)
  · rw [getD_push, if_neg (by omega)] at hd ⊢
    exact .inl ⟨rfl, fun b' o' sz' hm' => ⟨fun e => e, hr.apart b' ⟨i, hd, o', sz', hm'⟩⟩⟩
  · rw [getD_push, if_neg (by omega)] at hd; exact hd
  · rw [getD_push] at hd ⊢
    by_cases e3 : i = h.length
    · subst e3; rw [if_pos rfl]; unfold RO; rw [hn]
    · rw [if_neg e3, getD_ge h i hi] at hd; exact absurd rfl hd

/-- an order drawn turns nothing that is told -/
theorem HR.drew (hr : HR X μ Z w h) : HR X μ Z w.drew h ∧ Ext (foot μ h) μ Z w h.length μ Z w.drew h := by
  have hm : Mov μ Z w μ Z w.drew := ⟨fun _ _ h => h, fun _ h => h, fun _ _ => rfl, fun b c e f hb => ⟨c, f, hb, rfl⟩⟩
  refine ⟨⟨fun id => (hr.obj id).mono hm rfl (fun hd b o sz hm => ⟨rfl, hr.apart b ⟨id, hd, o, sz, hm⟩⟩), hr.inj, hr.zlt, hr.dom, hr.apart, fun g hg => ?_⟩,
    ⟨fun _ _ => rfl, fun _ h => h, fun _ h => .inl h, rfl, rfl, rfl, Nat.le_refl _, fun _ _ _ => rfl, fun b c e f hb => ⟨c, f, hb, rfl⟩, fun _ h => .inl h, Nat.le_refl _⟩⟩
  obtain ⟨us, e1, e2⟩ := hr.glob g hg
  exact ⟨us, e1.mono hm, e2⟩

theorem layA_get (xs : List Value) : ∀ (c : Array Value) (p k : Nat), p + xs.length ≤ c.size → (layA c p xs)[k]? = if p ≤ k ∧ k < p + xs.length then xs[k - p]? else c[k]? := by
  induction xs with
  | nil => intro c p k _; simp only [layA, List.length_nil]; rw [if_neg (by omega)]
  | cons x xs ih =>
    intro c p k hl
    simp only [layA, List.length_cons] at hl ⊢
    rw [ih _ _ _ (by simp; omega), Array.getElem?_setIfInBounds]
    by_cases e1 : k = p
    · subst e1
      rw [if_neg (by omega), if_pos rfl, if_pos (by omega), if_pos (by omega)]
      simp
    · by_cases e2 : p + 1 ≤ k ∧ k < p + 1 + xs.length
      · rw [if_pos e2, if_pos (by omega), show k - p = (k - (p + 1)) + 1 from by omega, List.getElem?_cons_succ]
      · rw [if_neg e2, if_neg (Ne.symm e1), if_neg (by omega)]

theorem firstCells_slice {P : Program} {w : World} (size n len cap : Nat) (A : Option Addr) (us : List Value) (hl : us.length = n * size) (hc : ∀ (j : Nat) (u : Value), us[j]? = some u → ∃ ad, A = some ad ∧ w.cell? (ad.add j) = some u) :
    (Builtin.firstCells size n (.slice A len cap)).run P w = .ok us.toArray w := by
  cases A with
  | none =>
    have : us = [] := by
      cases us with
      | nil => rfl
      | cons u us => obtain ⟨ad, e, _⟩ := hc 0 u rfl; cases e
    subst this
    simp [Builtin.firstCells, Sem.run_pure]
  | some ad => exact run_firstCells_some (P := P) w size n ad len cap us hl (fun j u hu => by obtain ⟨ad', e, h1⟩ := hc j u hu; cases e; exact h1)

theorem src_shape {sz : Nat} {x : Value} {r : Nat × List AV} (hs : srcCells sz (.v x) h = some r) : (∃ s, x = .string s) ∨ x = .slice none 0 0 := by
  unfold srcCells at hs
  split at hs <;> simp_all

/-- what is appended, of whatever kind -/
theorem src_run (hr : HR X μ Z w h) {P : Program} {sz n : Nat} {v : Value} {y : AV} {new : List AV} (hv : RV μ Z w v y) (hs : srcCells sz y h = some (n, new)) (hl : new.length = n * sz) :
    ∃ news : List Value, RVs μ Z w news new ∧ (∀ u ∈ news, u.oneCell' = true) ∧ news.length = n * sz ∧ (Builtin.lenOf v).run P w = .ok n w ∧ (Builtin.firstCells sz n v).run P w = .ok news.toArray w ∧ (Builtin.firstCells sz n v).run P w.drew = .ok news.toArray w.drew := by
  cases y with
  | s id off m =>
    simp only [srcCells] at hs
    cases ho : h.getD id .dead with
    | m es => rw [ho] at hs; simp [srcObj] at hs
    | k b f t => rw [ho] at hs; simp [srcObj] at hs
    | dead => rw [ho] at hs; simp [srcObj] at hs
    | o sz' cs =>
      rw [ho] at hs
      simp only [srcObj] at hs
      cases hs
      rcases hr.slice hv ho with ⟨⟨A, rfl⟩, rfl⟩ | ⟨b, o, us, cap, c, e, f, rfl, hle, hm, hlen, hrs, hc, _⟩
      · refine ⟨[], by simpa using RVs.nil, by simp, by simp, rfl, ?_, ?_⟩
        · exact firstCells_slice sz 0 0 0 A [] (by simp) (fun j u hu => by cases hu)
        · exact firstCells_slice sz 0 0 0 A [] (by simp) (fun j u hu => by cases hu)
      · have hl2 : ((us.drop off).take (n * sz)).length = n * sz := by
          have := hl; simp at this ⊢; omega
        have hcell : ∀ (j : Nat) (u : Value), ((us.drop off).take (n * sz))[j]? = some u → ∃ ad, some (⟨b, o + off, none⟩ : Addr) = some ad ∧ w.cell? (ad.add j) = some u := fun j u hu => by
          obtain ⟨h1, _⟩ := seg hu
          exact ⟨_, rfl, by rw [add_at, Nat.add_assoc]; exact (hc _ _ h1).1⟩
        refine ⟨(us.drop off).take (n * sz), (hrs.drop off).take _, fun u hu => ?_, hl2, rfl, firstCells_slice sz n n cap _ _ hl2 hcell, firstCells_slice sz n n cap _ _ hl2 (fun j u hu => by simpa using hcell j u hu)⟩
        obtain ⟨j, hj⟩ := List.mem_iff_getElem?.1 hu
        exact (hc _ _ (seg hj).1).2
  | z cs m =>
    simp only [srcCells] at hs
    cases hs
    cases hv with
    | @z A _ cap us _ hrs hc hle =>
      have hlen := hrs.length
      have hl2 : (us.take (n * sz)).length = n * sz := by have := hl; simp at this ⊢; omega
      have hcell : ∀ (j : Nat) (u : Value), (us.take (n * sz))[j]? = some u → ∃ ad, A = some ad ∧ w.cell? (ad.add j) = some u := fun j u hu => by
        rw [List.getElem?_take] at hu
        split at hu
        · obtain ⟨ad, e, _, h2, _⟩ := hc j u hu; exact ⟨ad, e, h2⟩
        · cases hu
      refine ⟨us.take (n * sz), hrs.take _, fun u hu => ?_, hl2, rfl, firstCells_slice sz n n cap _ _ hl2 hcell, firstCells_slice sz n n cap _ _ hl2 (fun j u hu => by simpa using hcell j u hu)⟩
      obtain ⟨j, hj⟩ := List.mem_iff_getElem?.1 (List.mem_of_mem_take hu)
      obtain ⟨ad, e, _, _, h3⟩ := hc j u hj
      exact h3
  | v x =>
    cases hv
    rcases src_shape hs with ⟨s, rfl⟩ | rfl
    · simp only [srcCells] at hs
      cases hs
      have hd : (s.extract 0 s.size).data = s.data := by
        have : s.extract 0 s.size = s := by simp
        rw [this]
      have hrun : ∀ w : World, (Builtin.firstCells sz s.size (.string s)).run P w = .ok ((s.data.toList.map fun b => Value.int .u8 b.toNat).toArray) w := fun w => by
        simp only [Builtin.firstCells, Sem.run_pure, hd]
        congr 1
        apply Array.ext'
        simp
      refine ⟨s.data.toList.map fun b => Value.int .u8 b.toNat, ?_, ?_, ?_, rfl, hrun w, hrun w.drew⟩
      · have := RVs.scalars (μ := μ) (Z := Z) (w := w) (s.data.toList.map fun b => Value.int .u8 b.toNat)
        simpa [ofStr, Function.comp_def] using this
      · intro u hu
        obtain ⟨b, _, rfl⟩ := List.mem_map.1 hu
        rfl
      · simpa [ofStr] using hl
    · simp only [srcCells] at hs
      cases hs
      refine ⟨[], .nil, by simp, by simp, rfl, ?_, ?_⟩
      · exact firstCells_slice sz 0 0 0 none [] (by simp) (fun j u hu => by cases hu)
      · exact firstCells_slice sz 0 0 0 none [] (by simp) (fun j u hu => by cases hu)
  | _ => simp [srcCells] at hs

theorem grownCap_big (w : World) (need old : Nat) (e : TypeId) : need ≤ grownCap w need old e := grownCap_ge w need old e

/-- the arm that makes a new row, out of old cells and new ones -/
theorem grow_sound (hr : HR X μ Z w h) {e : TypeId} {i : TypeInfo} {z : Value} (sz : Nat) (hsz : i.size = sz) (hzs : z.cells.size = sz) (h0 : 0 < sz) {len n : Nat} {olds news : List Value} {csO csN : List AV}
    (r1 : RVs μ Z w olds csO) (r2 : RVs μ Z w news csN) (l1 : olds.length = len * sz) (l2 : news.length = n * sz) (o1 : ∀ u ∈ olds, u.oneCell' = true) (o2 : ∀ u ∈ news, u.oneCell' = true) (old : Nat) :
    ∃ μ', HR X μ' Z (w.drew.alloc (.cells (olds.toArray ++ news.toArray ++ Builtin.zeroCells z.cells (grownCap w (len + n) old e - (len + n))) e)) (h ++ [.o sz (csO ++ csN)]) ∧
      Ext (foot μ h) μ Z w h.length μ' Z (w.drew.alloc (.cells (olds.toArray ++ news.toArray ++ Builtin.zeroCells z.cells (grownCap w (len + n) old e - (len + n))) e)) (h ++ [.o sz (csO ++ csN)]) ∧
      RV μ' Z (w.drew.alloc (.cells (olds.toArray ++ news.toArray ++ Builtin.zeroCells z.cells (grownCap w (len + n) old e - (len + n))) e)) (.slice (some ⟨w.heap.size, 0, none⟩) (len + n) (grownCap w (len + n) old e)) (.s h.length 0 (len + n)) := by
  have hge := grownCap_big w (len + n) old e
  have hcs : (olds.toArray ++ news.toArray ++ Builtin.zeroCells z.cells (grownCap w (len + n) old e - (len + n))).size = grownCap w (len + n) old e * sz := by
    simp only [Array.size_append, List.size_toArray, size_zeroCells, hzs, l1, l2, ← Nat.add_mul]
    congr 1; omega
  obtain ⟨μ', a1, a2, a3, a4⟩ := hr.cellsNew (w' := w.drew.alloc (.cells (olds.toArray ++ news.toArray ++ Builtin.zeroCells z.cells (grownCap w (len + n) old e - (len + n))) e)) (f := (0, 0)) sz (r1.append r2)
    (fun u hu => by rcases List.mem_append.1 hu with h | h; exact o1 u h; exact o2 u h)
    (fun j u hu => by
      have hj := (List.getElem?_eq_some_iff.1 hu).1
      rw [← Array.getElem?_toList]
      simp only [Array.toList_append, List.append_assoc]
      rw [← List.append_assoc, List.getElem?_append_left (by simpa using hj)]
      exact hu)
    (by rw [hcs]; simp only [List.length_append, l1, l2, ← Nat.add_mul]; exact Nat.mul_le_mul_right _ hge) (.inr rfl) rfl rfl rfl (by simp)
    (fun b hb => alloc_old w.drew _ b hb) (alloc_new w.drew _)
  refine ⟨μ', a1, a2, ?_⟩
  have := RV.s (μ := μ') (Z := Z) (w := w.drew.alloc (.cells (olds.toArray ++ news.toArray ++ Builtin.zeroCells z.cells (grownCap w (len + n) old e - (len + n))) e)) (off := 0) (len := len + n) (cap := grownCap w (len + n) old e) a3 hge (alloc_new w.drew _) (by rw [hcs]; omega)
  simpa using this

theorem app_shape {sz by_ : Nat} {x : Value} {y : AV} (H : a_app sz by_ (.v x) y h K) : x = .slice none 0 0 := by
  unfold a_app at H
  split at H <;> simp_all
theorem appk_sound (hr : HR X μ Z w h) {t1 t2 ty e : TypeId} {sz by_ id off len : Nat} {v u : Value} {b : AV} (ht : tkOf X.P t1 = .sl e sz by_) (ht2 : (∃ e' s' b', tkOf X.P t2 = .sl e' s' b') ∨ tkOf X.P t2 = .str) (hv : RV μ Z w v (.s id off len)) (hu : RV μ Z w u b) (H : a_app sz by_ (.w id off len) b h K) :
    EfS X μ Z w h K (Builtin.append_ #[t1, t2] ty #[v, u]) := by
  obtain ⟨hund, inf, zv, hinf, hsz, hby, hzv, hzs⟩ := tk_sl ht
  have hd2 : ∃ d, X.P.underlying t2 = some d ∧ ∀ k, d ≠ .int k := by
    rcases ht2 with ⟨e', s', b', h2⟩ | h2
    · exact ⟨_, (tk_sl h2).1, fun k => by simp⟩
    · exact ⟨_, tk_str h2, fun k => by simp⟩
  simp only [a_app] at H
  cases ho : h.getD id .dead with
  | m es => rw [ho] at H; simp [a_appk] at H
  | k b f t => rw [ho] at H; simp [a_appk] at H
  | dead => rw [ho] at H; simp [a_appk] at H
  | o sz' cs =>
    rw [ho] at H
    cases hs : srcCells sz b h with
    | none => rw [hs] at H; simp [a_appk] at H
    | some p =>
      obtain ⟨n, new⟩ := p
      rw [hs] at H
      simp only [a_appk] at H
      obtain ⟨⟨rfl, hn0, h0, h0b, hbig, hle, hnl⟩, H⟩ := H
      obtain ⟨news, rn, on, ln, lenr, fr, frd⟩ := src_run hr (P := X.P) hu hs hnl
      simp only [bigRoom] at hbig
      have hby' : (len + n) * inf.bytes ≤ 140737488355328 := by rw [hby]; omega
      have hmax : len + n ≤ 9223372036854775807 := by
        have : len + n ≤ (len + n) * by_ := Nat.le_mul_of_pos_right _ h0b
        omega
      rw [← hsz] at fr frd
      rcases hr.slice hv ho with ⟨⟨A, rfl⟩, rfl⟩ | ⟨b0, o, us, cap, c, e', f, rfl, hlc, hm, hlen, hrs, hc, hb, hf, hcap, hzb⟩
      · have hnil : ∀ w : World, (Builtin.firstCells inf.size 0 (.slice A 0 0)).run X.P w = .ok ([] : List Value).toArray w := fun w => firstCells_slice inf.size 0 0 0 A [] (by simp) (fun j u hu => by cases hu)
        obtain ⟨μ', g1, g2, g3⟩ := grow_sound hr (e := e) sz' hsz hzs h0 (len := 0) (n := n) (olds := []) .nil rn (by simp) ln (by simp) on 0
        have hrun := append_grow (ty := ty) hund hd2 hinf hzv lenr frd (A := A) (sLen := 0) (sCap := 0) (hnil w.drew) (by omega) hby' hmax
        exact ⟨_, _, _, _, μ', Z, hrun, H h.length 0 _ (.inr ⟨rfl, rfl, by simp⟩), g1, .w g3, g2⟩
      · have hl1 : ((us.drop off).take (len * sz')).length = len * sz' := by simp; omega
        have hcell : ∀ (j : Nat) (u : Value), ((us.drop off).take (len * sz'))[j]? = some u → ∃ ad, some (⟨b0, o + off, none⟩ : Addr) = some ad ∧ w.cell? (ad.add j) = some u := fun j u hu => by
          obtain ⟨h1, _⟩ := seg hu
          exact ⟨_, rfl, by rw [add_at, Nat.add_assoc]; exact (hc _ _ h1).1⟩
        have hone : ∀ u ∈ (us.drop off).take (len * sz'), u.oneCell' = true := fun u hu => by
          obtain ⟨j, hj⟩ := List.mem_iff_getElem?.1 hu
          exact (hc _ _ (seg hj).1).2
        have hor : RVs μ Z w ((us.drop off).take (len * sz')) ((cs.drop off).take (len * sz')) := (hrs.drop off).take _
        by_cases hroom : len + n ≤ cap
        · have hmul : len * sz' + n * sz' ≤ cap * sz' := by rw [← Nat.add_mul]; exact Nat.mul_le_mul_right _ hroom
          have hst := storeCells_run (P := X.P) b0 (o + off + len * sz') e' f news 0 c w hb hf (by rw [ln]; omega) on
          simp only [Nat.add_zero] at hst
          have hrun := append_room (ty := ty) (w' := w.setRow b0 (layA c (o + off + len * sz') news)) hund hd2 hinf lenr fr (A := some ⟨b0, o + off, none⟩) (sLen := len) (sCap := cap) hroom (by
            simp only [add_at, hsz]; exact hst)
          have htl : (us.take (off + len * sz')).length = off + len * sz' := by simp; omega
          obtain ⟨g1, g2⟩ := hr.update (c' := layA c (o + off + len * sz') news) (cs' := cs.take (off + len * sz') ++ new) (us' := us.take (off + len * sz') ++ news) ho hm hb hf (layA_size _ _ _)
            (by have := (hrs.take (off + len * sz')).length; have := rn.length; rw [List.length_append]; omega) ((hrs.take _).append rn) (fun j x hx => by
              have hj := (List.getElem?_eq_some_iff.1 hx).1
              rw [List.length_append, htl, ln] at hj
              rw [layA_get _ _ _ _ (by rw [ln]; omega)]
              by_cases hjl : j < off + len * sz'
              · rw [List.getElem?_append_left (by omega)] at hx
                rw [if_neg (by omega)]
                rw [List.getElem?_take_of_lt hjl] at hx
                obtain ⟨h1, h2⟩ := hc _ _ hx
                refine ⟨?_, h2⟩
                unfold World.cell? at h1
                rw [hb] at h1
                simpa using h1
              · rw [List.getElem?_append_right (by omega), htl] at hx
                rw [if_pos (by rw [ln]; omega)]
                refine ⟨?_, on x (List.mem_of_getElem? hx)⟩
                rw [← hx]; congr 1; omega)
          refine ⟨_, _, _, _, μ, Z, hrun, H id off _ (.inl ⟨rfl, rfl, rfl⟩), g1, ?_, g2⟩
          exact .w (RV.s hm hroom (setRow_heap w b0 c _ e' f hb) (by rw [layA_size]; omega))
        · obtain ⟨μ', g1, g2, g3⟩ := grow_sound hr (e := e) sz' hsz hzs h0 hor rn hl1 ln hone on cap
          have hold : (Builtin.firstCells inf.size len (.slice (some ⟨b0, o + off, none⟩) len cap)).run X.P w.drew = .ok ((us.drop off).take (len * sz')).toArray w.drew := by
            rw [hsz]
            exact firstCells_slice sz' len len cap _ _ hl1 (fun j u hu => by simpa using hcell j u hu)
          have hrun := append_grow (ty := ty) hund hd2 hinf hzv lenr frd hold (by omega) hby' hmax
          exact ⟨_, _, _, _, μ', Z, hrun, H h.length 0 _ (.inr ⟨rfl, rfl, rfl⟩), g1, .w g3, g2⟩

theorem app_sound (hr : HR X μ Z w h) {t1 t2 ty e : TypeId} {sz by_ : Nat} {v u : Value} {a b : AV} (ht : tkOf X.P t1 = .sl e sz by_) (ht2 : (∃ e' s' b', tkOf X.P t2 = .sl e' s' b') ∨ tkOf X.P t2 = .str) (hv : RV μ Z w v a) (hu : RV μ Z w u b) (H : a_app sz by_ a b h K) :
    EfS X μ Z w h K (Builtin.append_ #[t1, t2] ty #[v, u]) := by
  obtain ⟨hund, inf, zv, hinf, hsz, hby, hzv, hzs⟩ := tk_sl ht
  have hd2 : ∃ d, X.P.underlying t2 = some d ∧ ∀ k, d ≠ .int k := by
    rcases ht2 with ⟨e', s', b', h2⟩ | h2
    · exact ⟨_, (tk_sl h2).1, fun k => by simp⟩
    · exact ⟨_, tk_str h2, fun k => by simp⟩
  cases a with
  | s id off len =>
    simp only [a_app] at H
    cases ho : h.getD id .dead with
    | m es => rw [ho] at H; simp [a_appo] at H
    | k b f t => rw [ho] at H; simp [a_appo] at H
    | dead => rw [ho] at H; simp [a_appo] at H
    | o sz' cs =>
      rw [ho] at H
      cases hs : srcCells sz b h with
      | none => rw [hs] at H; simp [a_appo] at H
      | some p =>
        obtain ⟨n, new⟩ := p
        rw [hs] at H
        simp only [a_appo] at H
        obtain ⟨⟨rfl, h0, h0b, hbig, hle, hnl, hoth⟩, H⟩ := H
        obtain ⟨news, rn, on, ln, lenr, fr, frd⟩ := src_run hr (P := X.P) hu hs hnl
        simp only [bigRoom] at hbig
        have hby' : (len + n) * inf.bytes ≤ 140737488355328 := by rw [hby]; omega
        have hmax : len + n ≤ 9223372036854775807 := by
          have : len + n ≤ (len + n) * by_ := Nat.le_mul_of_pos_right _ h0b
          omega
        obtain ⟨k1, k2⟩ := hr.kill id
        rw [← hsz] at fr frd
        rcases hr.slice hv ho with ⟨⟨A, rfl⟩, rfl⟩ | ⟨b0, o, us, cap, c, e', f, rfl, hlc, hm, hlen, hrs, hc, hb, hf, hcap, hzb⟩
        · -- an empty list
          have hnil : ∀ w : World, (Builtin.firstCells inf.size 0 (.slice A 0 0)).run X.P w = .ok ([] : List Value).toArray w := fun w => firstCells_slice inf.size 0 0 0 A [] (by simp) (fun j u hu => by cases hu)
          by_cases hn0 : n = 0
          · subst hn0
            have e1 : news = [] := List.eq_nil_of_length_eq_zero (by simpa using ln)
            have e2 : new = [] := List.eq_nil_of_length_eq_zero (by simpa using hnl)
            subst e1 e2
            obtain ⟨p1, p2⟩ := k1.pushVirtual sz'
            simp at H
            refine ⟨_, _, _, _, μ, Z, append_room (w' := w) hund hd2 hinf lenr fr (Nat.le_refl _) (by cases A <;> rfl), H, by simpa using p1, .snil, k2.trans (by simpa using p2) (by simp)⟩
          · obtain ⟨μ', g1, g2, g3⟩ := grow_sound k1 (e := e) sz' hsz hzs h0 (len := 0) (n := n) (olds := []) .nil rn (by simp) ln (by simp) on 0
            have hrun := append_grow (ty := ty) hund hd2 hinf hzv lenr frd (A := A) (sLen := 0) (sCap := 0) (hnil w.drew) (by omega) hby' hmax
            rw [List.length_set] at g2 g3
            simp only [Nat.zero_mul, List.take_zero] at H
            refine ⟨_, _, _, _, μ', Z, hrun, H, g1, g3, k2.trans g2 (Nat.le_refl _)⟩
        · have hl1 : ((us.drop off).take (len * sz')).length = len * sz' := by simp; omega
          have hcell : ∀ (j : Nat) (u : Value), ((us.drop off).take (len * sz'))[j]? = some u → ∃ ad, some (⟨b0, o + off, none⟩ : Addr) = some ad ∧ w.cell? (ad.add j) = some u := fun j u hu => by
            obtain ⟨h1, _⟩ := seg hu
            exact ⟨_, rfl, by rw [add_at, Nat.add_assoc]; exact (hc _ _ h1).1⟩
          have hone : ∀ u ∈ (us.drop off).take (len * sz'), u.oneCell' = true := fun u hu => by
            obtain ⟨j, hj⟩ := List.mem_iff_getElem?.1 hu
            exact (hc _ _ (seg hj).1).2
          have hor : RVs μ Z w ((us.drop off).take (len * sz')) ((cs.drop off).take (len * sz')) := (hrs.drop off).take _
          by_cases hroom : len + n ≤ cap
          · have hmul : len * sz' + n * sz' ≤ cap * sz' := by rw [← Nat.add_mul]; exact Nat.mul_le_mul_right _ hroom
            have hst := storeCells_run (P := X.P) b0 (o + off + len * sz') e' f news 0 c w hb hf (by rw [ln]; omega) on
            simp only [Nat.add_zero] at hst
            have hrun := append_room (ty := ty) (w' := w.setRow b0 (layA c (o + off + len * sz') news)) hund hd2 hinf lenr fr (A := some ⟨b0, o + off, none⟩) (sLen := len) (sCap := cap) hroom (by
              simp only [add_at, hsz]; exact hst)
            obtain ⟨μ', g1, g2, g3⟩ := hr.regrow (c' := layA c (o + off + len * sz') news) (off := o + off) (cs' := (cs.drop off).take (len * sz') ++ new) (us' := (us.drop off).take (len * sz') ++ news) ho hm hb hf (layA_size _ _ _)
              (by have := hor.length; have := rn.length; simp only [List.length_append]; omega) (hor.append rn) (fun j x hx => by
                have hj := (List.getElem?_eq_some_iff.1 hx).1
                rw [List.length_append, hl1, ln] at hj
                rw [layA_get _ _ _ _ (by rw [ln]; omega)]
                by_cases hjl : j < len * sz'
                · rw [List.getElem?_append_left (by omega)] at hx
                  rw [if_neg (by omega)]
                  refine ⟨?_, hone x (List.mem_of_getElem? hx)⟩
                  have h1 := (seg hx).1
                  have h2 := (hc _ _ h1).1
                  unfold World.cell? at h2
                  rw [hb] at h2
                  rw [Nat.add_assoc]
                  simpa using h2
                · rw [List.getElem?_append_right (by omega), hl1] at hx
                  rw [if_pos (by rw [ln]; omega)]
                  refine ⟨?_, on x (List.mem_of_getElem? hx)⟩
                  rw [← hx]; congr 1; omega)
            refine ⟨_, _, _, _, μ', Z, hrun, H, g1, ?_, g2⟩
            have := RV.s (μ := μ') (Z := Z) (w := w.setRow b0 (layA c (o + off + len * sz') news)) (off := 0) (len := len + n) (cap := cap) g3 hroom (setRow_heap w b0 c _ e' f hb) (by rw [layA_size]; omega)
            simpa using this
          · obtain ⟨μ', g1, g2, g3⟩ := grow_sound k1 (e := e) sz' hsz hzs h0 hor rn hl1 ln hone on cap
            have hold : (Builtin.firstCells inf.size len (.slice (some ⟨b0, o + off, none⟩) len cap)).run X.P w.drew = .ok ((us.drop off).take (len * sz')).toArray w.drew := by
              rw [hsz]
              exact firstCells_slice sz' len len cap _ _ hl1 (fun j u hu => by simpa using hcell j u hu)
            have hrun := append_grow (ty := ty) hund hd2 hinf hzv lenr frd hold (by omega) hby' hmax
            rw [List.length_set] at g2 g3
            refine ⟨_, _, _, _, μ', Z, hrun, H, g1, g3, k2.trans g2 (Nat.le_refl _)⟩
  | w id off len => cases hv with | w hv => exact appk_sound hr ht ht2 hv hu H
  | v x =>
    obtain rfl := app_shape H
    simp only [a_app] at H
    cases hs : srcCells sz b h with
    | none => rw [hs] at H; simp [a_appn] at H
    | some p =>
      obtain ⟨n, new⟩ := p
      rw [hs] at H
      simp only [a_appn] at H
      obtain ⟨⟨h0, h0b, hbig, hnl⟩, H⟩ := H
      obtain ⟨news, rn, on, ln, lenr, fr, frd⟩ := src_run hr (P := X.P) hu hs hnl
      simp only [bigRoom] at hbig
      cases hv
      have hby' : (0 + n) * inf.bytes ≤ 140737488355328 := by rw [hby, Nat.zero_add]; omega
      have hmax : 0 + n ≤ 9223372036854775807 := by
        have : n ≤ n * by_ := Nat.le_mul_of_pos_right _ h0b
        omega
      rw [← hsz] at fr frd
      have hnil : ∀ w : World, (Builtin.firstCells inf.size 0 (.slice none 0 0)).run X.P w = .ok ([] : List Value).toArray w := fun w => firstCells_slice inf.size 0 0 0 none [] (by simp) (fun j u hu => by cases hu)
      by_cases hn0 : n = 0
      · subst hn0
        have e1 : news = [] := List.eq_nil_of_length_eq_zero (by simpa using ln)
        have e2 : new = [] := List.eq_nil_of_length_eq_zero (by simpa using hnl)
        subst e1 e2
        obtain ⟨p1, p2⟩ := hr.pushVirtual sz
        exact ⟨_, _, _, _, μ, Z, append_room (w' := w) hund hd2 hinf lenr fr (Nat.le_refl _) rfl, H, p1, .snil, p2⟩
      · obtain ⟨μ', g1, g2, g3⟩ := grow_sound hr (e := e) sz hsz hzs h0 (len := 0) (n := n) (olds := []) .nil rn (by simp) ln (by simp) on 0
        have hrun := append_grow (ty := ty) hund hd2 hinf hzv lenr frd (A := none) (sLen := 0) (sCap := 0) (hnil w.drew) (by omega) hby' hmax
        rw [Nat.zero_add] at g3 g1 g2 hrun
        exact ⟨_, _, _, _, μ', Z, hrun, H, g1, g3, g2⟩
  | _ => simp [a_app] at H
end
end Go.Ab

