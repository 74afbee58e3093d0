/- The abstract machine on data, part 1: its operations are sound over the model. -/
import GoSem.Dispatch
import Derived.Laws.World
import Derived.Orders
set_option linter.unusedVariables false
set_option linter.unusedSimpArgs false
/- The abstract machine on data: definitions. No program in sight; nothing assumed. -/
namespace Go.Avm
open Go

/-- Data: what a value reads as where nothing of it is written any more. -/
inductive D where
  | undef
  | bool (b : Bool)
  | int (k : IntKind) (n : Int)
  | str (s : ByteArray)
  | nilptr | nilslice | nilmap | nilfunc | niliface
  | ref (cells : List D) (off : Nat)
  | vec (cells : List D) (n : Nat) (exact : Bool)
  | func (f : Nat) (first captured : List D)
  | iface (t : Nat) (d : D)
  | agg (cells : List D)
  | tuple (vs : List D)
  | mapd (keys vals : List D)
  deriving Inhabited

/-- Values: data, or what leads to objects that may still be written. -/
inductive V where
  | d (x : D)
  | ptr (o off : Nat)
  | arr (o off n z : Nat) (cap : Option Nat)
  | mapr (o : Nat)
  | func (f : Nat) (first captured : List V)
  | iface (t : Nat) (x : V)
  | agg (cells : List V)
  | tuple (vs : List V)
  | hole (n : Nat)      -- a fresh variable of n cells that nobody else knows of yet
  deriving Inhabited

inductive Obj where
  | cells (cs : List V)
  | frozen (cs : List D)
  | map (keys : List D) (vals : List V)
  | fmap (keys vals : List D)
  | iter (keys vals : List D) (seen : List Nat)
  | dead
  deriving Inhabited

def lk {α : Type} : List (Nat × α) → Nat → Option α
  | [], _ => none
  | (k, v) :: l, i => if Nat.beq k i then some v else lk l i

def st {α : Type} (i : Nat) (x : α) : List (Nat × α) → List (Nat × α)
  | [] => [(i, x)]
  | (k, v) :: l => if Nat.beq k i then (k, x) :: l else (k, v) :: st i x l

/-- objects by their number: a tree on the number's digits -/
inductive OT where
  | nil
  | node (l : OT) (o : Option Obj) (r : OT)
  deriving Inhabited
def OT.get : OT → Nat → Option Obj
  | .nil, _ => none
  | .node l o r, i => if Nat.beq i 0 then o else if Nat.beq (i % 2) 1 then l.get (i / 2) else r.get (i / 2 - 1)
def OT.lf : OT → OT
  | .nil => .nil
  | .node l _ _ => l
def OT.mid : OT → Option Obj
  | .nil => none
  | .node _ o _ => o
def OT.rt : OT → OT
  | .nil => .nil
  | .node _ _ r => r
def OT.put : Nat → OT → Nat → Obj → OT
  | 0, t, _, _ => t
  | f + 1, t, i, x => if Nat.beq i 0 then .node t.lf (some x) t.rt
    else if Nat.beq (i % 2) 1 then .node (OT.put f t.lf (i / 2) x) t.mid t.rt else .node t.lf t.mid (OT.put f t.rt (i / 2 - 1) x)

/-- `next` is the number of the next new object (`top` but for a moment), `top` is above all numbers given -/
structure H where
  next : Nat
  top : Nat
  objs : OT
  deriving Inhabited

def H.empty : H := ⟨0, 0, .nil⟩
def H.get (h : H) (i : Nat) : Obj := (h.objs.get i).getD .dead
def H.has (h : H) (i : Nat) : Prop := (h.objs.get i).isSome = true
def H.set (h : H) (i : Nat) (x : Obj) : H := ⟨h.next, h.top, OT.put (i + 1) h.objs i x⟩
def H.up (h : H) : Nat := if Nat.blt h.next h.top then h.top else h.top + 1
def H.new (h : H) (x : Obj) : H := ⟨h.up, h.up, OT.put (h.next + 1) h.objs h.next x⟩

def allD : List V → Option (List D)
  | [] => some []
  | .d x :: l => match allD l with
    | some ds => some (x :: ds)
    | none => none
  | _ :: _ => none

def mkAgg (vs : List V) : V := match allD vs with
  | some ds => .d (.agg ds)
  | none => .agg vs
def mkTuple (vs : List V) : V := match allD vs with
  | some ds => .d (.tuple ds)
  | none => .tuple vs
def mkFunc (f : Nat) (xs ys : List V) : V := match allD xs, allD ys with
  | some as, some bs => .d (.func f as bs)
  | _, _ => .func f xs ys
def mkIface (t : Nat) : V → V
  | .d x => .d (.iface t x)
  | x => .iface t x

/-- the cells of a value -/
def cellsOf : V → List V
  | .d (.agg ds) => ds.map .d
  | .agg vs => vs
  | x => [x]

def dcells : D → List D
  | .agg ds => ds
  | x => [x]

inductive Opnd where
  | t (n : Nat)
  | c (d : D)
  deriving Inhabited

inductive AOp where
  | mv (x : Opnd)
  | pick (c a b : Opnd)
  | alloc (zero : List D)
  | hole (zero : List D)
  | box (x : Opnd)
  | boxF (x : Opnd)
  | build (zero : List D) (parts : List (Nat × Nat × Opnd))
  | load (n : Nat) (agg : Bool) (a : Opnd)
  | store (n : Nat) (a x : Opnd)
  | storeF (n : Nat) (a : Nat) (x : Opnd)
  | nilck (x : Opnd)
  | bin (op : BinOp) (x y : Opnd)
  | eqB (neq : Bool) (x y : Opnd)
  | eqNil (kk : Nat) (neq : Bool) (x : Opnd)
  | eqPtrs (n : Nat) (neq : Bool) (x y : Opnd)
  | un (op : UnOp) (x : Opnd)
  | conv (k : IntKind) (x : Opnd)
  | convStr (x : Opnd)
  | mkI (t : Nat) (x : Opnd)
  | mkF (f : Nat) (first captured : List Opnd)
  | mkMap
  | mkSl (z bytes : Nat) (zero : List D) (l c : Opnd)
  | buildS (z : Nat) (zero : List D) (n : Nat) (parts : List (Nat × Opnd)) (own : Bool)
  | slice (z : Nat) (x : Opnd) (lo hi mx : Option Opnd)
  | sliceStr (x : Opnd) (lo hi : Option Opnd)
  | fld (n : Nat) (agg : Bool) (off : Nat) (x : Opnd)
  | fAddr (off : Nat) (x : Opnd)
  | iAddr (z : Nat) (x i : Opnd)
  | iAddrA (z len : Nat) (x i : Opnd)
  | idxS (x i : Opnd)
  | lookup (kk : Nat) (zero : D) (m k : Opnd) (ok : Bool)
  | mapUp (kk : Nat) (m k x : Opnd)
  | mapEnt (kk : Nat) (zero : D) (m k : Opnd)
  | entSt (m s x : Opnd)
  | tassert (x : Opnd) (t : Nat) (ok : Bool) (zero : D)
  | ext (x : Opnd) (i : Nat)
  | call (f : Nat) (args : List Opnd)
  | callX (f : Nat) (args : List Opnd)
  | callS (f : Nat) (args : List Opnd)
  | callV (g : Opnd) (args : List Opnd)
  | len (kk : Nat) (x : Opnd)
  | append (z bytes : Nat) (s x : Opnd)
  | appendZ (z bytes : Nat) (zero : List D) (s x : Opnd)
  | clear (z : Nat) (zero : List D) (x : Opnd)
  | cap (x : Opnd)
  | copy (z : Nat) (d s : Opnd)
  | max (xs : List Opnd)
  | min (xs : List Opnd)
  | range (x : Opnd)
  | next (x : Opnd)
  | entry (x : Opnd)
  | unk
  deriving Inhabited

structure AOper where
  dst : Option Nat
  op : AOp
  guard : Option (Nat × Bool)
  deriving Inhabited

inductive AC where
  | skip
  | region (ops : List AOper)
  | draw (ops : List (AOper × List Nat))     -- each with the indices of the operations that stand before it for certain
  | seq (a b : AC)
  | cond (c : Opnd) (a b : AC)
  | block (id : Nat) (c : AC)
  | loop (live : List Nat) (c : AC)
  | exit (id : Nat)
  | ret
  | unk
  deriving Inhabited

inductive ARes where
  | t (n : Nat)
  | cell (a n : Nat) (agg : Bool)
  deriving Inhabited

structure AFn where
  nparams : Nat
  results : List ARes
  body : AC
  deriving Inhabited

structure St where
  env : List (Nat × V)
  heap : H
  log : Option (List Nat)
  deriving Inhabited

inductive Ex where
  | norm
  | exit (id : Nat)
  | ret
  deriving Inhabited, DecidableEq

end Go.Avm

/- The abstract machine on data: what each operation does, and how code runs. -/
namespace Go.Avm
open Go

def opv (ρ : Nat → Option V) : Opnd → Option V
  | .t n => match ρ n with
    | some (.hole _) => none
    | r => r
  | .c d => some (.d d)
def aggOf : V → Option (List V)
  | .d (.agg ds) => some (ds.map .d)
  | .agg vs => some vs
  | _ => none
def opvs (ρ : Nat → Option V) : List Opnd → Option (List V)
  | [] => some []
  | x :: l => match opv ρ x, opvs ρ l with
    | some v, some vs => some (v :: vs)
    | _, _ => none

mutual
def frz : Nat → H → V → Option (D × H)
  | 0, _, _ => none
  | _ + 1, h, .d x => some (x, h)
  | n + 1, h, .ptr o off => match frzO n h o with
    | some (cs, h') => some (.ref cs off, h')
    | none => none
  | n + 1, h, .arr o off k z cap => match frzO n h o with
    | some (cs, h') => if Nat.ble (off + k * z) cs.length then some (.vec ((cs.drop off).take (k * z)) k (cap == some k), h') else none
    | none => none
  | n + 1, h, .mapr o => match h.get o with
    | .fmap ks vs => some (.mapd ks vs, h)
    | .map ks vs => match frzL n (h.set o .dead) vs with
      | some (ds, h') => some (.mapd ks ds, h'.set o (.fmap ks ds))
      | none => none
    | _ => none
  | n + 1, h, .func f xs ys => match frzL n h xs with
    | some (as, h') => match frzL n h' ys with
      | some (bs, h'') => some (.func f as bs, h'')
      | none => none
    | none => none
  | n + 1, h, .iface t x => match frz n h x with
    | some (d, h') => some (.iface t d, h')
    | none => none
  | n + 1, h, .agg vs => match frzL n h vs with
    | some (ds, h') => some (.agg ds, h')
    | none => none
  | n + 1, h, .tuple vs => match frzL n h vs with
    | some (ds, h') => some (.tuple ds, h')
    | none => none
  | _ + 1, _, .hole _ => none
def frzL : Nat → H → List V → Option (List D × H)
  | _, h, [] => some ([], h)
  | 0, _, _ :: _ => none
  | n + 1, h, v :: vs => match frz n h v with
    | some (d, h') => match frzL n h' vs with
      | some (ds, h'') => some (d :: ds, h'')
      | none => none
    | none => none
def frzO : Nat → H → Nat → Option (List D × H)
  | 0, _, _ => none
  | n + 1, h, o => match h.get o with
    | .frozen ds => some (ds, h)
    | .cells cs => match frzL n (h.set o .dead) cs with
      | some (ds, h') => some (ds, h'.set o (.frozen ds))
      | none => none
    | _ => none
end

/-- a list of values, all data already, is handed on as it stands; else what it leads to is frozen -/
def frzAll (h : H) (vs : List V) : Option (List D × H) := match allD vs with
  | some ds => some (ds, h)
  | none => frzL 100000 h vs

def lt? (a b : Int) : Bool := decide (a < b)
def le? (a b : Int) : Bool := decide (a ≤ b)

def binI (op : BinOp) (k : IntKind) (a b : Int) : Option D :=
  match op with
  | .add => some (.int k (k.wrap (a + b)))
  | .sub => some (.int k (k.wrap (a - b)))
  | .mul => some (.int k (k.wrap (a * b)))
  | .quo => if b == 0 then none else some (.int k (k.wrap (a.tdiv b)))
  | .rem => if b == 0 then none else some (.int k (a.tmod b))
  | .and => some (.int k (k.wrap (BitVec.ofInt k.bits a &&& BitVec.ofInt k.bits b).toNat))
  | .or => some (.int k (k.wrap (BitVec.ofInt k.bits a ||| BitVec.ofInt k.bits b).toNat))
  | .xor => some (.int k (k.wrap (BitVec.ofInt k.bits a ^^^ BitVec.ofInt k.bits b).toNat))
  | .eql => some (.bool (a == b))
  | .neq => some (.bool (a != b))
  | .lss => some (.bool (a < b))
  | .leq => some (.bool (a ≤ b))
  | .gtr => some (.bool (a > b))
  | .geq => some (.bool (a ≥ b))
  | _ => none
def binS (op : BinOp) (a b : ByteArray) : Option D :=
  match op with
  | .add => if Nat.ble (a.size + b.size) 9223372036854775807 then some (.str (a ++ b)) else none
  | .eql => some (.bool (a.toList == b.toList))
  | .neq => some (.bool (!(a.toList == b.toList)))
  | .lss => some (.bool (Op.bytesLess a.toList b.toList))
  | .leq => some (.bool (Op.bytesLess a.toList b.toList || a.toList == b.toList))
  | .gtr => some (.bool (!(Op.bytesLess a.toList b.toList || a.toList == b.toList)))
  | .geq => some (.bool (!Op.bytesLess a.toList b.toList))
  | _ => none
def binD (op : BinOp) (x y : V) : Option D :=
  match x, y with
  | .d (.int k a), .d (.int k' b) =>
    match op with
    | .shl => if b < 0 then none else some (.int k (k.wrap (a * 2 ^ (min b.toNat k.bits))))
    | .shr => if b < 0 then none else some (.int k (a.fdiv (2 ^ (min b.toNat k.bits))))
    | _ => if k = k' then binI op k a b else none
  | .d (.str a), .d (.str b) => binS op a b
  | _, _ => none

def isNil : V → Option Bool
  | .d .nilptr | .d .nilslice | .d .nilmap | .d .nilfunc | .d .niliface => some true
  | .d (.ref ..) | .d (.vec ..) | .d (.func ..) | .d (.iface ..) | .d (.mapd ..) => some false
  | .ptr .. | .arr .. | .mapr .. | .func .. | .iface .. => some false
  | _ => none
def isNilK : Nat → V → Option Bool
  | 0, .d .nilptr => some true
  | 0, .d (.ref ..) | 0, .ptr .. => some false
  | 1, .d .nilslice => some true
  | 1, .d (.vec ..) | 1, .arr .. => some false
  | 2, .d .nilmap => some true
  | 2, .d (.mapd ..) | 2, .mapr .. => some false
  | 3, .d .nilfunc => some true
  | 3, .d (.func ..) | 3, .func .. => some false
  | 4, .d .niliface => some true
  | 4, .d (.iface ..) | 4, .iface .. => some false
  | _, _ => none
/-- two lists of pointers: equal? (nothing is said where two pointers that are not nil meet) -/
def eqPs : List V → List V → Option Bool
  | [], [] => some true
  | x :: xs, y :: ys => match isNilK 0 x, isNilK 0 y with
    | some true, some true => eqPs xs ys
    | some true, some false | some false, some true => some false
    | _, _ => none
  | _, _ => none

/-- the n pointers of a struct; n = 0: the pointer itself -/
def ptrsOf (n : Nat) (v : V) : Option (List V) := if n = 0 then some [v] else match aggOf v with
  | some vs => if vs.length = n then some vs else none
  | none => none

def keyEq : D → D → Option Bool
  | .int k a, .int k' b => if k = k' then some (a == b) else none
  | .str a, .str b => some (a == b)
  | .bool a, .bool b => some (a == b)
  | _, _ => none
def idx (k : D) : List D → Nat → Option (Option Nat)
  | [], _ => some none
  | x :: xs, i => match keyEq k x with
    | some true => some (some i)
    | some false => idx k xs (i + 1)
    | none => none
def keyOk : Nat → D → Bool
  | 0, .int .. | 1, .str _ | 2, .bool _ => true
  | _, _ => false

def asN : V → Option Nat
  | .d (.int _ n) => if n < 0 then none else some n.toNat
  | _ => none
def asNs (ρ : Nat → Option V) : Option Opnd → Option (Option Nat)
  | none => some none
  | some x => match opv ρ x with
    | some v => (asN v).map some
    | none => none

def loadV (n : Nat) (agg : Bool) (h : H) : V → Option V
  | .d (.ref cs off) =>
    if Nat.ble (off + n) cs.length then
      if agg then some (.d (.agg ((cs.drop off).take n))) else (cs[off]?).map .d
    else none
  | .ptr o off => match h.get o with
    | .cells cs =>
      if Nat.ble (off + n) cs.length then
        if agg then some (mkAgg ((cs.drop off).take n)) else cs[off]?
      else none
    | .frozen cs =>
      if Nat.ble (off + n) cs.length then
        if agg then some (.d (.agg ((cs.drop off).take n))) else (cs[off]?).map .d
      else none
    | _ => none
  | _ => none
/-- the value of one cell -/
def flatV : V → Bool
  | .d (.agg _) | .d (.tuple _) | .d .undef | .agg _ | .tuple _ | .hole _ => false
  | _ => true
def flats (l : List V) : Bool := l.all flatV
def putAt (cs xs : List V) (off : Nat) : List V := cs.take off ++ xs ++ cs.drop (off + xs.length)
def storeV (n : Nat) (h : H) (a x : V) : Option H :=
  match a with
  | .ptr o off => match h.get o with
    | .cells cs =>
      let xs := cellsOf x
      if xs.length = n ∧ off + n ≤ cs.length ∧ flats xs = true then some (h.set o (.cells (putAt cs xs off))) else none
    | _ => none
  | _ => none

/-- fill parts into cells: each at its place -/
def fillV : List V → List (Nat × V) → Nat → Option (List V)
  | cs, [], _ => some cs
  | cs, (off, x) :: rest, z =>
    let xs := cellsOf x
    if off + xs.length ≤ cs.length then fillV (putAt cs xs off) rest z else none
def partsV (ρ : Nat → Option V) : List (Nat × Nat × Opnd) → Option (List (Nat × V))
  | [] => some []
  | (off, n, x) :: l => match opv ρ x, partsV ρ l with
    | some v, some vs => if (cellsOf v).length = n then some ((off, v) :: vs) else none
    | _, _ => none
def partsS (ρ : Nat → Option V) (z : Nat) : List (Nat × Opnd) → Option (List (Nat × V))
  | [] => some []
  | (i, x) :: l => match opv ρ x, partsS ρ z l with
    | some v, some vs => if (cellsOf v).length = z then some ((i * z, v) :: vs) else none
    | _, _ => none
def rep (zero : List D) : Nat → List V
  | 0 => []
  | n + 1 => zero.map .d ++ rep zero n

def capCut (l : Nat) : Option Nat → Option Nat → Option Nat
  | some m, _ => some (m - l)
  | none, some k => some (k - l)
  | none, none => none
def sliceV (x : V) (z : Nat) (lo hi mx : Option Nat) : Option V :=
  let l := lo.getD 0
  match x with
  | .d .nilslice => if l = 0 ∧ hi.getD 0 = 0 ∧ mx.getD 0 = 0 ∧ (mx.isSome → hi.isSome) then some (.d .nilslice) else none
  | .d (.vec cs n ex) =>
    let h := hi.getD n
    let m := mx.getD n
    if l ≤ h ∧ h ≤ m ∧ m ≤ n ∧ n * z = cs.length ∧ (mx.isSome → hi.isSome) then
      some (.d (.vec ((cs.drop (l * z)).take ((h - l) * z)) (h - l) (if mx.isSome then m == h else ex && h == n)))
    else none
  | .arr o off n z' cap =>
    let h := hi.getD n
    let top := cap.getD n
    let m := mx.getD top
    if l ≤ h ∧ h ≤ m ∧ m ≤ top ∧ z = z' ∧ (mx.isSome → hi.isSome) then
      some (.arr o (off + l * z) (h - l) z (capCut l mx cap))
    else none
  | _ => none

/-- the elements of a slice: how many, and their cells -/
def elems (h : H) (z : Nat) : V → Option (Nat × List V)
  | .d .nilslice => some (0, [])
  | .d (.vec cs n _) => if cs.length = n * z then some (n, cs.map .d) else none
  | .arr o off n z' _ => if z = z' then match h.get o with
      | .cells cs => if off + n * z ≤ cs.length then some (n, (cs.drop off).take (n * z)) else none
      | .frozen cs => if off + n * z ≤ cs.length then some (n, ((cs.drop off).take (n * z)).map .d) else none
      | _ => none
    else none
  | _ => none

def appendE (z bytes : Nat) (h : H) (s : V) (m : Nat) (xs : List V) : Option (V × H) :=
    match s with
    | .d .nilslice => if m = 0 then some (s, h) else if m * bytes ≤ 140737488355328 ∧ m < 9223372036854775807 then some (.arr h.next 0 m z none, h.new (.cells xs)) else none
    | .d (.vec cs n ex) =>
      if m = 0 then some (s, h)
      else if ex = true ∧ cs.length = n * z ∧ (n + m) * bytes ≤ 140737488355328 ∧ n + m < 9223372036854775807 then some (.arr h.next 0 (n + m) z none, h.new (.cells (cs.map .d ++ xs)))
      else none
    | .arr o off n z' cap =>
      if z = z' then
      match h.get o with
      | .cells cs =>
        if m = 0 then some (s, h)
        else if (n + m) * bytes ≤ 140737488355328 ∧ n + m < 9223372036854775807 ∧ off + n * z ≤ cs.length ∧ flats xs = true then
          match cap with
          | some k =>
            if n + m ≤ k then
              if off + (n + m) * z ≤ cs.length then some (.arr o off (n + m) z cap, h.set o (.cells (putAt cs xs (off + n * z)))) else none
            else some (.arr h.next 0 (n + m) z none, h.new (.cells ((cs.drop off).take (n * z) ++ xs)))
          | none =>
            if off + (n + m) * z ≤ cs.length then some (.arr o off (n + m) z none, h.set o (.cells (putAt cs xs (off + n * z))))
            else if off + n * z = cs.length then some (.arr h.next 0 (n + m) z none, (h.set o .dead).new (.cells (cs.drop off ++ xs))) else none
        else none
      | .frozen cs =>
        if m = 0 then some (s, h)
        else match cap with
          | some k => if n + m > k ∧ (n + m) * bytes ≤ 140737488355328 ∧ n + m < 9223372036854775807 ∧ off + n * z ≤ cs.length then
              some (.arr h.next 0 (n + m) z none, h.new (.cells (((cs.drop off).take (n * z)).map .d ++ xs))) else none
          | none => none
      | _ => none
      else none
    | _ => none

def appendV (z bytes : Nat) (h : H) (s x : V) : Option (V × H) :=
  match elems h z x with
  | none => none
  | some (m, xs) => appendE z bytes h s m xs

def maxI (pick : Int → Int → Bool) : List V → Option V
  | .d (.int k a) :: l => l.foldl (fun acc y => match acc, y with
      | some (.d (.int k a)), .d (.int k' b) => if k = k' then some (.d (.int k (if pick b a then b else a))) else none
      | _, _ => none) (some (.d (.int k a)))
  | _ => none

def lenV (kk : Nat) (h : H) (v : V) : Option Nat := match kk, v with
  | 0, .d (.str s) => some s.size
  | 1, .d .nilslice => some 0
  | 1, .d (.vec _ n _) => some n
  | 1, .arr _ _ n _ _ => some n
  | 2, .d .nilmap => some 0
  | 2, .d (.mapd ks _) => some ks.length
  | 2, .mapr o => match h.get o with
    | .map ks _ => some ks.length
    | .fmap ks _ => some ks.length
    | _ => none
  | _, _ => none

def giveV (zero : D) (ok : Bool) (k : D) (ks : List D) (vs : List V) : Option V := match idx k ks 0 with
  | some (some i) => match vs[i]? with
    | some v => some (if ok then mkTuple [v, .d (.bool true)] else v)
    | none => none
  | some none => some (if ok then .d (.tuple [zero, .bool false]) else .d zero)
  | none => none
def lookupV (kk : Nat) (h : H) (zero : D) (m : V) (k : D) (ok : Bool) : Option V :=
  match keyOk kk k, m with
  | true, .d .nilmap => giveV zero ok k [] []
  | true, .d (.mapd ks vs) => giveV zero ok k ks (vs.map .d)
  | true, .mapr o => match h.get o with
    | .map ks vs => giveV zero ok k ks vs
    | .fmap ks vs => giveV zero ok k ks (vs.map .d)
    | _ => none
  | _, _ => none

def tassertV (x : V) (t : Nat) (ok : Bool) (zero : D) : Option V :=
  match x with
  | .d (.iface t' d) => if t' = t then some (.d (if ok then .tuple [d, .bool true] else d)) else if ok then some (.d (.tuple [zero, .bool false])) else none
  | .iface t' v => if t' = t then some (if ok then mkTuple [v, .d (.bool true)] else v) else if ok then some (.d (.tuple [zero, .bool false])) else none
  | .d .niliface => if ok then some (.d (.tuple [zero, .bool false])) else none
  | _ => none

def copyV (z : Nat) (h : H) (d s : V) : Option (Nat × H) :=
  match elems h z s with
  | none => none
  | some (m, xs) => match d with
    | .d .nilslice => some (0, h)
    | .arr o off n z' _ => if z = z' then match h.get o with
        | .cells cs => if off + n * z ≤ cs.length ∧ flats xs = true then some (min m n, h.set o (.cells (putAt cs (xs.take (min m n * z)) off))) else none
        | _ => none
      else none
    | _ => none

/-- what a class of an operation is: what it may touch of the objects -/
inductive Cls where
  | r (rd wr : List Nat) (al : Bool)      -- it reads these objects, writes these, and makes new ones
  | g (ws : Option (List Nat))            -- whatever; it writes these at most
  deriving DecidableEq, Inhabited
abbrev Cls.p : Cls := .r [] [] false
abbrev Cls.l (o : Nat) : Cls := .r [o] [] false
abbrev Cls.s (o : Nat) : Cls := .r [o] [o] false
abbrev Cls.a : Cls := .r [] [] true
def ids : V → List Nat
  | .arr o .. => [o]
  | _ => []

structure Calls where
  pure : Nat → List D → Option D
  full : Nat → List V → H → Option (V × H × Option (List Nat))

/-- an operation's value, the objects behind it, a slot that it fills besides, and its class -/
structure Did where
  val : V
  heap : H
  slot : Option (Nat × V)
  cls : Cls

def did (h : H) (c : Cls) : Option V → Option Did
  | some v => some ⟨v, h, none, c⟩
  | none => none

def callD (C : Calls) (h : H) (f : Nat) (vs : List V) : Option Did :=
  match allD vs with
  | some ds => match C.pure f ds with
    | some d => some ⟨.d d, h, none, .p⟩
    | none => none
  | none => match frzL 100000 h vs with
    | some (ds, h') => match C.pure f ds with
      | some d => some ⟨.d d, h', none, .g none⟩
      | none => none
    | none => none
def callF (C : Calls) (h : H) (f : Nat) (vs : List V) : Option Did :=
  match C.full f vs h with
  | some (v, h', ws) => some ⟨v, h', none, .g ws⟩
  | none => none
mutual
/-- what a callee that ran apart hands back is taken over: its slices become objects here -/
def imp : Nat → List Nat → H → H → V → Option (V × H × List Nat)
  | 0, _, _, _, _ => none
  | _ + 1, seen, _, h, .d x => some (.d x, h, seen)
  | _ + 1, seen, hc, h, .arr o off n z cap =>
    if seen.elem o then none else match hc.get o with
    | .cells cs => match allD cs with
      | some _ => some (.arr h.next off n z cap, h.new (.cells cs), o :: seen)
      | none => none
    | _ => none
  | k + 1, seen, hc, h, .agg vs => match impL k seen hc h vs with
    | some (vs', h', seen') => some (mkAgg vs', h', seen')
    | none => none
  | k + 1, seen, hc, h, .tuple vs => match impL k seen hc h vs with
    | some (vs', h', seen') => some (mkTuple vs', h', seen')
    | none => none
  | _ + 1, _, _, _, _ => none
def impL : Nat → List Nat → H → H → List V → Option (List V × H × List Nat)
  | _, seen, _, h, [] => some ([], h, seen)
  | 0, _, _, _, _ :: _ => none
  | k + 1, seen, hc, h, v :: vs => match imp k seen hc h v with
    | some (v', h', seen') => match impL k seen' hc h' vs with
      | some (vs', h'', seen'') => some (v' :: vs', h'', seen'')
      | none => none
    | none => none
end
/-- data to a call that runs apart, its results taken over; else the callee shares the objects -/
def callO (C : Calls) (h : H) (f : Nat) (vs : List V) : Option Did :=
  match allD vs with
  | some _ => match C.full f vs H.empty with
    | some (v, hc, _) => match imp 1000 [] hc h v with
      | some (v', h', _) => some ⟨v', h', none, .a⟩
      | none => none
    | none => none
  | none => callF C h f vs
/-- data to a pure call; else the callee shares the objects -/
def callX (C : Calls) (h : H) (f : Nat) (vs : List V) : Option Did :=
  match allD vs with
  | some ds => match C.pure f ds with
    | some d => some ⟨.d d, h, none, .p⟩
    | none => none
  | none => callF C h f vs
def funcOf (g : V) (vs : List V) : Option (Nat × List V) :=
  match g with
  | .d (.func f xs ys) => some (f, xs.map .d ++ vs ++ ys.map .d)
  | .func f xs ys => some (f, xs ++ vs ++ ys)
  | _ => none

/-- the entries that an iterator has not handed out yet -/
def leftI (seen : List Nat) (n : Nat) : List Nat := (List.range n).filter fun j => !seen.elem j

def opSem (C : Calls) (ρ : Nat → Option V) (h : H) : AOp → Option Did
  | .mv x => did h .p (opv ρ x)
  | .pick c a b => match opv ρ c with
    | some (.d (.bool t)) => did h .p (if t then opv ρ a else opv ρ b)
    | _ => none
  | .alloc zero => some ⟨.ptr h.next 0, h.new (.cells (zero.map .d)), none, .a⟩
  | .box x => match opv ρ x with
    | some v => some ⟨.ptr h.next 0, h.new (.cells (cellsOf v)), none, .a⟩
    | none => none
  | .boxF x => match opv ρ x with
    | some (.d d) => some ⟨.d (.ref (dcells d) 0), h, none, .p⟩
    | some v => some ⟨.ptr h.next 0, h.new (.cells (cellsOf v)), none, .a⟩
    | none => none
  | .build zero parts => match partsV ρ parts with
    | some ps => did h .p ((fillV (zero.map .d) ps 0).map mkAgg)
    | none => none
  | .load n agg a => match opv ρ a with
    | some (.ptr o off) => did h (.l o) (loadV n agg h (.ptr o off))
    | some v => did h .p (loadV n agg h v)
    | none => none
  | .store n a x => match opv ρ a, opv ρ x with
    | some (.ptr o off), some v => match storeV n h (.ptr o off) v with
      | some h' => some ⟨.d .undef, h', none, .s o⟩
      | none => none
    | _, _ => none
  | .hole zero => some ⟨.hole zero.length, h, none, .p⟩
  | .storeF n a x => match ρ a, opv ρ x with
    | some (.hole m), some (.d d) => if m = n ∧ (dcells d).length = n ∧ flats ((dcells d).map .d) = true then some ⟨.d .undef, h, some (a, .d (.ref (dcells d) 0)), .p⟩ else none
    | some (.hole m), some v => if m = n ∧ (cellsOf v).length = n ∧ flats (cellsOf v) = true then some ⟨.d .undef, h.new (.cells (cellsOf v)), some (a, .ptr h.next 0), .a⟩ else none
    | _, _ => none
  | .nilck x => match opv ρ x with
    | some v => match isNil v with
      | some false => some ⟨v, h, none, .p⟩
      | _ => none
    | none => none
  | .bin op x y => match opv ρ x, opv ρ y with
    | some v, some u => did h .p ((binD op v u).map .d)
    | _, _ => none
  | .eqB neq x y => match opv ρ x, opv ρ y with
    | some (.d (.bool b)), some (.d (.bool c)) => some ⟨.d (.bool (if neq then !(b == c) else b == c)), h, none, .p⟩
    | _, _ => none
  | .eqNil kk neq x => match opv ρ x with
    | some v => did h .p ((isNilK kk v).map fun b => .d (.bool (if neq then !b else b)))
    | none => none
  | .eqPtrs n neq x y => match opv ρ x, opv ρ y with
    | some v, some u => match ptrsOf n v, ptrsOf n u with
      | some vs, some us => did h .p ((eqPs vs us).map fun b => .d (.bool (if neq then !b else b)))
      | _, _ => none
    | _, _ => none
  | .un op x => match op, opv ρ x with
    | .not, some (.d (.bool b)) => some ⟨.d (.bool (!b)), h, none, .p⟩
    | .neg, some (.d (.int k n)) => some ⟨.d (.int k (k.wrap (0 - n))), h, none, .p⟩
    | _, _ => none
  | .conv k x => match opv ρ x with
    | some (.d (.int _ n)) => some ⟨.d (.int k (k.wrap n)), h, none, .p⟩
    | _ => none
  | .convStr x => match opv ρ x with
    | some (.d (.str s)) => some ⟨.d (.str s), h, none, .p⟩
    | _ => none
  | .mkI t x => did h .p ((opv ρ x).map (mkIface t))
  | .mkF f xs ys => match opvs ρ xs, opvs ρ ys with
    | some as, some bs => some ⟨mkFunc f as bs, h, none, .p⟩
    | _, _ => none
  | .mkMap => some ⟨.mapr h.next, h.new (.map [] []), none, .a⟩
  | .mkSl z bytes zero l c => match opv ρ l, opv ρ c with
    | some (.d (.int .i64 l)), some (.d (.int .i64 c)) =>
      if 0 ≤ l ∧ l ≤ c ∧ bytes * c ≤ 140737488355328 ∧ c ≤ 9223372036854775807 ∧ zero.length = z then some ⟨.arr h.next 0 l.toNat z (some c.toNat), h.new (.cells (rep zero c.toNat)), none, .a⟩ else none
    | _, _ => none
  | .buildS z zero n parts own => match partsS ρ z parts with
    | some ps => match fillV (rep zero n) ps 0 with
      | some cs => match own, allD cs with
        | false, some ds => some ⟨.d (.vec ds n true), h, none, .p⟩
        | _, _ => some ⟨.arr h.next 0 n z (some n), h.new (.cells cs), none, .a⟩
      | none => none
    | none => none
  | .slice z x lo hi mx => match opv ρ x, asNs ρ lo, asNs ρ hi, asNs ρ mx with
    | some v, some lo, some hi, some mx => did h .p (sliceV v z lo hi mx)
    | _, _, _, _ => none
  | .sliceStr x lo hi => match opv ρ x, asNs ρ lo, asNs ρ hi with
    | some (.d (.str s)), some lo, some hi =>
      if lo.getD 0 ≤ hi.getD s.size ∧ hi.getD s.size ≤ s.size then some ⟨.d (.str (s.extract (lo.getD 0) (hi.getD s.size))), h, none, .p⟩ else none
    | _, _, _ => none
  | .fld n agg off x => match opv ρ x with
    | some v => match aggOf v with
      | some cs => if off + n ≤ cs.length then did h .p (if agg then some (mkAgg ((cs.drop off).take n)) else cs[off]?) else none
      | none => none
    | none => none
  | .fAddr off x => match opv ρ x with
    | some (.ptr o p) => some ⟨.ptr o (p + off), h, none, .p⟩
    | some (.d (.ref cs p)) => some ⟨.d (.ref cs (p + off)), h, none, .p⟩
    | _ => none
  | .iAddr z x i => match opv ρ x, opv ρ i with
    | some (.d (.vec cs n _)), some (.d (.int _ i)) => if 0 ≤ i ∧ i < n then some ⟨.d (.ref cs (i.toNat * z)), h, none, .p⟩ else none
    | some (.arr o off n z' _), some (.d (.int _ i)) => if 0 ≤ i ∧ i < n ∧ z = z' then some ⟨.ptr o (off + i.toNat * z), h, none, .p⟩ else none
    | _, _ => none
  | .iAddrA z len x i => match opv ρ x, opv ρ i with
    | some (.d (.ref cs p)), some (.d (.int _ i)) => if 0 ≤ i ∧ i < len then some ⟨.d (.ref cs (p + i.toNat * z)), h, none, .p⟩ else none
    | some (.ptr o p), some (.d (.int _ i)) => if 0 ≤ i ∧ i < len then some ⟨.ptr o (p + i.toNat * z), h, none, .p⟩ else none
    | _, _ => none
  | .idxS x i => match opv ρ x, opv ρ i with
    | some (.d (.str s)), some (.d (.int _ i)) => if 0 ≤ i then (match s[i.toNat]? with
      | some b => some ⟨.d (.int .u8 b.toNat), h, none, .p⟩
      | none => none) else none
    | _, _ => none
  | .lookup kk zero m k ok => match opv ρ m, opv ρ k with
    | some (.mapr o), some (.d k) => did h (.l o) (lookupV kk h zero (.mapr o) k ok)
    | some v, some (.d k) => did h .p (lookupV kk h zero v k ok)
    | _, _ => none
  | .mapUp kk m k x => match opv ρ m, opv ρ k, opv ρ x with
    | some (.mapr o), some (.d k), some v => match h.get o with
      | .map ks vs => if keyOk kk k then match idx k ks 0 with
          | some (some i) => some ⟨.d .undef, h.set o (.map (ks.set i k) (vs.set i v)), none, .s o⟩
          | some none => some ⟨.d .undef, h.set o (.map (ks ++ [k]) (vs ++ [v])), none, .s o⟩
          | none => none
        else none
      | _ => none
    | _, _, _ => none
  | .mapEnt kk zero m k => match opv ρ m, opv ρ k with
    | some (.mapr o), some (.d k) => match h.get o with
      | .map ks vs => if keyOk kk k then match idx k ks 0 with
          | some (some i) => match vs[i]? with
            | some v => some ⟨mkTuple [v, .d (.int .i64 i)], h.set o (.map (ks.set i k) vs), none, .s o⟩
            | none => none
          | some none => some ⟨.d (.tuple [zero, .int .i64 ks.length]), h.set o (.map (ks ++ [k]) (vs ++ [.d zero])), none, .s o⟩
          | none => none
        else none
      | _ => none
    | _, _ => none
  | .entSt m s x => match opv ρ m, opv ρ s, opv ρ x with
    | some (.mapr o), some (.d (.int _ i)), some v => match h.get o with
      | .map ks vs => if 0 ≤ i ∧ i < vs.length then some ⟨.d .undef, h.set o (.map ks (vs.set i.toNat v)), none, .s o⟩ else none
      | _ => none
    | _, _, _ => none
  | .tassert x t ok zero => match opv ρ x with
    | some v => did h .p (tassertV v t ok zero)
    | none => none
  | .ext x i => match opv ρ x with
    | some (.d (.tuple ds)) => did h .p ((ds[i]?).map .d)
    | some (.tuple vs) => did h .p (vs[i]?)
    | _ => none
  | .call f args => match opvs ρ args with
    | some vs => callD C h f vs
    | none => none
  | .callS f args => match opvs ρ args with
    | some vs => callO C h f vs
    | none => none
  | .callX f args => match opvs ρ args with
    | some vs => callX C h f vs
    | none => none
  | .callV g args => match opv ρ g, opvs ρ args with
    | some g, some vs => match funcOf g vs with
      | some (f, vs) => callX C h f vs
      | none => none
    | _, _ => none
  | .len kk x => match opv ρ x with
    | some (.mapr o) => did h (.l o) ((lenV kk h (.mapr o)).map fun (n : Nat) => V.d (.int .i64 (n : Int)))
    | some v => did h .p ((lenV kk h v).map fun (n : Nat) => V.d (.int .i64 (n : Int)))
    | none => none
  | .append z bytes s x => match opv ρ s, opv ρ x with
    | some s, some x => match appendV z bytes h s x with
      | some (v, h') => some ⟨v, h', none, .r (ids s ++ ids x) (ids s) true⟩
      | none => none
    | _, _ => none
  | .appendZ z bytes zero s x => match opv ρ s, opv ρ x with
    | some s, some (.d (.int .i64 m)) => if 0 ≤ m ∧ m * bytes ≤ 140737488355328 ∧ m < 9223372036854775807 ∧ zero.length = z then match appendE z bytes h s m.toNat (rep zero m.toNat) with
      | some (v, h') => some ⟨v, h', none, .r (ids s) (ids s) true⟩
      | none => none
      else none
    | _, _ => none
  | .clear z zero x => match opv ρ x with
    | some (.d .nilslice) => some ⟨.d .undef, h, none, .p⟩
    | some (.arr o off n z' _) => if z = z' ∧ zero.length = z then match h.get o with
      | .cells cs => if off + n * z ≤ cs.length ∧ flats (rep zero n) = true then some ⟨.d .undef, h.set o (.cells (putAt cs (rep zero n) off)), none, .s o⟩ else none
      | _ => none
      else none
    | _ => none
  | .cap x => match opv ρ x with
    | some (.d .nilslice) => some ⟨.d (.int .i64 0), h, none, .p⟩
    | some (.d (.vec _ n true)) => some ⟨.d (.int .i64 n), h, none, .p⟩
    | some (.arr _ _ _ _ (some k)) => some ⟨.d (.int .i64 k), h, none, .p⟩
    | _ => none
  | .copy z d s => match opv ρ d, opv ρ s with
    | some d, some s => match copyV z h d s with
      | some (n, h') => some ⟨.d (.int .i64 n), h', none, .r (ids d ++ ids s) (ids d) false⟩
      | none => none
    | _, _ => none
  | .max xs => match opvs ρ xs with
    | some vs => did h .p (maxI (fun b a => decide (b > a)) vs)
    | none => none
  | .min xs => match opvs ρ xs with
    | some vs => did h .p (maxI (fun b a => decide (b < a)) vs)
    | none => none
  | .range x => match opv ρ x with
    | some (.d (.mapd ks vs)) => some ⟨.ptr h.next 0, h.new (.iter ks vs []), none, .a⟩
    | _ => none
  | .next x => match opv ρ x with
    | some (.ptr o 0) => match h.get o with
      | .iter ks vs seen => match leftI seen ks.length with
        | [] => some ⟨.d (.tuple [.bool false]), h, none, .l o⟩
        | [j] => match ks[j]?, vs[j]? with
          | some a, some b => some ⟨.d (.tuple [.bool true, a, b]), h.set o (.iter ks vs (seen ++ [j])), none, .s o⟩
          | _, _ => none
        | _ => none
      | _ => none
    | _ => none
  | .entry x => match opv ρ x with
    | some (.ptr o 0) => match h.get o with
      | .iter ks vs seen => match seen.getLast? with
        | some j => match ks[j]?, vs[j]? with
          | some a, some b => some ⟨.d (.tuple [a, b]), h, none, .l o⟩
          | _, _ => none
        | none => none
      | _ => none
    | _ => none
  | .unk => none

def put (dst : Option Nat) (v : V) (env : List (Nat × V)) : List (Nat × V) := match dst with
  | some d => (d, v) :: env
  | none => env
def addLog (c : Cls) (l : Option (List Nat)) : Option (List Nat) := match l with
  | none => none
  | some l => match c with
    | .r _ [] _ => some l
    | .r _ wr _ => some (wr ++ l)
    | .g (some ws) => some (ws ++ l)
    | .g none => none
/-- one operation, with its guard: the environment and the objects behind it, and its class -/
def step (C : Calls) (o : AOper) (s : St) : Option (St × Cls) :=
  let go : Option (St × Cls) := match opSem C (lk s.env) s.heap o.op with
    | some ⟨v, h, none, c⟩ => some (⟨put o.dst v s.env, h, addLog c s.log⟩, c)
    | some ⟨v, h, some (a, u), c⟩ => some (⟨put o.dst v ((a, u) :: s.env), h, addLog c s.log⟩, c)
    | none => none
  match o.guard with
  | none => go
  | some (t, want) => match lk s.env t with
    | some (.d (.bool b)) => if b == want then go else some (⟨put o.dst (.d .undef) s.env, s.heap, s.log⟩, .p)
    | some (.d .undef) => some (⟨put o.dst (.d .undef) s.env, s.heap, s.log⟩, .p)
    | _ => none
def runOps (C : Calls) : List AOper → St → Option St
  | [], s => some s
  | o :: l, s => match step C o s with
    | some (s', _) => runOps C l s'
    | none => none

def meet (l m : List Nat) : Bool := l.any fun i => m.elem i
/-- the next new object gets this number -/
def H.at (h : H) (b : Nat) : H := ⟨b, h.top, h.objs⟩
/-- new objects get numbers from the top on again -/
def H.rs (h : H) : H := ⟨h.top, h.top, h.objs⟩
/-- n numbers are set aside -/
def H.aside (h : H) (n : Nat) : H := ⟨h.top + n, h.top + n, h.objs⟩
/-- the class of an operation in a draw, where its new object has the number b -/
def dcls (b t t' : Nat) : Cls → Cls
  | .r rd wr al => if Nat.beq t t' then .r rd (if al then b :: wr else wr) false else .g none
  | .g (some ws) => .g (some (b :: ws))
  | .g none => .g none
/-- may an operation of the second class, that was done behind one of the first, be done before it? n: where numbers ended before both -/
def compat : Cls → Nat → Cls → Bool
  | .r rd wr _, _, .r rd' wr' _ => !(meet wr rd' || meet wr wr' || meet wr' rd)
  | .r rd [] _, _, .g (some ws) => !(meet rd ws)
  | .g (some ws), n, .r rd [] _ => rd.all fun o => Nat.blt o n && !ws.elem o
  | _, _, _ => false
/-- what it reads is there -/
def low (n : Nat) : Cls → Bool
  | .r rd _ _ => rd.all fun o => Nat.blt o n
  | .g _ => true
/-- is an operation with this class and these forerunners in order with those done before? -/
def fits (c : Cls) (bef : List Nat) : List (Nat × Cls × Nat) → Bool
  | [] => true
  | (i, c', n) :: l => (compat c' n c || bef.elem i) && fits c bef l
def runDraw (C : Calls) (base : Nat) : List (AOper × List Nat) → Nat → List (Nat × Cls × Nat) → St → Option St
  | [], _, _, s => some s
  | (o, bef) :: l, i, seen, s => match step C o ⟨s.env, s.heap.at (base + i), s.log⟩ with
    | some (s', c0) => match dcls (base + i) s.heap.top s'.heap.top c0 with
      | .r [] [] false => runDraw C base l (i + 1) seen ⟨s'.env, s'.heap.rs, s'.log⟩
      | c => if fits c bef seen && low s.heap.top c then runDraw C base l (i + 1) ((i, c, s.heap.top) :: seen) ⟨s'.env, s'.heap.rs, s'.log⟩ else none
    | none => none

def keep (live : List Nat) (env : List (Nat × V)) : List (Nat × V) :=
  live.filterMap fun t => (lk env t).map fun v => (t, v)
def iter : Nat → (St → Option (Ex × St)) → List Nat → St → Option (Ex × St)
  | 0, _, _, _ => none
  | n + 1, body, live, s => match body ⟨keep live s.env, s.heap, s.log⟩ with
    | some (.norm, s') => iter n body live s'
    | r => r

def run (C : Calls) (lf : Nat) : AC → St → Option (Ex × St)
  | .skip, s => some (.norm, s)
  | .region ops, s => match runOps C ops s with
    | some s' => some (.norm, s')
    | none => none
  | .draw ops, s => match runDraw C s.heap.top ops 0 [] ⟨s.env, s.heap.aside ops.length, s.log⟩ with
    | some s' => some (.norm, s')
    | none => none
  | .seq a b, s => match run C lf a s with
    | some (.norm, s') => run C lf b s'
    | r => r
  | .cond c a b, s => match opv (lk s.env) c with
    | some (.d (.bool t)) => if t then run C lf a s else run C lf b s
    | _ => none
  | .block id c, s => match run C lf c s with
    | some (.exit i, s') => if Nat.beq i id then some (.norm, s') else some (.exit i, s')
    | r => r
  | .loop live c, s => iter lf (run C lf c) live s
  | .exit id, s => some (.exit id, s)
  | .ret, s => some (.ret, s)
  | .unk, _ => none

def resV (s : St) : List ARes → Option (List V)
  | [] => some []
  | .t n :: l => match opv (lk s.env) (.t n), resV s l with
    | some v, some vs => some (v :: vs)
    | _, _ => none
  | .cell a n agg :: l => match lk s.env a, resV s l with
    | some p, some vs => match loadV n agg s.heap p with
      | some v => some (v :: vs)
      | none => none
    | _, _ => none
def result (s : St) (rs : List ARes) : Option V := match resV s rs with
  | some [v] => some v
  | some vs => some (mkTuple vs)
  | none => none

def args0 : Nat → List V → List (Nat × V)
  | _, [] => []
  | i, v :: vs => (i, v) :: args0 (i + 1) vs

inductive Prog where
  | nil
  | node (k : Nat) (f : AFn) (l r : Prog)
  | prim (k : Nat) (p : List D → Option D) (l r : Prog)
  | primF (k : Nat) (p : List V → H → Option (V × H × Option (List Nat))) (l r : Prog)
  deriving Inhabited
inductive Def where
  | fn (f : AFn)
  | prim (p : List D → Option D)
  | primF (p : List V → H → Option (V × H × Option (List Nat)))
def Prog.find : Prog → Nat → Option Def
  | .nil, _ => none
  | .node k f l r, i => if Nat.beq i k then some (.fn f) else if Nat.ble i k then l.find i else r.find i
  | .prim k p l r, i => if Nat.beq i k then some (.prim p) else if Nat.ble i k then l.find i else r.find i
  | .primF k p l r, i => if Nat.beq i k then some (.primF p) else if Nat.ble i k then l.find i else r.find i

def pureOf (full : Nat → List V → H → Option (V × H × Option (List Nat))) (f : Nat) (ds : List D) : Option D :=
  match full f (ds.map .d) H.empty with
  | some (v, h, _) => match frz 100000 h v with
    | some (d, _) => some d
    | none => none
  | none => none
def lowLog (n : Nat) : Option (List Nat) → Option (List Nat)
  | some l => some (l.filter fun o => Nat.blt o n)
  | none => none
def callN (P : Prog) : Nat → Nat → List V → H → Option (V × H × Option (List Nat))
  | 0, _, _, _ => none
  | n + 1, f, vs, h => match P.find f with
    | some (.fn fn) =>
      if vs.length = fn.nparams then
        match run ⟨pureOf (callN P n), callN P n⟩ n fn.body ⟨args0 0 vs, h, some []⟩ with
        | some (.norm, s) | some (.ret, s) => match result s fn.results with
          | some v => some (v, s.heap, lowLog h.top s.log)
          | none => none
        | _ => none
      else none
    | some (.primF p) => p vs h
    | some (.prim p) => match allD vs with
      | some ds => match p ds with
        | some d => some (.d d, h, some [])
        | none => none
      | none => match frzL 100000 h vs with
        | some (ds, h') => match p ds with
          | some d => some (.d d, h', none)
          | none => none
        | none => none
    | none => none
def callP (P : Prog) (n : Nat) : Nat → List D → Option D := pureOf (callN P n)
end Go.Avm

/- The abstract machine on data: what it means that a value reads as a datum. -/
namespace Go.Avm
open Go

/-- What is known of memory for good: cells and maps that nobody writes any more. -/
structure K where
  F : Nat → Nat → Option Value
  M : Nat → Option (Array MapEntry)

def K.le (k k' : K) : Prop := (∀ b o u, k.F b o = some u → k'.F b o = some u) ∧ (∀ b es, k.M b = some es → k'.M b = some es)
theorem K.le_refl (k : K) : k.le k := ⟨fun _ _ _ h => h, fun _ _ h => h⟩
theorem K.le_trans {a b c : K} (h : a.le b) (g : b.le c) : a.le c := ⟨fun _ _ _ q => g.1 _ _ _ (h.1 _ _ _ q), fun _ _ q => g.2 _ _ (h.2 _ _ q)⟩

inductive Rep (k : K) : Value → D → Prop
  | undef : Rep k (.tuple #[]) .undef
  | bool (b : Bool) : Rep k (.bool b) (.bool b)
  | int (i : IntKind) (n : Int) : Rep k (.int i n) (.int i n)
  | str (s : ByteArray) : Rep k (.string s) (.str s)
  | nilptr : Rep k (.pointer none) .nilptr
  | nilslice : Rep k (.slice none 0 0) .nilslice
  | nilmap : Rep k (.map none) .nilmap
  | nilfunc : Rep k .nilFunc .nilfunc
  | niliface : Rep k .nilIface .niliface
  | ref (b base off : Nat) (cells : List D) (us : Nat → Value) (h1 : ∀ j d, cells[j]? = some d → k.F b (base + j) = some (us j)) (h2 : ∀ j d, cells[j]? = some d → Rep k (us j) d) :
      Rep k (.pointer (some ⟨b, base + off, none⟩)) (.ref cells off)
  | vec (b base : Nat) (cells : List D) (n : Nat) (ex : Bool) (c : Nat) (us : Nat → Value) (hn : n ≤ c) (hx : ex = true → c = n)
      (h1 : ∀ j d, cells[j]? = some d → k.F b (base + j) = some (us j)) (h2 : ∀ j d, cells[j]? = some d → Rep k (us j) d) :
      Rep k (.slice (some ⟨b, base, none⟩) n c) (.vec cells n ex)
  | func (f : Nat) (ps qs : Array Value) (xs ys : List D) (us us' : Nat → Value) (s1 : ps.size = xs.length) (s2 : qs.size = ys.length)
      (g1 : ∀ j d, xs[j]? = some d → ps[j]? = some (us j)) (h1 : ∀ j d, xs[j]? = some d → Rep k (us j) d)
      (g2 : ∀ j d, ys[j]? = some d → qs[j]? = some (us' j)) (h2 : ∀ j d, ys[j]? = some d → Rep k (us' j) d) : Rep k (.func (.func f) ps qs) (.func f xs ys)
  | iface (t : Nat) (v : Value) (d : D) (h : Rep k v d) : Rep k (.iface t v) (.iface t d)
  | agg (vs : Array Value) (ds : List D) (us : Nat → Value) (s : vs.size = ds.length) (g : ∀ j d, ds[j]? = some d → vs[j]? = some (us j)) (h : ∀ j d, ds[j]? = some d → Rep k (us j) d) :
      Rep k (.agg vs) (.agg ds)
  | tuple (vs : Array Value) (ds : List D) (us : Nat → Value) (s : vs.size = ds.length) (g : ∀ j d, ds[j]? = some d → vs[j]? = some (us j)) (h : ∀ j d, ds[j]? = some d → Rep k (us j) d) :
      Rep k (.tuple vs) (.tuple ds)
  | mapd (m : Nat) (es : Array MapEntry) (ks vs : List D) (us us' : Nat → Value) (hm : k.M m = some es) (s1 : es.size = ks.length) (s2 : vs.length = ks.length)
      (g1 : ∀ j d, ks[j]? = some d → (es[j]?).map (·.key) = some (us j)) (h1 : ∀ j d, ks[j]? = some d → Rep k (us j) d)
      (g2 : ∀ j d, vs[j]? = some d → (es[j]?).map (·.val) = some (us' j)) (h2 : ∀ j d, vs[j]? = some d → Rep k (us' j) d) : Rep k (.map (some m)) (.mapd ks vs)

theorem Rep.mono {k k' : K} (hk : k.le k') {v : Value} {d : D} (h : Rep k v d) : Rep k' v d := by
  induction h with
  | undef => exact .undef
  | bool b => exact .bool b
  | int i n => exact .int i n
  | str s => exact .str s
  | nilptr => exact .nilptr
  | nilslice => exact .nilslice
  | nilmap => exact .nilmap
  | nilfunc => exact .nilfunc
  | niliface => exact .niliface
  | ref b base off cells us h1 _ ih => exact .ref b base off cells us (fun j d hj => hk.1 _ _ _ (h1 j d hj)) ih
  | vec b base cells n ex c us hn hx h1 _ ih => exact .vec b base cells n ex c us hn hx (fun j d hj => hk.1 _ _ _ (h1 j d hj)) ih
  | func f ps qs xs ys us us' s1 s2 g1 _ g2 _ ih1 ih2 => exact .func f ps qs xs ys us us' s1 s2 g1 ih1 g2 ih2
  | iface t v d _ ih => exact .iface t v d ih
  | agg vs ds us s g _ ih => exact .agg vs ds us s g ih
  | tuple vs ds us s g _ ih => exact .tuple vs ds us s g ih
  | mapd m es ks vs us us' hm s1 s2 g1 _ g2 _ ih1 ih2 => exact .mapd m es ks vs us us' (hk.2 _ _ hm) s1 s2 g1 ih1 g2 ih2

/-- Where an object lies: its block, where it begins there, and how many cells from there on are its own. -/
structure Loc where
  blk : Nat
  base : Nat
  room : Nat
  deriving Inhabited

inductive RepV (k : K) (μ : Nat → Loc) (n : Nat → Prop) : Value → V → Prop
  | d (v : Value) (x : D) (h : Rep k v x) : RepV k μ n v (.d x)
  | ptr (i off : Nat) (hi : n i) : RepV k μ n (.pointer (some ⟨(μ i).blk, (μ i).base + off, none⟩)) (.ptr i off)
  | arr (i off len z : Nat) (cap : Option Nat) (c : Nat) (hi : n i) (hn : len ≤ c) (hc : ∀ q, cap = some q → c = q) (hr : off + c * z ≤ (μ i).room) (hq : cap = none → off + c * z = (μ i).room)
      (p : Nat) (hp : c ≠ 0 → p = (μ i).base + off) : RepV k μ n (.slice (some ⟨(μ i).blk, p, none⟩) len c) (.arr i off len z cap)
  | mapr (i : Nat) (hi : n i) : RepV k μ n (.map (some (μ i).blk)) (.mapr i)
  | func (f : Nat) (ps qs : Array Value) (xs ys : List V) (us us' : Nat → Value) (s1 : ps.size = xs.length) (s2 : qs.size = ys.length)
      (g1 : ∀ j d, xs[j]? = some d → ps[j]? = some (us j)) (h1 : ∀ j d, xs[j]? = some d → RepV k μ n (us j) d)
      (g2 : ∀ j d, ys[j]? = some d → qs[j]? = some (us' j)) (h2 : ∀ j d, ys[j]? = some d → RepV k μ n (us' j) d) : RepV k μ n (.func (.func f) ps qs) (.func f xs ys)
  | iface (t : Nat) (v : Value) (d : V) (h : RepV k μ n v d) : RepV k μ n (.iface t v) (.iface t d)
  | agg (vs : Array Value) (ds : List V) (us : Nat → Value) (s : vs.size = ds.length) (g : ∀ j d, ds[j]? = some d → vs[j]? = some (us j)) (h : ∀ j d, ds[j]? = some d → RepV k μ n (us j) d) :
      RepV k μ n (.agg vs) (.agg ds)
  | tuple (vs : Array Value) (ds : List V) (us : Nat → Value) (s : vs.size = ds.length) (g : ∀ j d, ds[j]? = some d → vs[j]? = some (us j)) (h : ∀ j d, ds[j]? = some d → RepV k μ n (us j) d) :
      RepV k μ n (.tuple vs) (.tuple ds)

theorem RepV.mono {k k' : K} {μ μ' : Nat → Loc} {n n' : Nat → Prop} (hk : k.le k') (hμ : ∀ i, n i → μ' i = μ i) (hn : ∀ i, n i → n' i) {v : Value} {x : V} (h : RepV k μ n v x) : RepV k' μ' n' v x := by
  induction h with
  | d v x h => exact .d v x (h.mono hk)
  | ptr i off hi => rw [← hμ i hi]; exact .ptr i off (hn i hi)
  | arr i off len z cap c hi hl hc hr hq p hp => rw [← hμ i hi]; exact .arr i off len z cap c (hn i hi) hl hc (by rw [hμ i hi]; exact hr) (by rw [hμ i hi]; exact hq) p (by rw [hμ i hi]; exact hp)
  | mapr i hi => rw [← hμ i hi]; exact .mapr i (hn i hi)
  | func f ps qs xs ys us us' s1 s2 g1 _ g2 _ ih1 ih2 => exact .func f ps qs xs ys us us' s1 s2 g1 ih1 g2 ih2
  | iface t v d _ ih => exact .iface t v d ih
  | agg vs ds us s g _ ih => exact .agg vs ds us s g ih
  | tuple vs ds us s g _ ih => exact .tuple vs ds us s g ih

/-- Lists of values, one by one. -/
def Reps (R : Value → D → Prop) (vs : List Value) (ds : List D) : Prop := vs.length = ds.length ∧ ∀ (j : Nat) v d, vs[j]? = some v → ds[j]? = some d → R v d
def RepVs (k : K) (μ : Nat → Loc) (n : Nat → Prop) (vs : List Value) (xs : List V) : Prop := vs.length = xs.length ∧ ∀ (j : Nat) v x, vs[j]? = some v → xs[j]? = some x → RepV k μ n v x

theorem RepVs.nil {k : K} {μ : Nat → Loc} {n : Nat → Prop} : RepVs k μ n [] [] := ⟨rfl, fun j v x h => by simp at h⟩
theorem RepVs.cons {k : K} {μ : Nat → Loc} {n : Nat → Prop} {v : Value} {x : V} {vs : List Value} {xs : List V} (h : RepV k μ n v x) (hs : RepVs k μ n vs xs) : RepVs k μ n (v :: vs) (x :: xs) := by
  refine ⟨by simp [hs.1], fun j u y hu hy => ?_⟩
  cases j with
  | zero => simp at hu hy; subst hu; subst hy; exact h
  | succ j => exact hs.2 j u y (by simpa using hu) (by simpa using hy)
theorem RepVs.nil_inv {k : K} {μ : Nat → Loc} {n : Nat → Prop} {vs : List Value} (h : RepVs k μ n vs []) : vs = [] := by
  have := h.1; simpa using this
theorem RepVs.cons_inv {k : K} {μ : Nat → Loc} {n : Nat → Prop} {vs : List Value} {x : V} {xs : List V} (h : RepVs k μ n vs (x :: xs)) : ∃ v l, vs = v :: l ∧ RepV k μ n v x ∧ RepVs k μ n l xs := by
  cases vs with
  | nil => have := h.1; simp at this
  | cons v l => exact ⟨v, l, rfl, h.2 0 v x rfl rfl, by have := h.1; simpa using this, fun j u y hu hy => h.2 (j + 1) u y (by simpa using hu) (by simpa using hy)⟩
theorem RepVs.mono {k k' : K} {μ μ' : Nat → Loc} {n n' : Nat → Prop} (hk : k.le k') (hμ : ∀ i, n i → μ' i = μ i) (hn : ∀ i, n i → n' i) {vs : List Value} {xs : List V} (h : RepVs k μ n vs xs) : RepVs k' μ' n' vs xs :=
  ⟨h.1, fun j v x hv hx => (h.2 j v x hv hx).mono hk hμ hn⟩
theorem RepVs.append {k : K} {μ : Nat → Loc} {n : Nat → Prop} {vs us : List Value} {xs ys : List V} (h : RepVs k μ n vs xs) (g : RepVs k μ n us ys) : RepVs k μ n (vs ++ us) (xs ++ ys) := by
  induction xs generalizing vs with
  | nil => rw [h.nil_inv]; exact g
  | cons x xs ih =>
    obtain ⟨v, l, rfl, h1, h2⟩ := h.cons_inv
    exact .cons h1 (ih h2)
theorem RepVs.drop {k : K} {μ : Nat → Loc} {n : Nat → Prop} {vs : List Value} {xs : List V} (h : RepVs k μ n vs xs) (m : Nat) : RepVs k μ n (vs.drop m) (xs.drop m) :=
  ⟨by simp [h.1], fun j v x hv hx => h.2 (m + j) v x (by simpa using hv) (by simpa using hx)⟩
theorem RepVs.take {k : K} {μ : Nat → Loc} {n : Nat → Prop} {vs : List Value} {xs : List V} (h : RepVs k μ n vs xs) (m : Nat) : RepVs k μ n (vs.take m) (xs.take m) := by
  refine ⟨by simp [h.1], fun j v x hv hx => ?_⟩
  rw [List.getElem?_take] at hv hx
  split at hv
  · rename_i hj; rw [if_pos hj] at hx; exact h.2 j v x hv hx
  · cases hv
theorem RepVs.get {k : K} {μ : Nat → Loc} {n : Nat → Prop} {vs : List Value} {xs : List V} (h : RepVs k μ n vs xs) {j : Nat} {x : V} (hx : xs[j]? = some x) : ∃ v, vs[j]? = some v ∧ RepV k μ n v x := by
  have hj : j < vs.length := by rw [h.1]; exact (List.getElem?_eq_some_iff.1 hx).1
  exact ⟨vs[j], by simp [hj], h.2 j vs[j] x (by simp [hj]) hx⟩

/-- A list of values that are all data. -/
theorem allD_eq : ∀ {vs : List V} {ds : List D}, allD vs = some ds → vs = ds.map .d
  | [], ds, h => by simp [allD] at h; subst h; rfl
  | .d x :: l, ds, h => by
    simp only [allD] at h
    split at h
    · rename_i ds' h'; injection h with h; subst h; simp [allD_eq h']
    · cases h
  | .ptr .. :: _, _, h | .arr .. :: _, _, h | .mapr _ :: _, _, h | .func .. :: _, _, h | .iface .. :: _, _, h | .agg _ :: _, _, h | .tuple _ :: _, _, h | .hole _ :: _, _, h => by simp [allD] at h
theorem allD_map (ds : List D) : allD (ds.map .d) = some ds := by
  induction ds with
  | nil => rfl
  | cons d ds ih => simp [allD, ih]

theorem RepV.d_inv {k : K} {μ : Nat → Loc} {n : Nat → Prop} {v : Value} {x : D} (h : RepV k μ n v (.d x)) : Rep k v x := by cases h; assumption

/-- Data as lists: one relation, of which the constructors' families are made. -/
def RepDs (k : K) (vs : List Value) (ds : List D) : Prop := vs.length = ds.length ∧ ∀ (j : Nat) v x, vs[j]? = some v → ds[j]? = some x → Rep k v x
theorem repVs_d {k : K} {μ : Nat → Loc} {n : Nat → Prop} {vs : List Value} {ds : List D} : RepVs k μ n vs (ds.map .d) ↔ RepDs k vs ds := by
  constructor
  · intro h
    refine ⟨by simpa using h.1, fun j v x hv hx => ?_⟩
    exact (h.2 j v (.d x) hv (by simp [hx])).d_inv
  · intro h
    refine ⟨by simpa using h.1, fun j v x hv hx => ?_⟩
    simp only [List.getElem?_map, Option.map_eq_some_iff] at hx
    obtain ⟨d, hd, rfl⟩ := hx
    exact .d _ _ (h.2 j v d hv hd)
/-- the family of a list -/
def fam (vs : List Value) (j : Nat) : Value := vs.getD j undef
theorem fam_get {vs : List Value} {j : Nat} (h : j < vs.length) : vs[j]? = some (fam vs j) := by simp [fam, h]

theorem Rep.agg' {k : K} {vs : Array Value} {ds : List D} (h : RepDs k vs.toList ds) : Rep k (.agg vs) (.agg ds) := by
  refine .agg vs ds (fam vs.toList) (by simpa using h.1) (fun j d hj => ?_) (fun j d hj => ?_)
  · have hl : j < vs.toList.length := by rw [h.1]; exact (List.getElem?_eq_some_iff.1 hj).1
    have := fam_get hl; simpa using this
  · have hl : j < vs.toList.length := by rw [h.1]; exact (List.getElem?_eq_some_iff.1 hj).1
    exact h.2 j _ d (fam_get hl) hj
theorem Rep.tuple' {k : K} {vs : Array Value} {ds : List D} (h : RepDs k vs.toList ds) : Rep k (.tuple vs) (.tuple ds) := by
  refine .tuple vs ds (fam vs.toList) (by simpa using h.1) (fun j d hj => ?_) (fun j d hj => ?_)
  · have hl : j < vs.toList.length := by rw [h.1]; exact (List.getElem?_eq_some_iff.1 hj).1
    have := fam_get hl; simpa using this
  · have hl : j < vs.toList.length := by rw [h.1]; exact (List.getElem?_eq_some_iff.1 hj).1
    exact h.2 j _ d (fam_get hl) hj
theorem Rep.func' {k : K} {f : Nat} {ps qs : Array Value} {xs ys : List D} (h : RepDs k ps.toList xs) (h' : RepDs k qs.toList ys) : Rep k (.func (.func f) ps qs) (.func f xs ys) := by
  refine .func f ps qs xs ys (fam ps.toList) (fam qs.toList) (by simpa using h.1) (by simpa using h'.1) ?_ ?_ ?_ ?_
  all_goals intro j d hj
  · have hl : j < ps.toList.length := by rw [h.1]; exact (List.getElem?_eq_some_iff.1 hj).1
    have := fam_get hl; simpa using this
  · have hl : j < ps.toList.length := by rw [h.1]; exact (List.getElem?_eq_some_iff.1 hj).1
    exact h.2 j _ d (fam_get hl) hj
  · have hl : j < qs.toList.length := by rw [h'.1]; exact (List.getElem?_eq_some_iff.1 hj).1
    have := fam_get hl; simpa using this
  · have hl : j < qs.toList.length := by rw [h'.1]; exact (List.getElem?_eq_some_iff.1 hj).1
    exact h'.2 j _ d (fam_get hl) hj

theorem repDs_of {k : K} {vs : Array Value} {ds : List D} {us : Nat → Value} (s : vs.size = ds.length) (g : ∀ j d, ds[j]? = some d → vs[j]? = some (us j)) (h : ∀ j d, ds[j]? = some d → Rep k (us j) d) : RepDs k vs.toList ds := by
  refine ⟨by simpa using s, fun j v x hv hx => ?_⟩
  have h1 := g j x hx
  rw [← Array.getElem?_toList] at h1
  rw [h1] at hv
  injection hv with hv
  subst hv
  exact h j x hx
theorem repVs_of {k : K} {μ : Nat → Loc} {n : Nat → Prop} {vs : Array Value} {ds : List V} {us : Nat → Value} (s : vs.size = ds.length) (g : ∀ j d, ds[j]? = some d → vs[j]? = some (us j)) (h : ∀ j d, ds[j]? = some d → RepV k μ n (us j) d) : RepVs k μ n vs.toList ds := by
  refine ⟨by simpa using s, fun j v x hv hx => ?_⟩
  have h1 := g j x hx
  rw [← Array.getElem?_toList] at h1
  rw [h1] at hv
  injection hv with hv
  subst hv
  exact h j x hx

theorem RepV.agg' {k : K} {μ : Nat → Loc} {n : Nat → Prop} {vs : Array Value} {ds : List V} (h : RepVs k μ n vs.toList ds) : RepV k μ n (.agg vs) (.agg ds) := by
  refine .agg vs ds (fam vs.toList) (by simpa using h.1) (fun j d hj => ?_) (fun j d hj => ?_)
  · have hl : j < vs.toList.length := by rw [h.1]; exact (List.getElem?_eq_some_iff.1 hj).1
    have := fam_get hl; simpa using this
  · have hl : j < vs.toList.length := by rw [h.1]; exact (List.getElem?_eq_some_iff.1 hj).1
    exact h.2 j _ d (fam_get hl) hj
theorem RepV.tuple' {k : K} {μ : Nat → Loc} {n : Nat → Prop} {vs : Array Value} {ds : List V} (h : RepVs k μ n vs.toList ds) : RepV k μ n (.tuple vs) (.tuple ds) := by
  refine .tuple vs ds (fam vs.toList) (by simpa using h.1) (fun j d hj => ?_) (fun j d hj => ?_)
  · have hl : j < vs.toList.length := by rw [h.1]; exact (List.getElem?_eq_some_iff.1 hj).1
    have := fam_get hl; simpa using this
  · have hl : j < vs.toList.length := by rw [h.1]; exact (List.getElem?_eq_some_iff.1 hj).1
    exact h.2 j _ d (fam_get hl) hj
theorem RepV.func' {k : K} {μ : Nat → Loc} {n : Nat → Prop} {f : Nat} {ps qs : Array Value} {xs ys : List V} (h : RepVs k μ n ps.toList xs) (h' : RepVs k μ n qs.toList ys) : RepV k μ n (.func (.func f) ps qs) (.func f xs ys) := by
  refine .func f ps qs xs ys (fam ps.toList) (fam qs.toList) (by simpa using h.1) (by simpa using h'.1) ?_ ?_ ?_ ?_
  all_goals intro j d hj
  · have hl : j < ps.toList.length := by rw [h.1]; exact (List.getElem?_eq_some_iff.1 hj).1
    have := fam_get hl; simpa using this
  · have hl : j < ps.toList.length := by rw [h.1]; exact (List.getElem?_eq_some_iff.1 hj).1
    exact h.2 j _ d (fam_get hl) hj
  · have hl : j < qs.toList.length := by rw [h'.1]; exact (List.getElem?_eq_some_iff.1 hj).1
    have := fam_get hl; simpa using this
  · have hl : j < qs.toList.length := by rw [h'.1]; exact (List.getElem?_eq_some_iff.1 hj).1
    exact h'.2 j _ d (fam_get hl) hj

theorem repV_mkAgg {k : K} {μ : Nat → Loc} {n : Nat → Prop} {vs : Array Value} {xs : List V} (h : RepVs k μ n vs.toList xs) : RepV k μ n (.agg vs) (mkAgg xs) := by
  unfold mkAgg
  split
  · rename_i ds hd; rw [allD_eq hd] at h; exact .d _ _ (.agg' (repVs_d.1 h))
  · exact .agg' h
theorem repV_mkTuple {k : K} {μ : Nat → Loc} {n : Nat → Prop} {vs : Array Value} {xs : List V} (h : RepVs k μ n vs.toList xs) : RepV k μ n (.tuple vs) (mkTuple xs) := by
  unfold mkTuple
  split
  · rename_i ds hd; rw [allD_eq hd] at h; exact .d _ _ (.tuple' (repVs_d.1 h))
  · exact .tuple' h
theorem repV_mkFunc {k : K} {μ : Nat → Loc} {n : Nat → Prop} {f : Nat} {ps qs : Array Value} {xs ys : List V} (h : RepVs k μ n ps.toList xs) (h' : RepVs k μ n qs.toList ys) : RepV k μ n (.func (.func f) ps qs) (mkFunc f xs ys) := by
  unfold mkFunc
  split
  · rename_i as bs ha hb; rw [allD_eq ha] at h; rw [allD_eq hb] at h'; exact .d _ _ (.func' (repVs_d.1 h) (repVs_d.1 h'))
  · exact .func' h h'
theorem repV_mkIface {k : K} {μ : Nat → Loc} {n : Nat → Prop} {t : Nat} {v : Value} {x : V} (h : RepV k μ n v x) : RepV k μ n (.iface t v) (mkIface t x) := by
  unfold mkIface
  split
  · exact .d _ _ (.iface _ _ _ h.d_inv)
  · exact .iface _ _ _ h
/-- the cells of a value -/
theorem repV_cells {k : K} {μ : Nat → Loc} {n : Nat → Prop} {v : Value} {x : V} (h : RepV k μ n v x) : RepVs k μ n v.cells.toList (cellsOf x) := by
  cases h with
  | d v x h =>
    cases h with
    | agg vs ds us s g h => exact repVs_d.2 (repDs_of s g h)
    | undef => exact .cons (.d _ _ .undef) .nil
    | bool b => exact .cons (.d _ _ (.bool b)) .nil
    | int i n => exact .cons (.d _ _ (.int i n)) .nil
    | str s => exact .cons (.d _ _ (.str s)) .nil
    | nilptr => exact .cons (.d _ _ .nilptr) .nil
    | nilslice => exact .cons (.d _ _ .nilslice) .nil
    | nilmap => exact .cons (.d _ _ .nilmap) .nil
    | nilfunc => exact .cons (.d _ _ .nilfunc) .nil
    | niliface => exact .cons (.d _ _ .niliface) .nil
    | ref b base off cells us h1 h2 => exact .cons (.d _ _ (.ref b base off cells us h1 h2)) .nil
    | vec b base cells n ex c us hn hx h1 h2 => exact .cons (.d _ _ (.vec b base cells n ex c us hn hx h1 h2)) .nil
    | func f ps qs xs ys us us' s1 s2 g1 h1 g2 h2 => exact .cons (.d _ _ (.func f ps qs xs ys us us' s1 s2 g1 h1 g2 h2)) .nil
    | iface t v d h => exact .cons (.d _ _ (.iface t v d h)) .nil
    | tuple vs ds us s g h => exact .cons (.d _ _ (.tuple vs ds us s g h)) .nil
    | mapd m es ks vs us us' hm s1 s2 g1 h1 g2 h2 => exact .cons (.d _ _ (.mapd m es ks vs us us' hm s1 s2 g1 h1 g2 h2)) .nil
  | ptr i off hi => exact .cons (.ptr i off hi) .nil
  | arr i off len z cap c hi hl hc hr hq p hp => exact .cons (.arr i off len z cap c hi hl hc hr hq p hp) .nil
  | mapr i hi => exact .cons (.mapr i hi) .nil
  | func f ps qs xs ys us us' s1 s2 g1 h1 g2 h2 => exact .cons (.func f ps qs xs ys us us' s1 s2 g1 h1 g2 h2) .nil
  | iface t v d h => exact .cons (.iface t v d h) .nil
  | agg vs ds us s g h => exact repVs_of s g h
  | tuple vs ds us s g h => exact .cons (.tuple vs ds us s g h) .nil
end Go.Avm

/- The abstract machine on data: the objects, how they lie in memory, and what a step keeps. -/
namespace Go.Avm
open Go

theorem beq_nat {i j : Nat} : Nat.beq i j = true ↔ i = j := by
  constructor
  · exact fun h => Nat.eq_of_beq_eq_true h
  · rintro rfl; exact Nat.beq_refl i
theorem beq_ne {i j : Nat} (h : i ≠ j) : Nat.beq i j = false := by
  cases e : Nat.beq i j
  · rfl
  · exact absurd (beq_nat.1 e) h
theorem OT.lf_node (l : OT) (o : Option Obj) (r : OT) : (OT.node l o r).lf = l := rfl
theorem OT.mid_node (l : OT) (o : Option Obj) (r : OT) : (OT.node l o r).mid = o := rfl
theorem OT.rt_node (l : OT) (o : Option Obj) (r : OT) : (OT.node l o r).rt = r := rfl
theorem OT.get_parts (t : OT) (i : Nat) : t.get i = if Nat.beq i 0 then t.mid else if Nat.beq (i % 2) 1 then t.lf.get (i / 2) else t.rt.get (i / 2 - 1) := by
  cases t with
  | nil => simp [OT.get, OT.mid, OT.lf, OT.rt]
  | node l o r => rfl
theorem OT.get_put_same {x : Obj} : ∀ (f : Nat) (t : OT) (i : Nat), i < f → (OT.put f t i x).get i = some x := by
  intro f
  induction f with
  | zero => intro t i h; omega
  | succ f ih =>
    intro t i h
    by_cases h0 : i = 0
    · subst h0; simp [OT.put, OT.get]
    · have b0 := beq_ne h0
      by_cases h1 : i % 2 = 1
      · have b1 : Nat.beq (i % 2) 1 = true := beq_nat.2 h1
        simp only [OT.put, b0, b1, OT.get, if_true, Bool.false_eq_true, if_false]
        exact ih _ _ (by omega)
      · have b1 := beq_ne h1
        simp only [OT.put, b0, b1, OT.get, Bool.false_eq_true, if_false]
        exact ih _ _ (by omega)
theorem OT.get_put_ne {x : Obj} : ∀ (f : Nat) (t : OT) (i j : Nat), i < f → i ≠ j → (OT.put f t i x).get j = t.get j := by
  intro f
  induction f with
  | zero => intro t i j h; omega
  | succ f ih =>
    intro t i j h hij
    rw [OT.get_parts t j]
    by_cases h0 : i = 0
    · subst h0
      have bj := beq_ne (Ne.symm hij)
      simp [OT.put, OT.get, bj]
    · have b0 := beq_ne h0
      by_cases h1 : i % 2 = 1
      · have b1 : Nat.beq (i % 2) 1 = true := beq_nat.2 h1
        simp only [OT.put, b0, b1, OT.get, if_true, Bool.false_eq_true, if_false]
        by_cases j0 : j = 0
        · subst j0; simp
        · have c0 := beq_ne j0
          by_cases j1 : j % 2 = 1
          · have c1 : Nat.beq (j % 2) 1 = true := beq_nat.2 j1
            simp only [c0, c1, if_true, Bool.false_eq_true, if_false]
            exact ih _ _ _ (by omega) (by omega)
          · have c1 := beq_ne j1
            simp only [c0, c1, Bool.false_eq_true, if_false]
      · have b1 := beq_ne h1
        simp only [OT.put, b0, b1, OT.get, Bool.false_eq_true, if_false]
        by_cases j0 : j = 0
        · subst j0; simp
        · have c0 := beq_ne j0
          by_cases j1 : j % 2 = 1
          · have c1 : Nat.beq (j % 2) 1 = true := beq_nat.2 j1
            simp only [c0, c1, if_true, Bool.false_eq_true, if_false]
          · have c1 := beq_ne j1
            simp only [c0, c1, Bool.false_eq_true, if_false]
            exact ih _ _ _ (by omega) (by omega)
theorem OT.put_comm {x y : Obj} : ∀ (f g : Nat) (t : OT) (i j : Nat), i < f → j < g → i ≠ j → OT.put f (OT.put g t j y) i x = OT.put g (OT.put f t i x) j y := by
  intro f
  induction f with
  | zero => intro g t i j h; omega
  | succ f ih =>
    intro g t i j hi hj hij
    cases g with
    | zero => omega
    | succ g =>
      by_cases i0 : i = 0
      · subst i0
        have c0 := beq_ne (Ne.symm hij)
        by_cases j1 : j % 2 = 1
        · have c1 : Nat.beq (j % 2) 1 = true := beq_nat.2 j1
          simp [OT.put, c0, c1, OT.lf_node, OT.mid_node, OT.rt_node]
        · have c1 := beq_ne j1
          simp [OT.put, c0, c1, OT.lf_node, OT.mid_node, OT.rt_node]
      · have b0 := beq_ne i0
        by_cases j0 : j = 0
        · subst j0
          by_cases i1 : i % 2 = 1
          · have b1 : Nat.beq (i % 2) 1 = true := beq_nat.2 i1
            simp [OT.put, b0, b1, OT.lf_node, OT.mid_node, OT.rt_node]
          · have b1 := beq_ne i1
            simp [OT.put, b0, b1, OT.lf_node, OT.mid_node, OT.rt_node]
        · have c0 := beq_ne j0
          by_cases i1 : i % 2 = 1
          · have b1 : Nat.beq (i % 2) 1 = true := beq_nat.2 i1
            by_cases j1 : j % 2 = 1
            · have c1 : Nat.beq (j % 2) 1 = true := beq_nat.2 j1
              simp only [OT.put, b0, c0, b1, c1, OT.lf_node, OT.mid_node, OT.rt_node, if_true, Bool.false_eq_true, if_false]
              rw [ih g t.lf (i / 2) (j / 2) (by omega) (by omega) (by omega)]
            · have c1 := beq_ne j1
              simp only [OT.put, b0, c0, b1, c1, OT.lf_node, OT.mid_node, OT.rt_node, if_true, Bool.false_eq_true, if_false]
          · have b1 := beq_ne i1
            by_cases j1 : j % 2 = 1
            · have c1 : Nat.beq (j % 2) 1 = true := beq_nat.2 j1
              simp only [OT.put, b0, c0, b1, c1, OT.lf_node, OT.mid_node, OT.rt_node, if_true, Bool.false_eq_true, if_false]
            · have c1 := beq_ne j1
              simp only [OT.put, b0, c0, b1, c1, OT.lf_node, OT.mid_node, OT.rt_node, Bool.false_eq_true, if_false]
              rw [ih g t.rt (i / 2 - 1) (j / 2 - 1) (by omega) (by omega) (by omega)]
theorem H.get_set_same (h : H) (i : Nat) (x : Obj) : (h.set i x).get i = x := by simp [H.get, H.set, OT.get_put_same (i + 1) h.objs i (by omega)]
theorem H.get_set_ne (h : H) {i j : Nat} (x : Obj) (hij : i ≠ j) : (h.set i x).get j = h.get j := by simp [H.get, H.set, OT.get_put_ne (i + 1) h.objs i j (by omega) hij]
theorem H.next_set (h : H) (i : Nat) (x : Obj) : (h.set i x).next = h.next := rfl
theorem H.next_new (h : H) (x : Obj) : (h.new x).next = h.up := rfl
theorem H.top_set (h : H) (i : Nat) (x : Obj) : (h.set i x).top = h.top := rfl
theorem H.top_new (h : H) (x : Obj) : (h.new x).top = h.up := rfl
theorem H.up_ge (h : H) : h.top ≤ h.up := by unfold H.up; split <;> omega
theorem H.up_gt (h : H) (hn : h.next ≤ h.top) : h.next < h.up := by
  unfold H.up
  split
  · rename_i hb; simpa using hb
  · omega
theorem H.get_new_same (h : H) (x : Obj) : (h.new x).get h.next = x := by simp [H.get, H.new, OT.get_put_same (h.next + 1) h.objs h.next (by omega)]
theorem H.get_new_ne (h : H) {i : Nat} (x : Obj) (hi : i ≠ h.next) : (h.new x).get i = h.get i := by
  simp [H.get, H.new, OT.get_put_ne (h.next + 1) h.objs h.next i (by omega) (Ne.symm hi)]
theorem H.get_empty (i : Nat) : H.empty.get i = .dead := by simp [H.get, H.empty, OT.get]
theorem H.has_set (h : H) (i j : Nat) (x : Obj) : (h.set i x).has j ↔ j = i ∨ h.has j := by
  by_cases e : j = i
  · subst e; simp [H.has, H.set, OT.get_put_same (j + 1) h.objs j (by omega)]
  · simp [H.has, H.set, OT.get_put_ne (i + 1) h.objs i j (by omega) (Ne.symm e), e]
theorem H.has_new (h : H) (j : Nat) (x : Obj) : (h.new x).has j ↔ j = h.next ∨ h.has j := by
  by_cases e : j = h.next
  · subst e; simp [H.has, H.new, OT.get_put_same (h.next + 1) h.objs h.next (by omega)]
  · simp [H.has, H.new, OT.get_put_ne (h.next + 1) h.objs h.next j (by omega) (Ne.symm e), e]
theorem H.has_get {h : H} {i : Nat} (hd : h.get i ≠ .dead) : h.has i := by
  unfold H.get at hd
  unfold H.has
  cases e : h.objs.get i with
  | none => rw [e] at hd; simp at hd
  | some x => rfl

def live : Obj → Bool
  | .cells _ | .map .. | .iter .. => true
  | _ => false

def MapOk (k : K) (μ : Nat → Loc) (n : Nat → Prop) (es : Array MapEntry) (ks : List D) (vs : List V) : Prop :=
  (∀ j (e : MapEntry), es[j]? = some e → e.born = j) ∧ RepDs k (es.toList.map (·.key)) ks ∧ RepVs k μ n (es.toList.map (·.val)) vs

def ObjOk (w : World) (k : K) (μ : Nat → Loc) (n : Nat → Prop) (i : Nat) : Obj → Prop
  | .cells cs => ∃ vs e, w.heap[(μ i).blk]? = some (.cells vs e) ∧ (μ i).base + (μ i).room ≤ vs.size ∧ cs.length ≤ (μ i).room ∧
      RepVs k μ n ((vs.toList.drop (μ i).base).take cs.length) cs ∧ ∀ o, (μ i).base ≤ o → k.F (μ i).blk o = none
  | .frozen ds => ∃ us : List Value, us.length = ds.length ∧ (∀ j u, us[j]? = some u → k.F (μ i).blk ((μ i).base + j) = some u) ∧ RepDs k us ds
  | .map ks vs => ∃ es : Array MapEntry, w.heap[(μ i).blk]? = some (.map es es.size) ∧ k.M (μ i).blk = none ∧ MapOk k μ n es ks vs
  | .fmap ks vs => ∃ es : Array MapEntry, k.M (μ i).blk = some es ∧ RepDs k (es.toList.map (·.key)) ks ∧ RepDs k (es.toList.map (·.val)) vs
  | .iter ks vs seen => ∃ (m : Nat) (es : Array MapEntry) (sn : Array Nat), w.heap[(μ i).blk]? = some (.mapIter (some m) es.size sn es.size) ∧ (μ i).base = 0 ∧ k.M m = some es ∧ sn.toList = seen ∧ RepDs k (es.toList.map (·.key)) ks ∧ RepDs k (es.toList.map (·.val)) vs
  | .dead => True

theorem RepV.hset {k : K} {μ : Nat → Loc} {h : H} {i : Nat} {x : Obj} {u : Value} {v : V} (r : RepV k μ h.has u v) : RepV k μ (h.set i x).has u v := r.mono (K.le_refl k) (fun _ _ => rfl) (fun _ h' => (H.has_set h _ _ _).2 (.inr h'))
theorem RepVs.hset {k : K} {μ : Nat → Loc} {h : H} {i : Nat} {x : Obj} {u : List Value} {v : List V} (r : RepVs k μ h.has u v) : RepVs k μ (h.set i x).has u v := r.mono (K.le_refl k) (fun _ _ => rfl) (fun _ h' => (H.has_set h _ _ _).2 (.inr h'))

def Agree (k : K) (w : World) : Prop :=
  (∀ b o u, k.F b o = some u → w.cell? ⟨b, o, none⟩ = some u) ∧ (∀ b es, k.M b = some es → ∃ c, w.heap[b]? = some (.map es c) ∧ c = es.size ∧ ∀ (j : Nat) (e : MapEntry), es[j]? = some e → e.born = j) ∧
  ∀ b o u, k.F b o = some u → ∃ vs e, w.heap[b]? = some (.cells vs e)

structure Inv (B : Nat) (w : World) (k : K) (μ : Nat → Loc) (h : H) : Prop where
  agree : Agree k w
  lt : ∀ i, h.get i ≠ .dead → h.has i
  top : ∀ i, h.has i → i < h.top
  fresh : ¬ h.has h.next
  nt : h.next ≤ h.top
  obj : ∀ i, ObjOk w k μ h.has i (h.get i)
  sep : ∀ i j, i ≠ j → live (h.get i) = true → live (h.get j) = true → (μ i).blk ≠ (μ j).blk
  low : ∀ i, live (h.get i) = true → B ≤ (μ i).blk
  bot : B ≤ w.heap.size

theorem Inv.new_top {B : Nat} {w : World} {k : K} {μ : Nat → Loc} {h : H} (hi : Inv B w k μ h) (x : Obj) : ∀ i, (h.new x).has i → i < (h.new x).top := by
  intro i hh
  rw [H.top_new]
  rcases (H.has_new h i x).1 hh with rfl | hh
  · exact H.up_gt h hi.nt
  · exact Nat.lt_of_lt_of_le (hi.top i hh) (H.up_ge h)
theorem Inv.new_fresh {B : Nat} {w : World} {k : K} {μ : Nat → Loc} {h : H} (hi : Inv B w k μ h) (x : Obj) : ¬ (h.new x).has (h.new x).next := by
  intro hh
  have := hi.new_top x _ hh
  rw [H.top_new, H.next_new] at this
  omega
theorem Inv.set_top {B : Nat} {w : World} {k : K} {μ : Nat → Loc} {h : H} (hi : Inv B w k μ h) {i : Nat} (hin : h.has i) (x : Obj) : ∀ j, (h.set i x).has j → j < (h.set i x).top := by
  intro j hh
  rcases (H.has_set h i j x).1 hh with rfl | hh
  · exact hi.top _ hin
  · exact hi.top j hh
theorem Inv.set_fresh {B : Nat} {w : World} {k : K} {μ : Nat → Loc} {h : H} (hi : Inv B w k μ h) {i : Nat} (hin : h.has i) (x : Obj) : ¬ (h.set i x).has (h.set i x).next := by
  intro hh
  rcases (H.has_set h i _ x).1 hh with e | hh
  · rw [H.next_set] at e; rw [← e] at hin; exact hi.fresh hin
  · exact hi.fresh hh

theorem cell_lt {w : World} {b o : Nat} {u : Value} (h : w.cell? ⟨b, o, none⟩ = some u) : b < w.heap.size := by
  unfold World.cell? at h
  simp only at h
  cases hb : w.heap[b]? with
  | none => simp [hb] at h
  | some x => exact (Array.getElem?_eq_some_iff.1 hb).1
theorem cell_of_heap {w w' : World} {b o : Nat} (h : w'.heap[b]? = w.heap[b]?) : w'.cell? ⟨b, o, none⟩ = w.cell? ⟨b, o, none⟩ := by
  unfold World.cell?; simp only [h]
theorem cell_heap {w : World} {b o : Nat} {vs : Array Value} {e : TypeId} {fr : Nat × Nat} (h : w.heap[b]? = some (.cells vs e fr)) : w.cell? ⟨b, o, none⟩ = vs[o]? := by
  unfold World.cell?; simp [h]
theorem Agree.F_lt {k : K} {w : World} (h : Agree k w) {b o : Nat} {u : Value} (hu : k.F b o = some u) : b < w.heap.size := cell_lt (h.1 _ _ _ hu)
theorem Agree.M_lt {k : K} {w : World} (h : Agree k w) {b : Nat} {es : Array MapEntry} (hu : k.M b = some es) : b < w.heap.size := by
  obtain ⟨c, hc, _⟩ := h.2.1 _ _ hu
  exact (Array.getElem?_eq_some_iff.1 hc).1
theorem Inv.live_lt {B : Nat} {w : World} {k : K} {μ : Nat → Loc} {h : H} (hi : Inv B w k μ h) {i : Nat} (hl : live (h.get i) = true) : (μ i).blk < w.heap.size := by
  have := hi.obj i
  cases hg : h.get i with
  | cells cs => rw [hg] at this; obtain ⟨vs, e, hh, _⟩ := this; exact (Array.getElem?_eq_some_iff.1 hh).1
  | map ks vs => rw [hg] at this; obtain ⟨es, hh, _⟩ := this; exact (Array.getElem?_eq_some_iff.1 hh).1
  | iter ks vs seen => rw [hg] at this; obtain ⟨m, es, sn, hh, _⟩ := this; exact (Array.getElem?_eq_some_iff.1 hh).1
  | _ => rw [hg] at hl; simp [live] at hl

structure Ext (w : World) (k : K) (μ : Nat → Loc) (h : H) (w' : World) (k' : K) (μ' : Nat → Loc) (h' : H) : Prop where
  kle : k.le k'
  fnew : ∀ b o u, k'.F b o = some u → k.F b o = some u ∨ (∃ i, live (h.get i) = true ∧ (μ i).blk = b) ∨ w.heap.size ≤ b
  mnew : ∀ b es, k'.M b = some es → k.M b = some es ∨ (∃ i, live (h.get i) = true ∧ (μ i).blk = b) ∨ w.heap.size ≤ b
  mu : ∀ i, h.has i → μ' i = μ i
  nle : ∀ i, h.has i → h'.has i
  os : w'.os = w.os
  tape : w'.tape = w.tape
  output : w'.output = w.output
  size : w.heap.size ≤ w'.heap.size
  frame : ∀ b, b < w.heap.size → (∀ i, live (h.get i) = true → (μ i).blk ≠ b) → w'.heap[b]? = w.heap[b]?
  own : ∀ i, live (h'.get i) = true → (∃ j, live (h.get j) = true ∧ (μ j).blk = (μ' i).blk) ∨ w.heap.size ≤ (μ' i).blk

theorem Ext.refl (w : World) (k : K) (μ : Nat → Loc) (h : H) : Ext w k μ h w k μ h :=
  ⟨K.le_refl k, fun _ _ _ h => .inl h, fun _ _ h => .inl h, fun _ _ => rfl, fun _ h => h, rfl, rfl, rfl, Nat.le_refl _, fun _ _ _ => rfl, fun i hi => .inl ⟨i, hi, rfl⟩⟩
theorem Ext.trans {w w1 w2 : World} {k k1 k2 : K} {μ μ1 μ2 : Nat → Loc} {h h1 h2 : H} (a : Ext w k μ h w1 k1 μ1 h1) (b : Ext w1 k1 μ1 h1 w2 k2 μ2 h2) : Ext w k μ h w2 k2 μ2 h2 := by
  have ownB : ∀ (blk : Nat), (∃ i, live (h1.get i) = true ∧ (μ1 i).blk = blk) → (∃ i, live (h.get i) = true ∧ (μ i).blk = blk) ∨ w.heap.size ≤ blk := by
    rintro blk ⟨i, hi, rfl⟩
    exact a.own i hi
  refine ⟨K.le_trans a.kle b.kle, ?_, ?_, fun i hi => by rw [b.mu i (a.nle i hi), a.mu i hi], fun i hi => b.nle i (a.nle i hi), b.os.trans a.os, b.tape.trans a.tape, b.output.trans a.output,
    Nat.le_trans a.size b.size, ?_, ?_⟩
  · intro bl o u hu
    rcases b.fnew _ _ _ hu with h | h | h
    · exact a.fnew _ _ _ h
    · exact .inr (ownB _ h)
    · exact .inr (.inr (Nat.le_trans a.size h))
  · intro bl es hu
    rcases b.mnew _ _ hu with h | h | h
    · exact a.mnew _ _ h
    · exact .inr (ownB _ h)
    · exact .inr (.inr (Nat.le_trans a.size h))
  · intro bl hlt hno
    rw [b.frame bl (Nat.lt_of_lt_of_le hlt a.size) ?_, a.frame bl hlt hno]
    intro i hi e
    rcases ownB bl ⟨i, hi, e⟩ with ⟨j, hj, hb⟩ | h
    · exact hno j hj hb
    · omega
  · intro i hi
    rcases b.own i hi with h | h
    · exact ownB _ h
    · exact .inr (Nat.le_trans a.size h)

/-- Where a call began. -/
structure Start where
  B : Nat
  w : World
  k : K
  μ : Nat → Loc
  h : H

structure Rel (G : Start) (N : Nat) (w : World) (k : K) (μ : Nat → Loc) (hb : Nat → Nat) (ρ : Nat → Option V) (h : H) (a : Act) : Prop where
  inv : Inv G.B w k μ h
  env : ∀ t v, ρ t = some v → (∀ m, v ≠ .hole m) → RepV k μ h.has (a.tmps.getD t undef) v
  size : a.tmps.size = N
  defers : a.defers = []
  hole : ∀ t m, ρ t = some (.hole m) → a.tmps.getD t undef = .pointer (some ⟨hb t, 0, none⟩) ∧ (∃ vs e, w.heap[hb t]? = some (.cells vs e) ∧ vs.size = m) ∧ (∀ o, k.F (hb t) o = none) ∧
    (∀ i, live (h.get i) = true → (μ i).blk ≠ hb t) ∧ G.B ≤ hb t ∧ G.w.heap.size ≤ hb t
  hsep : ∀ t t' m m', t ≠ t' → ρ t = some (.hole m) → ρ t' = some (.hole m') → hb t ≠ hb t'
  ext : Ext G.w G.k G.μ G.h w k μ h

theorem Rel.step {G : Start} {N : Nat} {w w' : World} {k k' : K} {μ μ' : Nat → Loc} {hb : Nat → Nat} {ρ : Nat → Option V} {h h' : H} {a : Act}
    (r : Rel G N w k μ hb ρ h a) (i : Inv G.B w' k' μ' h') (x : Ext w k μ h w' k' μ' h') : Rel G N w' k' μ' hb ρ h' a := by
  refine ⟨i, fun t v hv hh => (r.env t v hv hh).mono x.kle x.mu x.nle, r.size, r.defers, ?_, r.hsep, r.ext.trans x⟩
  intro t m hm
  obtain ⟨h1, ⟨vs, e, h2, h3⟩, h4, h5, h6, h7⟩ := r.hole t m hm
  have hlt : hb t < w.heap.size := (Array.getElem?_eq_some_iff.1 h2).1
  refine ⟨h1, ⟨vs, e, by rw [x.frame _ hlt h5]; exact h2, h3⟩, ?_, ?_, h6, h7⟩
  · intro o
    cases hf : k'.F (hb t) o with
    | none => rfl
    | some u =>
      rcases x.fnew _ _ _ hf with h | ⟨i, hi, hb'⟩ | h
      · rw [h4 o] at h; cases h
      · exact absurd hb' (h5 i hi)
      · omega
  · intro i hi e
    rcases x.own i hi with ⟨j, hj, hb'⟩ | h
    · exact h5 j hj (hb'.trans e)
    · omega

def updρ (ρ : Nat → Option V) (d : Nat) (v : V) : Nat → Option V := fun t => if t = d then some v else ρ t
def putρ (ρ : Nat → Option V) (dst : Option Nat) (v : V) : Nat → Option V := match dst with
  | some d => updρ ρ d v
  | none => ρ

theorem getD_put_same {a : Act} {d : Nat} {u : Value} (h : d < a.tmps.size) : (a.put (some d) u).tmps.getD d undef = u := by
  simp [Act.put, h]
theorem getD_put_ne {a : Act} {d t : Nat} {u : Value} (h : d ≠ t) : (a.put (some d) u).tmps.getD t undef = a.tmps.getD t undef := by
  simp [Act.put, Array.getElem?_setIfInBounds_ne h]

theorem Rel.upd {G : Start} {N : Nat} {w : World} {k : K} {μ : Nat → Loc} {hb : Nat → Nat} {ρ : Nat → Option V} {h : H} {a : Act} (r : Rel G N w k μ hb ρ h a) {d : Nat} (hd : d < N) {u : Value} {v : V}
    (hv : RepV k μ h.has u v) : Rel G N w k μ hb (updρ ρ d v) h (a.put (some d) u) := by
  have hnh : ∀ m, v ≠ .hole m := by rintro m rfl; cases hv
  refine ⟨r.inv, ?_, by simp [Act.put, r.size], r.defers, ?_, ?_, r.ext⟩
  · intro t x hx hh
    unfold updρ at hx
    split at hx
    · rename_i e; subst e; injection hx with hx; subst hx; rw [getD_put_same (by rw [r.size]; exact hd)]; exact hv
    · rename_i e; rw [getD_put_ne (Ne.symm e)]; exact r.env t x hx hh
  · intro t m hm
    unfold updρ at hm
    split at hm
    · injection hm with hm; exact absurd hm (hnh m)
    · rename_i e; rw [getD_put_ne (Ne.symm e)]; exact r.hole t m hm
  · intro t t' m m' hne h1 h2
    unfold updρ at h1 h2
    split at h1
    · injection h1 with h1; exact absurd h1 (hnh m)
    · split at h2
      · injection h2 with h2; exact absurd h2 (hnh m')
      · exact r.hsep t t' m m' hne h1 h2
theorem Rel.put {G : Start} {N : Nat} {w : World} {k : K} {μ : Nat → Loc} {hb : Nat → Nat} {ρ : Nat → Option V} {h : H} {a : Act} (r : Rel G N w k μ hb ρ h a) {dst : Option Nat} (hd : ∀ d, dst = some d → d < N) {u : Value} {v : V}
    (hv : RepV k μ h.has u v) : Rel G N w k μ hb (putρ ρ dst v) h (a.put dst u) := by
  cases dst with
  | none => exact r
  | some d => exact r.upd (hd d rfl) hv

/-- A slot's value is forgotten, or an environment that knows less. -/
theorem Rel.less {G : Start} {N : Nat} {w : World} {k : K} {μ : Nat → Loc} {hb : Nat → Nat} {ρ ρ' : Nat → Option V} {h : H} {a : Act} (r : Rel G N w k μ hb ρ h a) (hl : ∀ t v, ρ' t = some v → ρ t = some v) : Rel G N w k μ hb ρ' h a :=
  ⟨r.inv, fun t v hv hh => r.env t v (hl t v hv) hh, r.size, r.defers, fun t m hm => r.hole t m (hl t _ hm), fun t t' m m' hne h1 h2 => r.hsep t t' m m' hne (hl _ _ h1) (hl _ _ h2), r.ext⟩

/-! ### what steps do to the objects -/
section
variable {B : Nat} {w : World} {k : K} {μ : Nat → Loc} {h : H}

def updμ (μ : Nat → Loc) (i : Nat) (l : Loc) : Nat → Loc := fun j => if j = i then l else μ j
theorem updμ_same (μ : Nat → Loc) (i : Nat) (l : Loc) : updμ μ i l i = l := by simp [updμ]
theorem updμ_ne (μ : Nat → Loc) {i j : Nat} (l : Loc) (hj : j ≠ i) : updμ μ i l j = μ j := by simp [updμ, hj]

theorem heap_alloc_lt (w : World) (o : Go.Obj) {b : Nat} (hb : b < w.heap.size) : (w.alloc o).heap[b]? = w.heap[b]? := by
  show (w.heap.push o)[b]? = _
  rw [Array.getElem?_push, if_neg (by omega)]
theorem heap_alloc_same (w : World) (o : Go.Obj) : (w.alloc o).heap[w.heap.size]? = some o := by
  show (w.heap.push o)[w.heap.size]? = _
  simp
theorem size_alloc (w : World) (o : Go.Obj) : (w.alloc o).heap.size = w.heap.size + 1 := by
  show (w.heap.push o).size = _
  simp

theorem Agree.same {w' : World} (ha : Agree k w) (h : ∀ b, b < w.heap.size → w'.heap[b]? = w.heap[b]?) : Agree k w' := by
  refine ⟨fun b o u hu => ?_, fun b es hu => ?_, fun b o u hu => ?_⟩
  · rw [cell_of_heap (h b (ha.F_lt hu))]; exact ha.1 _ _ _ hu
  · rw [h b (ha.M_lt hu)]; exact ha.2.1 _ _ hu
  · rw [h b (ha.F_lt hu)]; exact ha.2.2 _ _ _ hu

/-- the objects read on where their blocks are as they were, nothing is forgotten, and no cell of theirs has become known for good -/
theorem ObjOk.mono {w' : World} {k' : K} {μ' : Nat → Loc} {n n' : Nat → Prop} {i : Nat} {x : Obj} (ho : ObjOk w k μ n i x) (hk : k.le k') (hμ : ∀ i, n i → μ' i = μ i) (hn : ∀ i, n i → n' i) (hi : x ≠ .dead → n i)
    (hb : live x = true → w'.heap[(μ i).blk]? = w.heap[(μ i).blk]?) (hf : live x = true → ∀ o, k.F (μ i).blk o = none → k'.F (μ i).blk o = none) (hm : live x = true → k.M (μ i).blk = none → k'.M (μ i).blk = none) :
    ObjOk w' k' μ' n' i x := by
  cases x with
  | cells cs =>
    obtain ⟨vs, e, h1, h2, h3, h4, h5⟩ := ho
    have hμi := hμ i (hi (by simp))
    exact ⟨vs, e, by rw [hμi, hb rfl]; exact h1, by rw [hμi]; exact h2, by rw [hμi]; exact h3, by rw [hμi]; exact h4.mono hk hμ hn, by rw [hμi]; exact fun o q => hf rfl o (h5 o q)⟩
  | frozen ds =>
    obtain ⟨us, h1, h2, h3⟩ := ho
    have hμi := hμ i (hi (by simp))
    exact ⟨us, h1, fun j u hu => by rw [hμi]; exact hk.1 _ _ _ (h2 j u hu), h3.1, fun j v x hv hx => (h3.2 j v x hv hx).mono hk⟩
  | map ks vs =>
    obtain ⟨es, h1, h2, h3, h4, h5⟩ := ho
    have hμi := hμ i (hi (by simp))
    exact ⟨es, by rw [hμi, hb rfl]; exact h1, by rw [hμi]; exact hm rfl h2, h3, ⟨h4.1, fun j v x hv hx => (h4.2 j v x hv hx).mono hk⟩, h5.mono hk hμ hn⟩
  | fmap ks vs =>
    obtain ⟨es, h1, h4, h5⟩ := ho
    have hμi := hμ i (hi (by simp))
    exact ⟨es, by rw [hμi]; exact hk.2 _ _ h1, ⟨h4.1, fun j v x hv hx => (h4.2 j v x hv hx).mono hk⟩, h5.1, fun j v x hv hx => (h5.2 j v x hv hx).mono hk⟩
  | iter ks vs seen =>
    obtain ⟨m, es, sn, h1, h2, h3, h4, h5, h6⟩ := ho
    have hμi := hμ i (hi (by simp))
    exact ⟨m, es, sn, by rw [hμi, hb rfl]; exact h1, by rw [hμi]; exact h2, hk.2 _ _ h3, h4, ⟨h5.1, fun j v x hv hx => (h5.2 j v x hv hx).mono hk⟩, h6.1, fun j v x hv hx => (h6.2 j v x hv hx).mono hk⟩
  | dead => trivial

/-- (1) Only new blocks, and what is known for good lies in them: a pure call, a new row that nobody writes. -/
theorem Inv.grow {w' : World} {k' : K} (hi : Inv B w k μ h) (hs : w.heap.size ≤ w'.heap.size) (hb : ∀ b, b < w.heap.size → w'.heap[b]? = w.heap[b]?) (ha : Agree k' w') (hk : k.le k')
    (hf : ∀ b o u, k'.F b o = some u → k.F b o = some u ∨ w.heap.size ≤ b) (hm : ∀ b es, k'.M b = some es → k.M b = some es ∨ w.heap.size ≤ b) : Inv B w' k' μ h := by
  refine ⟨ha, hi.lt, hi.top, hi.fresh, hi.nt, fun i => ?_, hi.sep, hi.low, Nat.le_trans hi.bot hs⟩
  refine (hi.obj i).mono hk (fun _ _ => rfl) (fun _ h => h) (hi.lt i) (fun hl => hb _ (hi.live_lt hl)) (fun hl o hn => ?_) (fun hl hn => ?_)
  · cases hq : k'.F (μ i).blk o with
    | none => rfl
    | some u =>
      rcases hf _ _ _ hq with h1 | h1
      · rw [hn] at h1; cases h1
      · have := hi.live_lt hl; omega
  · cases hq : k'.M (μ i).blk with
    | none => rfl
    | some u =>
      rcases hm _ _ hq with h1 | h1
      · rw [hn] at h1; cases h1
      · have := hi.live_lt hl; omega
theorem Ext.grow {w' : World} {k' : K} (hs : w.heap.size ≤ w'.heap.size) (hb : ∀ b, b < w.heap.size → w'.heap[b]? = w.heap[b]?) (hk : k.le k') (o1 : w'.os = w.os) (o2 : w'.tape = w.tape) (o3 : w'.output = w.output)
    (hf : ∀ b o u, k'.F b o = some u → k.F b o = some u ∨ w.heap.size ≤ b) (hm : ∀ b es, k'.M b = some es → k.M b = some es ∨ w.heap.size ≤ b) : Ext w k μ h w' k' μ h :=
  ⟨hk, fun b o u hu => (hf b o u hu).imp id .inr, fun b es hu => (hm b es hu).imp id .inr, fun _ _ => rfl, fun _ h => h, o1, o2, o3, hs, fun b hlt _ => hb b hlt, fun i hi => .inl ⟨i, hi, rfl⟩⟩

/-- (2) A new object: a block of cells. -/
theorem Inv.newCells (hi : Inv B w k μ h) {vs : Array Value} {e : TypeId} {cs : List V} (hl : cs.length ≤ vs.size)
    (hr : RepVs k (updμ μ h.next ⟨w.heap.size, 0, vs.size⟩) (h.new (.cells cs)).has (vs.toList.take cs.length) cs) :
    Inv B (w.alloc (.cells vs e)) k (updμ μ h.next ⟨w.heap.size, 0, vs.size⟩) (h.new (.cells cs)) := by
  have hF : ∀ o, k.F w.heap.size o = none := fun o => by
    cases hq : k.F w.heap.size o with
    | none => rfl
    | some u => have := hi.agree.F_lt hq; omega
  have hμ : ∀ i, h.has i → updμ μ h.next ⟨w.heap.size, 0, vs.size⟩ i = μ i := fun i hlt => updμ_ne _ _ (by rintro rfl; exact hi.fresh hlt)
  refine ⟨hi.agree.same fun b hb => heap_alloc_lt w _ hb, fun i hd => H.has_get hd, hi.new_top _, hi.new_fresh _, Nat.le_refl _, ?_, ?_, ?_, by rw [size_alloc]; have := hi.bot; omega⟩
  · intro i
    by_cases e' : i = h.next
    · subst e'
      rw [H.get_new_same]
      refine ⟨vs, e, ?_, ?_, ?_, ?_, ?_⟩
      · rw [updμ_same]; exact heap_alloc_same w _
      · rw [updμ_same]; simp
      · rw [updμ_same]; exact hl
      · rw [updμ_same]; exact hr
      · rw [updμ_same]; exact fun o _ => hF o
    · rw [H.get_new_ne h _ e']
      exact (hi.obj i).mono (K.le_refl k) hμ (fun _ h' => (H.has_new h _ _).2 (.inr h')) (hi.lt i) (fun hl => heap_alloc_lt w _ (hi.live_lt hl)) (fun _ o h => h) (fun _ h => h)
  · intro i j hij h1 h2
    by_cases ei : i = h.next
    · subst ei
      have ej : j ≠ h.next := fun q => hij q.symm
      rw [H.get_new_ne h _ ej] at h2
      rw [updμ_same, updμ_ne _ _ ej]
      have := hi.live_lt h2
      show w.heap.size ≠ _
      omega
    · by_cases ej : j = h.next
      · subst ej
        rw [H.get_new_ne h _ ei] at h1
        rw [updμ_same, updμ_ne _ _ ei]
        have := hi.live_lt h1
        show _ ≠ w.heap.size
        omega
      · rw [H.get_new_ne h _ ei] at h1; rw [H.get_new_ne h _ ej] at h2
        rw [updμ_ne _ _ ei, updμ_ne _ _ ej]
        exact hi.sep i j hij h1 h2
  · intro i h1
    by_cases ei : i = h.next
    · subst ei; rw [updμ_same]; exact hi.bot
    · rw [H.get_new_ne h _ ei] at h1; rw [updμ_ne _ _ ei]; exact hi.low i h1
theorem Ext.newObj (hi : Inv B w k μ h) (o : Go.Obj) (x : Obj) (l : Loc) (hl : l.blk = w.heap.size) : Ext w k μ h (w.alloc o) k (updμ μ h.next l) (h.new x) := by
  refine ⟨K.le_refl k, fun _ _ _ h => .inl h, fun _ _ h => .inl h, fun i hlt => updμ_ne _ _ (by rintro rfl; exact hi.fresh hlt), fun _ h' => (H.has_new h _ _).2 (.inr h'), rfl, rfl, rfl, by rw [size_alloc]; omega, fun b hb _ => heap_alloc_lt w _ hb, ?_⟩
  intro i hlv
  by_cases ei : i = h.next
  · subst ei; rw [updμ_same, hl]; exact .inr (Nat.le_refl _)
  · rw [H.get_new_ne h _ ei] at hlv; rw [updμ_ne _ _ ei]; exact .inl ⟨i, hlv, rfl⟩
/-- (3) A new map. -/
theorem Inv.newMap (hi : Inv B w k μ h) : Inv B (w.alloc (.map #[] 0)) k (updμ μ h.next ⟨w.heap.size, 0, 0⟩) (h.new (.map [] [])) := by
  have hM : k.M w.heap.size = none := by
    cases hq : k.M w.heap.size with
    | none => rfl
    | some u => have := hi.agree.M_lt hq; omega
  have hμ : ∀ i, h.has i → updμ μ h.next ⟨w.heap.size, 0, 0⟩ i = μ i := fun i hlt => updμ_ne _ _ (by rintro rfl; exact hi.fresh hlt)
  refine ⟨hi.agree.same fun b hb => heap_alloc_lt w _ hb, fun i hd => H.has_get hd, hi.new_top _, hi.new_fresh _, Nat.le_refl _, ?_, ?_, ?_, by rw [size_alloc]; have := hi.bot; omega⟩
  · intro i
    by_cases e' : i = h.next
    · subst e'
      rw [H.get_new_same]
      refine ⟨#[], ?_, ?_, ?_, ?_, ?_⟩
      · rw [updμ_same]; exact heap_alloc_same w _
      · rw [updμ_same]; exact hM
      · intro j e he; simp at he
      · exact ⟨rfl, fun j v x hv => by simp at hv⟩
      · exact ⟨rfl, fun j v x hv => by simp at hv⟩
    · rw [H.get_new_ne h _ e']
      exact (hi.obj i).mono (K.le_refl k) hμ (fun _ h' => (H.has_new h _ _).2 (.inr h')) (hi.lt i) (fun hl => heap_alloc_lt w _ (hi.live_lt hl)) (fun _ o h => h) (fun _ h => h)
  · intro i j hij h1 h2
    by_cases ei : i = h.next
    · subst ei
      have ej : j ≠ h.next := fun q => hij q.symm
      rw [H.get_new_ne h _ ej] at h2
      rw [updμ_same, updμ_ne _ _ ej]
      have := hi.live_lt h2
      show w.heap.size ≠ _
      omega
    · by_cases ej : j = h.next
      · subst ej
        rw [H.get_new_ne h _ ei] at h1
        rw [updμ_same, updμ_ne _ _ ei]
        have := hi.live_lt h1
        show _ ≠ w.heap.size
        omega
      · rw [H.get_new_ne h _ ei] at h1; rw [H.get_new_ne h _ ej] at h2
        rw [updμ_ne _ _ ei, updμ_ne _ _ ej]
        exact hi.sep i j hij h1 h2
  · intro i h1
    by_cases ei : i = h.next
    · subst ei; rw [updμ_same]; exact hi.bot
    · rw [H.get_new_ne h _ ei] at h1; rw [updμ_ne _ _ ei]; exact hi.low i h1
/-- A new iterator. -/
theorem Inv.newIter (hi : Inv B w k μ h) {m : Nat} {es : Array MapEntry} {ks vs : List D} (hm : k.M m = some es) (h1 : RepDs k (es.toList.map (·.key)) ks) (h2 : RepDs k (es.toList.map (·.val)) vs) : Inv B (w.alloc (.mapIter (some m) es.size #[] es.size)) k (updμ μ h.next ⟨w.heap.size, 0, 0⟩) (h.new (.iter ks vs [])) := by
  have hμ : ∀ i, h.has i → updμ μ h.next ⟨w.heap.size, 0, 0⟩ i = μ i := fun i hlt => updμ_ne _ _ (by rintro rfl; exact hi.fresh hlt)
  refine ⟨hi.agree.same fun b hb => heap_alloc_lt w _ hb, fun i hd => H.has_get hd, hi.new_top _, hi.new_fresh _, Nat.le_refl _, ?_, ?_, ?_, by rw [size_alloc]; have := hi.bot; omega⟩
  · intro i
    by_cases e' : i = h.next
    · subst e'
      rw [H.get_new_same]
      refine ⟨m, es, #[], ?_, ?_, hm, rfl, h1, h2⟩
      · rw [updμ_same]; exact heap_alloc_same w _
      · rw [updμ_same]
    · rw [H.get_new_ne h _ e']
      exact (hi.obj i).mono (K.le_refl k) hμ (fun _ h' => (H.has_new h _ _).2 (.inr h')) (hi.lt i) (fun hl => heap_alloc_lt w _ (hi.live_lt hl)) (fun _ o h => h) (fun _ h => h)
  · intro i j hij h1 h2
    by_cases ei : i = h.next
    · subst ei
      have ej : j ≠ h.next := fun q => hij q.symm
      rw [H.get_new_ne h _ ej] at h2
      rw [updμ_same, updμ_ne _ _ ej]
      have := hi.live_lt h2
      show w.heap.size ≠ _
      omega
    · by_cases ej : j = h.next
      · subst ej
        rw [H.get_new_ne h _ ei] at h1
        rw [updμ_same, updμ_ne _ _ ei]
        have := hi.live_lt h1
        show _ ≠ w.heap.size
        omega
      · rw [H.get_new_ne h _ ei] at h1; rw [H.get_new_ne h _ ej] at h2
        rw [updμ_ne _ _ ei, updμ_ne _ _ ej]
        exact hi.sep i j hij h1 h2
  · intro i h1
    by_cases ei : i = h.next
    · subst ei; rw [updμ_same]; exact hi.bot
    · rw [H.get_new_ne h _ ei] at h1; rw [updμ_ne _ _ ei]; exact hi.low i h1
/-- (4) One object's block is written, and the object with it. -/
theorem Inv.write (hi : Inv B w k μ h) {i : Nat} (hlv : live (h.get i) = true) {w' : World} {x : Obj} (hb : ∀ b, b ≠ (μ i).blk → w'.heap[b]? = w.heap[b]?) (hs : w'.heap.size = w.heap.size)
    (ha : Agree k w') (hx : ObjOk w' k μ h.has i x) : Inv B w' k μ (h.set i x) := by
  have hin : h.has i := hi.lt i (by intro e; rw [e] at hlv; simp [live] at hlv)
  refine ⟨ha, fun j hd => H.has_get hd, hi.set_top hin _, hi.set_fresh hin _, hi.nt, ?_, ?_, ?_, by rw [hs]; exact hi.bot⟩
  · intro j
    by_cases e : i = j
    · subst e; rw [H.get_set_same]; exact hx.mono (K.le_refl k) (fun _ _ => rfl) (fun _ h' => (H.has_set h _ _ _).2 (.inr h')) (fun _ => hin) (fun _ => rfl) (fun _ _ h => h) (fun _ h => h)
    · rw [H.get_set_ne h _ e]
      exact (hi.obj j).mono (K.le_refl k) (fun _ _ => rfl) (fun _ h' => (H.has_set h _ _ _).2 (.inr h')) (hi.lt j) (fun hl => hb _ (hi.sep j i (Ne.symm e) hl hlv)) (fun _ o h => h) (fun _ h => h)
  · intro j l hjl h1 h2
    have f : ∀ q, live ((h.set i x).get q) = true → live (h.get q) = true := fun q hq => by
      by_cases e : i = q
      · subst e; exact hlv
      · rw [H.get_set_ne h _ e] at hq; exact hq
    exact hi.sep j l hjl (f _ h1) (f _ h2)
  · intro j h1
    by_cases e : i = j
    · subst e; exact hi.low i hlv
    · rw [H.get_set_ne h _ e] at h1; exact hi.low j h1
theorem Ext.write {i : Nat} (hlv : live (h.get i) = true) {w' : World} {x : Obj} (hb : ∀ b, b ≠ (μ i).blk → w'.heap[b]? = w.heap[b]?) (hs : w'.heap.size = w.heap.size) (o1 : w'.os = w.os) (o2 : w'.tape = w.tape) (o3 : w'.output = w.output) :
    Ext w k μ h w' k μ (h.set i x) := by
  refine ⟨K.le_refl k, fun _ _ _ h => .inl h, fun _ _ h => .inl h, fun _ _ => rfl, fun _ h' => (H.has_set h _ _ _).2 (.inr h'), o1, o2, o3, by omega, fun b _ hno => hb b (Ne.symm (hno i hlv)), ?_⟩
  intro j hj
  by_cases e : i = j
  · subst e; exact .inl ⟨i, hlv, rfl⟩
  · rw [H.get_set_ne h _ e] at hj; exact .inl ⟨j, hj, rfl⟩
/-- (5) An object is forgotten. -/
theorem Inv.kill (hi : Inv B w k μ h) {i : Nat} (hin : h.has i) : Inv B w k μ (h.set i .dead) := by
  have f : ∀ q, live ((h.set i .dead).get q) = true → live (h.get q) = true ∧ q ≠ i := fun q hq => by
    by_cases e : i = q
    · subst e; rw [H.get_set_same] at hq; simp [live] at hq
    · rw [H.get_set_ne h _ e] at hq; exact ⟨hq, Ne.symm e⟩
  refine ⟨hi.agree, fun j hd => H.has_get hd, hi.set_top hin _, hi.set_fresh hin _, hi.nt, ?_, fun j l hjl h1 h2 => hi.sep j l hjl (f _ h1).1 (f _ h2).1, fun j h1 => hi.low j (f _ h1).1, hi.bot⟩
  · intro j
    by_cases e : i = j
    · subst e; rw [H.get_set_same]; trivial
    · rw [H.get_set_ne h _ e]; exact (hi.obj j).mono (K.le_refl k) (fun _ _ => rfl) (fun _ h' => (H.has_set h _ _ _).2 (.inr h')) (hi.lt j) (fun _ => rfl) (fun _ _ h => h) (fun _ h => h)
theorem Ext.kill (i : Nat) : Ext w k μ h w k μ (h.set i .dead) := by
  refine ⟨K.le_refl k, fun _ _ _ h => .inl h, fun _ _ h => .inl h, fun _ _ => rfl, fun _ h' => (H.has_set h _ _ _).2 (.inr h'), rfl, rfl, rfl, Nat.le_refl _, fun b _ _ => rfl, ?_⟩
  intro j hj
  by_cases e : i = j
  · subst e; rw [H.get_set_same] at hj; simp [live] at hj
  · rw [H.get_set_ne h _ e] at hj; exact .inl ⟨j, hj, rfl⟩
/-- (6) A new object in place of one that has been forgotten: the same block. -/
theorem Inv.renew (hi : Inv B w k μ h) {i : Nat} (hlv : live (h.get i) = true) {base room : Nat} {cs : List V}
    (hx : ∃ vs e, w.heap[(μ i).blk]? = some (.cells vs e) ∧ base + room ≤ vs.size ∧ cs.length ≤ room ∧
      RepVs k (updμ μ h.next ⟨(μ i).blk, base, room⟩) ((h.set i .dead).new (.cells cs)).has ((vs.toList.drop base).take cs.length) cs ∧ ∀ o, base ≤ o → k.F (μ i).blk o = none) :
    Inv B w k (updμ μ h.next ⟨(μ i).blk, base, room⟩) ((h.set i .dead).new (.cells cs)) := by
  have hin : h.has i := hi.lt i (by intro e; rw [e] at hlv; simp [live] at hlv)
  have hk := hi.kill hin
  have hμ : ∀ j, (h.set i .dead).has j → updμ μ h.next ⟨(μ i).blk, base, room⟩ j = μ j := fun j hlt => updμ_ne _ _ (by rintro rfl; exact hk.fresh hlt)
  have hnx : (h.set i .dead).next = h.next := rfl
  have f : ∀ q, q ≠ h.next → live (((h.set i .dead).new (.cells cs)).get q) = true → live (h.get q) = true ∧ q ≠ i := fun q hq hl => by
    rw [H.get_new_ne _ _ (by rw [hnx]; exact hq)] at hl
    by_cases e : i = q
    · subst e; rw [H.get_set_same] at hl; simp [live] at hl
    · rw [H.get_set_ne h _ e] at hl; exact ⟨hl, Ne.symm e⟩
  refine ⟨hi.agree, fun j hd => H.has_get hd, hk.new_top _, hk.new_fresh _, Nat.le_refl _, ?_, ?_, ?_, hi.bot⟩
  · intro j
    by_cases e' : j = h.next
    · subst e'
      have : ((h.set i .dead).new (.cells cs)).get h.next = .cells cs := H.get_new_same (h.set i .dead) _
      rw [this]
      obtain ⟨vs, e, h1, h2, h3, h4, h5⟩ := hx
      exact ⟨vs, e, by rw [updμ_same]; exact h1, by rw [updμ_same]; exact h2, by rw [updμ_same]; exact h3, by rw [updμ_same]; exact h4, by rw [updμ_same]; exact h5⟩
    · rw [H.get_new_ne _ _ (by rw [hnx]; exact e')]
      exact (hk.obj j).mono (K.le_refl k) hμ (fun _ h' => (H.has_new _ _ _).2 (.inr h')) (hk.lt j) (fun _ => rfl) (fun _ o h => h) (fun _ h => h)
  · intro j l hjl h1 h2
    by_cases ej : j = h.next
    · subst ej
      have el : l ≠ h.next := fun q => hjl q.symm
      rw [updμ_same, updμ_ne _ _ el]
      exact hi.sep i l (Ne.symm (f l el h2).2) hlv (f l el h2).1
    · by_cases el : l = h.next
      · subst el
        rw [updμ_same, updμ_ne _ _ ej]
        exact hi.sep j i (f j ej h1).2 (f j ej h1).1 hlv
      · rw [updμ_ne _ _ ej, updμ_ne _ _ el]
        exact hi.sep j l hjl (f j ej h1).1 (f l el h2).1
  · intro j h1
    by_cases ej : j = h.next
    · subst ej; rw [updμ_same]; exact hi.low i hlv
    · rw [updμ_ne _ _ ej]; exact hi.low j (f j ej h1).1
theorem Ext.renew (hi : Inv B w k μ h) {i : Nat} (hlv : live (h.get i) = true) {base room : Nat} {x : Obj} : Ext w k μ h w k (updμ μ h.next ⟨(μ i).blk, base, room⟩) ((h.set i .dead).new x) := by
  refine ⟨K.le_refl k, fun _ _ _ h => .inl h, fun _ _ h => .inl h, fun j hlt => updμ_ne _ _ (by rintro rfl; exact hi.fresh hlt), fun _ h' => (H.has_new _ _ _).2 (.inr ((H.has_set h _ _ _).2 (.inr h'))), rfl, rfl, rfl, Nat.le_refl _, fun b _ _ => rfl, ?_⟩
  intro j hj
  by_cases ej : j = h.next
  · subst ej; rw [updμ_same]; exact .inl ⟨i, hlv, rfl⟩
  · rw [H.get_new_ne _ _ (by exact ej)] at hj
    rw [updμ_ne _ _ ej]
    by_cases e : i = j
    · subst e; rw [H.get_set_same] at hj; simp [live] at hj
    · rw [H.get_set_ne h _ e] at hj; exact .inl ⟨j, hj, rfl⟩
end
end Go.Avm

