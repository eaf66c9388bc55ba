/- The abstract machine, part 3: operations that change no memory: what they give on abstract values, and that the real ones agree. -/
import Derived.Test.YthoacjgjmlgaoaaGreatDoorA2
import Derived.Laws.Strings2
import Derived.Laws.Concat
import Derived.Laws.Cells
namespace Go.Abs
open Go.RowKit

/-- The length. -/
def qlen (T : Nat → Option TI) (H : List AObj) (ty : TypeId) (x : AV) : Option AV :=
  match T ty with
  | some ⟨.str, _, _, _⟩ => match x with
    | .pv (.str s) => some (.pv (.int .i64 s.length))
    | _ => none
  | some ⟨.slice _, _, _, _⟩ => match x with
    | .pv (.slice xs) => some (.pv (.int .i64 xs.length))
    | .vec _ n => some (.pv (.int .i64 n))
    | _ => none
  | some ⟨.map _ _, _, _, _⟩ => match x with
    | .mref l => match H[l]? with
      | some (.map es) => some (.pv (.int .i64 es.length))
      | _ => none
    | _ => none
  | _ => none

def pbin (op : BinOp) : PV → PV → Option PV
  | .int k a, .int k' b =>
    if k = k' then
      match op with
      | .add => some (.int k (k.wrap (a + b)))
      | .sub => some (.int k (k.wrap (a - b)))
      | .mul => some (.int k (k.wrap (a * b)))
      | .quo => if b = 0 then none else some (.int k (k.wrap (a.tdiv b)))
      | .rem => if b = 0 then none else some (.int k (a.tmod b))
      | .and => some (.int k (bits .and k a b))
      | .or => some (.int k (bits .or k a b))
      | .xor => some (.int k (bits .xor k a b))
      | .andNot => some (.int k (bits .andNot k a b))
      | .eql => some (.bool (a == b))
      | .neq => some (.bool (a != b))
      | .lss => some (.bool (decide (a < b)))
      | .leq => some (.bool (decide (a ≤ b)))
      | .gtr => some (.bool (decide (a > b)))
      | .geq => some (.bool (decide (a ≥ b)))
      | .shl => if b < 0 then none else some (.int k (k.wrap (a * 2 ^ (min b.toNat k.bits))))
      | .shr => if b < 0 then none else some (.int k (a.fdiv (2 ^ (min b.toNat k.bits))))
    else
      match op with
      | .shl => if b < 0 then none else some (.int k (k.wrap (a * 2 ^ (min b.toNat k.bits))))
      | .shr => if b < 0 then none else some (.int k (a.fdiv (2 ^ (min b.toNat k.bits))))
      | _ => none
  | .str a, .str b =>
    match op with
    | .add => if a.length + b.length ≤ 9223372036854775807 then some (.str (a ++ b)) else none
    | .eql => some (.bool (a == b))
    | .neq => some (.bool !(a == b))
    | .lss => some (.bool (Op.bytesLess a b))
    | .leq => some (.bool (Op.bytesLess a b || a == b))
    | .gtr => some (.bool !(Op.bytesLess a b || a == b))
    | .geq => some (.bool !(Op.bytesLess a b))
    | _ => none
  | _, _ => none

def isBoolT (T : Nat → Option TI) (t : TypeId) : Bool :=
  match T t with
  | some ⟨.bool, _, _, _⟩ => true
  | _ => false

def qbin (T : Nat → Option TI) (op : BinOp) (t : TypeId) : AV → AV → Option AV
  | .pv (.bool a), .pv (.bool b) =>
    if isBoolT T t then
      match op with
      | .eql => some (.pv (.bool (a == b)))
      | .neq => some (.pv (.bool !(a == b)))
      | _ => none
    else none
  | .pv p, .pv q => (pbin op p q).map .pv
  | _, _ => none

/-- An interface's value held against nil. -/
def qnil2 (T : Nat → Option TI) (op : BinOp) (t : TypeId) : AV → Option AV
  | .pv .nil => match T t, op with
    | some ⟨.iface, _, _, _⟩, .eql => some (.pv (.bool true))
    | some ⟨.iface, _, _, _⟩, .neq => some (.pv (.bool false))
    | _, _ => none
  | .pv .ifc => match T t, op with
    | some ⟨.iface, _, _, _⟩, .eql => some (.pv (.bool false))
    | some ⟨.iface, _, _, _⟩, .neq => some (.pv (.bool true))
    | _, _ => none
  | _ => none

def isNil : Operand → Bool
  | .const .nilIface => true
  | _ => false

/-- Two cells compared. -/
def pvEq : EK → PV → PV → Option Bool
  | .int, .int k a, .int k' b => if k = k' then some (decide (a = b)) else none
  | .str, .str a, .str b => some (decide (a = b))
  | .bool, .bool a, .bool b => some (a == b)
  | _, _, _ => none

def cellsEq : List EK → List PV → List PV → Option Bool
  | [], [], [] => some true
  | k :: ks, p :: ps, q :: qs => match pvEq k p q, cellsEq ks ps qs with
    | some a, some b => some (a && b)
    | _, _ => none
  | _, _, _ => none

/-- Two structures compared, field by field. -/
def qeq (ks : List EK) (op : BinOp) : AV → AV → Option AV
  | .pv (.agg a), .pv (.agg b) => match op with
    | .eql => (cellsEq ks a b).map fun r => .pv (.bool r)
    | .neq => (cellsEq ks a b).map fun r => .pv (.bool !r)
    | _ => none
  | _, _ => none

def qun (op : UnOp) : AV → Option AV
  | .pv (.bool b) => match op with
    | .not => some (.pv (.bool !b))
    | _ => none
  | .pv (.int k n) => match op with
    | .neg => some (.pv (.int k (k.wrap (0 - n))))
    | _ => none
  | _ => none

/-- Read a value of type t at the head of these cells. -/
def rdCells (ti : TI) (cs : List PV) : Option PV :=
  match ti.k with
  | .strct _ => if ti.size ≤ cs.length then some (.agg (cs.take ti.size)) else none
  | .other => none
  | _ => cs[0]?

def allPV : List AV → Option (List PV)
  | [] => some []
  | .pv p :: r => (allPV r).map (p :: ·)
  | _ => none

def qload (T : Nat → Option TI) (H : List AObj) (t : TypeId) (x : AV) : Option AV :=
  match T t with
  | none => none
  | some ti =>
    match x with
    | .pptr cs => (rdCells ti cs).map .pv
    | .ref l o => match H[l]? with
      | some (.var cs) =>
        match ti.k with
        | .strct _ => if o + ti.size ≤ cs.length then some (match allPV ((cs.drop o).take ti.size) with
          | some ps => .pv (.agg ps)
          | none => .agg ((cs.drop o).take ti.size)) else none
        | .other => none
        | _ => cs[o]?
      | _ => none
    | .vptr l n i o => match H[l]? with
      | some (.row _ _ xs _) => if xs.length = n then match xs[i]? with
          | some x => (rdCells ti (x.cells.drop o)).map .pv
          | none => none
        else none
      | _ => none
    | _ => none

def qfieldAddr (T : Nat → Option TI) (t : TypeId) (f : Nat) (x : AV) : Option AV :=
  match T t with
  | some ⟨.strct fs, _, _, _⟩ => match fs[f]? with
    | some (off, sz) => if sz = 0 then none else match x with
      | .ref l o => some (.ref l (o + off))
      | .pptr cs => some (.pptr (cs.drop off))
      | .vptr l n i o => some (.vptr l n i (o + off))
      | _ => none
    | none => none
  | _ => none

def qindexAddr (T : Nat → Option TI) (H : List AObj) (t : TypeId) (x i : AV) : Option AV :=
  match T t with
  | some ⟨.slice e, _, _, _⟩ => match T e, i with
    | some te, .pv (.int _ i) =>
      if 0 ≤ i then match x with
        | .pv (.slice xs) => match xs[i.toNat]? with
          | some y => if y.cells.length = te.size then some (.pptr y.cells) else none
          | none => none
        | .vec l n => match H[l]? with
          | some (.row _ sz _ _) => if i.toNat < n ∧ sz = te.size then some (.vptr l n i.toNat 0) else none
          | _ => none
        | _ => none
      else none
    | _, _ => none
  | _ => none

def qindex (T : Nat → Option TI) (t : TypeId) (x i : AV) : Option AV :=
  match T t, x, i with
  | some ⟨.str, _, _, _⟩, .pv (.str s), .pv (.int _ i) =>
    if 0 ≤ i then match s[i.toNat]? with
      | some c => some (.pv (.int .u8 c.toNat))
      | none => none
    else none
  | _, _, _ => none

def boundOr (d : Nat) : Option AV → Option Nat
  | none => some d
  | some (.pv (.int _ n)) => if 0 ≤ n then some n.toNat else none
  | _ => none

def qslice (T : Nat → Option TI) (H : List AObj) (t : TypeId) (x : AV) (lo hi : Option AV) : Option AV :=
  match T t with
  | some ⟨.str, _, _, _⟩ => match x with
    | .pv (.str s) => match boundOr 0 lo, boundOr s.length hi with
      | some l, some h => if l ≤ h ∧ h ≤ s.length then some (.pv (.str ((s.drop l).take (h - l)))) else none
      | _, _ => none
    | _ => none
  | some ⟨.slice e, _, _, _⟩ => match T e, toPV H x with
    | some te, some (.slice xs) => match boundOr 0 lo, boundOr xs.length hi with
      | some l, some h => if l ≤ h ∧ h ≤ xs.length ∧ (xs.all fun y => y.cells.length == te.size) = true then some (.pv (.slice ((xs.drop l).take (h - l)))) else none
      | _, _ => none
    | _, _ => none
  | _ => none

def qextract (x : AV) (i : Nat) : Option AV :=
  match x with
  | .tup vs => vs[i]?
  | _ => none

def putCells (cs : List PV) (off : Nat) (ps : List PV) : List PV := cs.take off ++ ps ++ cs.drop (off + ps.length)

def qfill (H : List AObj) (fs : List (Nat × Nat)) : List PV → List (Nat × AV) → Option (List PV)
  | cs, [] => some cs
  | cs, (i, v) :: r => match fs[i]?, toPV H v with
    | some (off, sz), some p => if p.cells.length = sz ∧ off + sz ≤ cs.length then qfill H fs (putCells cs off p.cells) r else none
    | _, _ => none

def qbuild (T : Nat → Option TI) (H : List AObj) (t : TypeId) (parts : List (Nat × AV)) : Option AV :=
  match T t with
  | some ⟨.strct fs, _, _, some z⟩ => (qfill H fs z parts).map fun cs => .pv (.agg cs)
  | _ => none

def qnil : AV → Option AV
  | .ref l o => some (.ref l o)
  | .pptr cs => some (.pptr cs)
  | .vptr l n i o => some (.vptr l n i o)
  | _ => none

def keyEq : PV → PV → Option Bool
  | .int k a, .int k' b => if k = k' then some (a == b) else none
  | .str a, .str b => some (a == b)
  | .bool a, .bool b => some (a == b)
  | _, _ => none

/-- The first entry with this key: its place and value. -/
def findIn (k : PV) : List (PV × PV) → Nat → Option (Option (Nat × PV))
  | [], _ => some none
  | e :: es, i => match keyEq k e.1 with
    | some true => some (some (i, e.2))
    | some false => findIn k es (i + 1)
    | none => none

def simpleKey (T : Nat → Option TI) (k : TypeId) (p : PV) : Bool :=
  match T k, p with
  | some ⟨.str, _, _, _⟩, .str _ => true
  | some ⟨.int j, _, _, _⟩, .int j' _ => j == j'
  | _, _ => false

def zeroPV (ti : TI) : Option PV :=
  match ti.k, ti.zero with
  | .strct _, some z => some (.agg z)
  | .other, _ => none
  | _, some [z] => some z
  | _, _ => none

def qlookup (T : Nat → Option TI) (H : List AObj) (t : TypeId) (m k : AV) (ok : Bool) : Option AV :=
  match T t, m, k with
  | some ⟨.map kt et, _, _, _⟩, .mref l, .pv kp => match H[l]?, T et with
    | some (.map es), some te => if simpleKey T kt kp then
        match findIn kp es 0, zeroPV te with
        | some (some (_, p)), _ => some (if ok then .tup [.pv p, .pv (.bool true)] else .pv p)
        | some none, some z => some (if ok then .tup [.pv z, .pv (.bool false)] else .pv z)
        | _, _ => none
      else none
    | _, _ => none
  | _, _, _ => none

def qconv (T : Nat → Option TI) (src dst : TypeId) (x : AV) : Option AV :=
  match T src, T dst, x with
  | some ⟨.int _, _, _, _⟩, some ⟨.int k, _, _, _⟩, .pv (.int _ n) => some (.pv (.int k (k.wrap n)))
  | some ⟨.str, _, _, _⟩, some ⟨.str, _, _, _⟩, .pv (.str s) => some (.pv (.str s))
  | _, _, _ => none

/-- Addresses of whole objects. -/
def refsOf : List AV → Option (List Nat)
  | [] => some []
  | .ref l 0 :: r => (refsOf r).map (l :: ·)
  | _ => none

def qval (T : Nat → Option TI) (t : Nat → AV) (H : List AObj) : Op → Option AV
  | .move x => some (ev t x)
  | .assign x => some (ev t x)
  | .pick c a b => match ev t c with
    | .pv (.bool v) => some (if v then ev t a else ev t b)
    | _ => none
  | .binOp op ty x y _ => qbin T op ty (ev t x) (ev t y)
  | .unOp op _ x => qun op (ev t x)
  | .load ty x => qload T H ty (ev t x)
  | .fieldAddr ty x f => qfieldAddr T ty f (ev t x)
  | .indexAddr ty x i => qindexAddr T H ty (nrm (ev t x)) (ev t i)
  | .index ty x i => qindex T ty (ev t x) (ev t i)
  | .slice ty x lo hi none => qslice T H ty (ev t x) (lo.map (ev t)) (hi.map (ev t))
  | .extract x i => qextract (ev t x) i
  | .build ty parts => qbuild T H ty (parts.toList.map fun p => (p.1, ev t p.2))
  | .nilCheck x => qnil (ev t x)
  | .lookup ty m k ok => qlookup T H ty (ev t m) (ev t k) ok
  | .convert src dst x => qconv T src dst (ev t x)
  | .call ⟨.builtin .len, args, ats⟩ => match args.toList, ats.toList with
    | [x], [ty] => qlen T H ty (nrm (ev t x))
    | _, _ => none
  | .makeFunc (.func f) first caps => if first.size = 0 then (refsOf (caps.toList.map (ev t))).map (AV.fn f) else none
  | _ => none

end Go.Abs
