/-
  THE ABSTRACT MACHINE, FIRST PART: values, states, what an operation does, how that stands to the model. No condition.
-/
import Derived.Below
import Derived.Orders
import Derived.Calls
import Derived.Deep.AppendSrc
import Derived.Laws.Rows
import Derived.Laws.Cells
import Derived.LoopN
import Derived.Laws.StructEq
namespace Go.Proofs.Ytcfmllknnfoghaa.AM
open Go Go.RowKit
set_option linter.unusedVariables false
set_option linter.unusedSimpArgs false
set_option maxRecDepth 100000

/-- what is done with numbers and strings: as a variable while a code is evaluated -/
structure Prims where
  add : IntKind → Int → Int → Int
  sub : IntKind → Int → Int → Int
  mul : IntKind → Int → Int → Int
  quo : IntKind → Int → Int → Int
  rem : Int → Int → Int
  shl : IntKind → Int → Int → Int
  shr : IntKind → Int → Int → Int
  conv : IntKind → Int → Int
  eq : Int → Int → Bool
  lt : Int → Int → Bool
  le : Int → Int → Bool
  imin : Int → Int → Int
  imax : Int → Int → Int
  not : Bool → Bool
  beq : Bool → Bool → Bool
  band : Bool → Bool → Bool
  toN : Int → Nat
  ofN : Nat → Int
  nadd : Nat → Nat → Nat
  nsub : Nat → Nat → Nat
  slen : ByteArray → Nat
  sat : ByteArray → Nat → Int
  scat : ByteArray → ByteArray → ByteArray
  ssub : ByteArray → Nat → Nat → ByteArray
  seq : ByteArray → ByteArray → Bool
  slt : ByteArray → ByteArray → Bool
  sle : ByteArray → ByteArray → Bool
  ofBytes : Nat → (Nat → Int) → ByteArray
  inR : Int → Nat → Prop
  upTo : Int → Nat → Prop
  nz : Int → Prop
  nneg : Int → Prop
  room : Nat → Nat → Prop

noncomputable def std : Prims where
  add k x y := k.wrap (x + y)
  sub k x y := k.wrap (x - y)
  mul k x y := k.wrap (x * y)
  quo k x y := k.wrap (x.tdiv y)
  rem x y := x.tmod y
  shl k x y := k.wrap (x * 2 ^ min y.toNat k.bits)
  shr k x y := x.fdiv (2 ^ min y.toNat k.bits)
  conv k x := k.wrap x
  eq x y := x == y
  lt x y := decide (x < y)
  le x y := decide (x ≤ y)
  imin x y := if y < x then y else x
  imax x y := if y > x then y else x
  not b := !b
  beq x y := x == y
  band x y := x && y
  toN x := x.toNat
  ofN n := (n : Int)
  nadd a b := a + b
  nsub a b := a - b
  slen s := s.size
  sat s i := ((s[i]?.getD 0).toNat : Int)
  scat a b := a ++ b
  ssub s l h := s.extract l h
  seq a b := a.toList == b.toList
  slt a b := Op.bytesLess a.toList b.toList
  sle a b := Op.bytesLess a.toList b.toList || a.toList == b.toList
  ofBytes n g := ⟨((List.range n).map fun i => UInt8.ofNat (g i).toNat).toArray⟩
  inR i n := 0 ≤ i ∧ i < (n : Int)
  upTo i n := 0 ≤ i ∧ i ≤ (n : Int)
  nz x := x ≠ 0
  nneg x := 0 ≤ x
  room n b := n * b ≤ 35184372088832

/-- one cell -/
inductive AC where
  | v (x : Value)
  | bs (n sz : Nat) (get : Nat → Nat → AC)
  | bp (n : Nat) (get : Nat → AC)
  | os (k off n : Nat)
  | ptr (k off : Nat)
  | ep (k i j : Nat)
  | fn (f : FuncId) (n : Nat) (caps : Nat → AC)
  | junk

inductive AV where
  | c (x : AC)
  | agg (l : List AC)
  | tup (l : List AV)
  | any

inductive AO where
  | gone
  | var (l : List AC)
  | arr (m : Bool) (n sz : Nat) (get : Nat → Nat → AC)

structure St where
  t : List AV
  o : Nat → AO

structure TD where
  und : TypeDesc
  size : Nat
  bytes : Nat
  zero : Value
  eqs : Bool := false

abbrev TT := Nat → Option TD

def AV.cells? : AV → Option (List AC)
  | .c .junk => none
  | .c x => some [x]
  | .agg l => some l
  | .tup _ => none
  | .any => none
def AC.imm : AC → Bool
  | .v _ | .bs .. | .fn .. => true
  | _ => false
def AC.whole : AC → Bool
  | .junk => false
  | _ => true
def AC.ref : AC → List Nat
  | .os k _ _ | .ptr k _ | .ep k _ _ => [k]
  | _ => []
def AC.kill (ks : List Nat) : AC → AC
  | .os k a b => if ks.contains k then .junk else .os k a b
  | .ptr k a => if ks.contains k then .junk else .ptr k a
  | .ep k a b => if ks.contains k then .junk else .ep k a b
  | x => x
def AV.kill1 (ks : List Nat) : AV → AV
  | .c x => .c (x.kill ks)
  | .agg l => .agg (l.map (AC.kill ks))
  | x => x
def AV.kill (ks : List Nat) : AV → AV
  | .tup l => .tup (l.map (AV.kill1 ks))
  | x => x.kill1 ks
def AO.kill (ks : List Nat) : AO → AO
  | .var l => .var (l.map (AC.kill ks))
  | x => x
def killO (ks : List Nat) (o : Nat → AO) : Nat → AO := fun k => if ks.contains k then .gone else (o k).kill ks
def updO (o : Nat → AO) (k : Nat) (x : AO) : Nat → AO := fun j => if j = k then x else o j
def St.kill (ks : List Nat) (s : St) : St := match ks with | [] => s | _ => ⟨s.t.map (AV.kill ks), killO ks s.o⟩
def AV.refs1 : AV → List Nat
  | .c x => x.ref
  | .agg l => l.flatMap AC.ref
  | .tup _ => []
  | .any => []
def AV.refs : AV → List Nat
  | .tup l => l.flatMap AV.refs1
  | x => x.refs1

def constAV : Value → AV
  | .agg cs => if cs.toList.all Value.oneCell' = true then .agg (cs.toList.map .v) else .any
  | .tuple cs => match cs.toList with | [] => .tup [] | _ => .any
  | x => .c (.v x)
def ev (s : St) : Operand → AV
  | .tmp t => s.t.getD t (.tup [])
  | .const x => constAV x
  | .func f => .c (.fn f 0 fun _ => .junk)
  | .global _ => .any
def put (s : St) (d : Option Nat) (x : AV) : St := match d with | some d => ⟨s.t.set d x, s.o⟩ | none => s
def setO (s : St) (k : Nat) (x : AO) : St := ⟨s.t, updO s.o k x⟩
def setL (l : List AC) (i : Nat) : List AC → List AC
  | [] => l
  | x :: r => setL (l.set i x) (i + 1) r

structure Res where
  ok : Prop
  val : AV
  kills : List Nat := []
  upd : Option (Nat × AO) := none
def Res.bad : Res := ⟨False, .c .junk, [], none⟩
def Res.give (x : AV) : Res := ⟨True, x, [], none⟩
def Res.st (r : Res) (d : Option Nat) (s : St) : St :=
  match r.upd with
  | none => put (s.kill r.kills) d r.val
  | some (k, x) => put (setO (s.kill r.kills) k x) d r.val

def aggB : TypeDesc → Bool
  | .struct _ | .array _ _ => true
  | _ => false
def site (d : Option Nat) : Nat := (d.getD 0) * 8
def takeC (d : TD) (l : List AC) (off : Nat) : AV := if aggB d.und then .agg ((l.drop off).take d.size) else .c (l.getD off .junk)
def fnC (d : TD) (g : Nat → AC) : AV := if aggB d.und then .agg ((List.range d.size).map g) else .c (g 0)
def zeroC (d : TD) : List AC := d.zero.cells.toList.map .v

def fillC (place : Nat → Option (Nat × Nat)) (cells : List AC) : List (Nat × List AC) → Option (List AC)
  | [] => some cells
  | (i, cs) :: rest => match place i with
    | none => none
    | some (off, size) => if cs.length = size ∧ off + cs.length ≤ cells.length then fillC place (setL cells off cs) rest else none
def allParts (s : St) : List (Nat × Operand) → Option (List (Nat × List AC))
  | [] => some []
  | (i, x) :: r => match (ev s x).cells?, allParts s r with
    | some cs, some l => some ((i, cs) :: l)
    | _, _ => none
def capsOf (s : St) : List Operand → Option (List AC)
  | [] => some []
  | x :: r => match ev s x, capsOf s r with
    | .c y, some l => if y.imm = true then some (y :: l) else none
    | _, _ => none
def fieldsOf : TypeDesc → List Field
  | .struct fs => fs.toList
  | _ => []
def placeOf (T : TT) (fs : List Field) (i : Nat) : Option (Nat × Nat) := match fs[i]? with
  | some f => match (T (f.type)) with | some d => some (f.offset, d.size) | none => none
  | none => none
def elemOf (T : TT) (t : TypeId) : Option TD := match (T t) with
  | some d => match d.und with | .slice e => (T e) | _ => none
  | none => none

section
variable (A : Prims) (T : TT)
def intBin (op : BinOp) (k : IntKind) (x y : Int) : Option (Prop × Value) :=
  match op with
  | .add => some (True, .int k (A.add k x y))
  | .sub => some (True, .int k (A.sub k x y))
  | .mul => some (True, .int k (A.mul k x y))
  | .quo => some (A.nz y, .int k (A.quo k x y))
  | .rem => some (A.nz y, .int k (A.rem x y))
  | .eql => some (True, .bool (A.eq x y))
  | .neq => some (True, .bool (A.not (A.eq x y)))
  | .lss => some (True, .bool (A.lt x y))
  | .leq => some (True, .bool (A.le x y))
  | .gtr => some (True, .bool (A.lt y x))
  | .geq => some (True, .bool (A.le y x))
  | _ => none
def strBin (op : BinOp) (x y : ByteArray) : Option (Prop × Value) :=
  match op with
  | .add => some (A.room (A.nadd (A.slen x) (A.slen y)) 1, .string (A.scat x y))
  | .eql => some (True, .bool (A.seq x y))
  | .neq => some (True, .bool (A.not (A.seq x y)))
  | .lss => some (True, .bool (A.slt x y))
  | .leq => some (True, .bool (A.sle x y))
  | .gtr => some (True, .bool (A.not (A.sle x y)))
  | .geq => some (True, .bool (A.not (A.slt x y)))
  | _ => none
def isBoolT (d : Option TD) : Bool := match d with | some d => (match d.und with | .bool => true | _ => false) | none => false
def binA (d : Option TD) (op : BinOp) (x y : AV) : Res :=
  match x, y with
  | .c (.v (.int k a)), .c (.v (.int k' b)) =>
    match op with
    | .shl => ⟨A.nneg b, .c (.v (.int k (A.shl k a b))), [], none⟩
    | .shr => ⟨A.nneg b, .c (.v (.int k (A.shr k a b))), [], none⟩
    | _ => if k = k' then (match intBin A op k a b with | some (p, v) => ⟨p, .c (.v v), [], none⟩ | none => .bad) else .bad
  | .c (.v (.string a)), .c (.v (.string b)) => match strBin A op a b with | some (p, v) => ⟨p, .c (.v v), [], none⟩ | none => .bad
  | .c (.v (.bool a)), .c (.v (.bool b)) => match op with
    | .eql => ⟨isBoolT d = true, .c (.v (.bool (A.beq a b))), [], none⟩
    | .neq => ⟨isBoolT d = true, .c (.v (.bool (A.not (A.beq a b)))), [], none⟩
    | _ => .bad
  | _, _ => .bad
/-- structs of numbers, strings, truth values and such structs are compared field by field -/
def eqF : Nat → List AC → List AC → List Field → Option Bool
  | 0, _, _, _ => none
  | d + 1, l, l', fs => fs.foldr (fun (f : Field) (r : Option Bool) => match r, T f.type with
    | some r, some td => match td.und, l[f.offset]?, l'[f.offset]? with
      | .int _, some (.v (.int k a)), some (.v (.int k' b)) => if k = k' then some (A.band (A.eq a b) r) else none
      | .bool, some (.v (.bool a)), some (.v (.bool b)) => some (A.band (A.beq a b) r)
      | .string, some (.v (.string a)), some (.v (.string b)) => some (A.band (A.seq a b) r)
      | .struct gs, _, _ => match td.eqs, eqF d ((l.drop f.offset).take td.size) ((l'.drop f.offset).take td.size) gs.toList with
        | true, some b => some (A.band b r)
        | _, _ => none
      | _, _, _ => none
    | _, _ => none) (some true)
def aggEq (d : Option TD) (op : BinOp) (l l' : List AC) : Res :=
  match d with
  | some d => match d.eqs, eqF A T 8 l l' (fieldsOf d.und), op with
    | true, some b, .eql => ⟨(match d.und with | .struct _ => True | _ => False), .c (.v (.bool b)), [], none⟩
    | true, some b, .neq => ⟨(match d.und with | .struct _ => True | _ => False), .c (.v (.bool (A.not b))), [], none⟩
    | _, _, _ => .bad
  | none => .bad
def unA (op : UnOp) (x : AV) : Res :=
  match op, x with
  | .not, .c (.v (.bool b)) => .give (.c (.v (.bool (A.not b))))
  | .neg, .c (.v (.int k n)) => .give (.c (.v (.int k (A.sub k 0 n))))
  | _, _ => .bad
def lenA (d : Option TD) (x : AV) : Res :=
  match d with
  | none => .bad
  | some d => match d.und, x with
    | .slice _, .c (.bs n _ _) => .give (.c (.v (.int .i64 (A.ofN n))))
    | .slice _, .c (.os _ _ n) => .give (.c (.v (.int .i64 (A.ofN n))))
    | .string, .c (.v (.string b)) => .give (.c (.v (.int .i64 (A.ofN (A.slen b)))))
    | .slice _, .c (.v (.slice none n _)) => .give (.c (.v (.int .i64 (A.ofN n))))
    | _, _ => .bad
def firstT (l : Array TypeId) : Option TD := match l[0]? with | some t => (T t) | none => none
def foldInt (f : Int → Int → Int) (k : IntKind) : Int → List AV → Option Int
  | a, [] => some a
  | a, .c (.v (.int _ b)) :: r => foldInt f k (f a b) r
  | _, _ => none
def convA (src dst : TypeId) (d : Option Nat) (x : AV) (o : Nat → AO) : Res :=
  match (T src), (T dst) with
  | some s, some t => match t.und, x with
    | .int k, .c (.v (.int _ n)) => .give (.c (.v (.int k (A.conv k n))))
    | .string, .c (.v (.string b)) => .give (.c (.v (.string b)))
    | _, _ => .bad
  | _, _ => .bad
/-- what is appended: so many elements, of so many cells, and these -/
def srcOf (sz : Nat) (o : Nat → AO) : AV → Option (Nat × Nat × (Nat → Nat → AC))
  | .c (.bs n sz' get) => some (n, sz', get)
  | .c (.os k off n) => match o k with
    | .arr _ _ sz' get => some (n, sz', fun i j => get (off + i) j)
    | _ => none
  | .c (.v (.string b)) => some (A.slen b, 1, fun i _ => .v (.int .u8 (A.sat b i)))
  | .c (.v (.slice none n _)) => match n with | 0 => some (0, sz, fun _ _ => .junk) | _ => none
  | _ => none
def joinC (n : Nat) (get get' : Nat → Nat → AC) : Nat → Nat → AC := fun i j => if i < n then get i j else get' (i - n) j
def appTo (d : TD) (k : Nat) (N : Nat) (get : Nat → Nat → AC) (n sz : Nat) (get' : Nat → Nat → AC) : Res :=
  ⟨sz = d.size ∧ 0 < d.size ∧ 0 < d.bytes ∧ (zeroC d).length = d.size ∧ A.room (A.nadd N n) d.bytes, .c (.os k 0 (A.nadd N n)), [k], some (k, .arr true (A.nadd N n) d.size (joinC N get get'))⟩
def srcT (d : TD) (ats : Array TypeId) (y : AV) : Bool := match ats[1]? with
  | some t => match T t with
    | some td => match td.und, y with
      | .slice _, .c (.bs _ _ _) => true
      | .slice _, .c (.os _ _ _) => true
      | .slice _, .c (.v (.slice _ _ _)) => true
      | .string, .c (.v (.string _)) => d.size == 1
      | _, _ => false
    | none => false
  | none => false
def appA (ats : Array TypeId) (dst : Option Nat) (x y : AV) (o : Nat → AO) : Res :=
  match ats[0]? with
  | none => .bad
  | some t => match elemOf T t with
    | none => .bad
    | some d => match srcT T d ats y with
      | false => .bad
      | true => match srcOf A d.size o y with
        | none => .bad
        | some (n, sz, get') => match x with
          | .c (.os k off n0) => match o k with
            | .arr m N sz0 get => match off, m, sz0 == d.size with
              | 0, true, true => { appTo A d k N get n sz get' with ok := n0 = N ∧ (appTo A d k N get n sz get').ok }
              | _, _, _ => .bad
            | _ => .bad
          | .c (.v (.slice none n0 c0)) => match n0, c0 with
            | 0, 0 => appTo A d (site dst) 0 (fun _ _ => .junk) n sz get'
            | _, _ => .bad
          | _ => .bad
def idxB (d : Option TD) (i : AV) (n sz : Nat) (get : Nat → Nat → AC) : Res :=
  match d, i with
  | some d, .c (.v (.int _ i)) => ⟨A.inR i n ∧ sz = d.size, .c (.bp sz (get (A.toN i))), [], none⟩
  | _, _ => .bad
def idxO (d : Option TD) (i : AV) (k off n sz : Nat) : Res :=
  match d, i with
  | some d, .c (.v (.int _ i)) => ⟨A.inR i n ∧ sz = d.size, .c (.ep k (A.nadd off (A.toN i)) 0), [], none⟩
  | _, _ => .bad
def bnd (q : Int) : Option AV → Option Int
  | none => some q
  | some (.c (.v (.int _ l))) => some l
  | _ => none
def subB (d : Option TD) (n sz : Nat) (get : Nat → Nat → AC) (l h : Option Int) : Res :=
  match d, l, h with
  | some d, some l, some h => ⟨A.upTo h n ∧ A.upTo l (A.toN h) ∧ sz = d.size, .c (.bs (A.nsub (A.toN h) (A.toN l)) sz fun i j => get (A.nadd (A.toN l) i) j), [], none⟩
  | _, _, _ => .bad
def subO (d : Option TD) (k off n sz : Nat) (low : Bool) (l h : Option Int) : Res :=
  match d, l, h with
  | some d, some l, some h => ⟨A.upTo h n ∧ A.upTo l (A.toN h) ∧ (low = false → A.inR l n) ∧ sz = d.size, .c (.os k (A.nadd off (A.toN l)) (A.nsub (A.toN h) (A.toN l))), [], none⟩
  | _, _, _ => .bad
def evalOp (o : Oper) (s : St) : Res :=
  match o.op with
  | .move x | .assign x => .give (ev s x)
  | .pick c a b => match ev s c with
    | .c (.v (.bool true)) => .give (ev s a)
    | .c (.v (.bool false)) => .give (ev s b)
    | _ => .bad
  | .box e x => match (ev s x).cells? with
    | some cs => ⟨True, .c (.ptr (site o.dst) 0), [site o.dst], some (site o.dst, .var (cs.map (AC.kill [site o.dst])))⟩
    | none => .bad
  | .alloc e => match (T e) with
    | some d => ⟨True, .c (.ptr (site o.dst) 0), [site o.dst], some (site o.dst, .var (zeroC d))⟩
    | none => .bad
  | .build t parts => match (T t) with
    | some d => match allParts s parts.toList with
      | some ps => match fillC (placeOf T (fieldsOf d.und)) (zeroC d) ps with
        | some cs => ⟨(match d.und with | .struct _ => (fieldsOf d.und).all (fun f => ((T (f.type))).isSome) = true | _ => False), .agg cs, [], none⟩
        | none => .bad
      | none => .bad
    | none => .bad
  | .field t x f => match (T t), ev s x with
    | some d, .agg l => match (fieldsOf d.und)[f]? with
      | some fd => match (T (fd.type)) with
        | some fdt => ⟨fd.offset + fdt.size ≤ l.length ∧ 0 < fdt.size, takeC fdt l fd.offset, [], none⟩
        | none => .bad
      | none => .bad
    | _, _ => .bad
  | .fieldAddr t x f => match (T t) with
    | some d => match (fieldsOf d.und)[f]? with
      | some fd => match (T (fd.type)) with
        | some fdt => match ev s x with
          | .c (.ptr k off) => ⟨0 < fdt.size, .c (.ptr k (off + fd.offset)), [], none⟩
          | .c (.ep k i j) => ⟨0 < fdt.size, .c (.ep k i (j + fd.offset)), [], none⟩
          | .c (.bp n get) => ⟨0 < fdt.size ∧ fd.offset ≤ n, .c (.bp (n - fd.offset) fun j => get (fd.offset + j)), [], none⟩
          | _ => .bad
        | none => .bad
      | none => .bad
    | none => .bad
  | .load t x => match (T t) with
    | some d => match ev s x with
      | .c (.ptr k off) => match s.o k with
        | .var l => ⟨off + d.size ≤ l.length ∧ 0 < d.size, takeC d l off, [], none⟩
        | _ => .bad
      | .c (.ep k i j) => match s.o k with
        | .arr _ n sz get => ⟨i < n ∧ j + d.size ≤ sz ∧ 0 < d.size, fnC d fun q => get i (j + q), [], none⟩
        | _ => .bad
      | .c (.bp n get) => ⟨d.size ≤ n ∧ 0 < d.size, fnC d get, [], none⟩
      | _ => .bad
    | none => .bad
  | .store t x y => match (T t), (ev s y).cells? with
    | some d, some cs => match ev s x with
      | .c (.ptr k off) => match s.o k with
        | .var l => ⟨off + cs.length ≤ l.length ∧ cs.length = d.size ∧ cs.all AC.whole = true, .tup [], [], some (k, .var (setL l off cs))⟩
        | _ => .bad
      | .c (.ep k i j) => match s.o k with
        | .arr m n sz get => ⟨m = true ∧ i < n ∧ j + cs.length ≤ sz ∧ cs.length = d.size ∧ cs.all AC.imm = true, .tup [], [], some (k, .arr m n sz fun a b => if a = i ∧ j ≤ b ∧ b < j + cs.length then cs.getD (b - j) .junk else get a b)⟩
        | _ => .bad
      | _ => .bad
    | _, _ => .bad
  | .nilCheck x => match ev s x with
    | .c (.ptr k a) => .give (.c (.ptr k a))
    | .c (.ep k a b) => .give (.c (.ep k a b))
    | .c (.bp n g) => .give (.c (.bp n g))
    | _ => .bad
  | .binOp op t x y _ => match ev s x, ev s y with
    | .agg l, .agg l' => aggEq A T (T t) op l l'
    | p, q => binA A ((T t)) op p q
  | .unOp op _ x => unA A op (ev s x)
  | .convert src dst x => convA A T src dst o.dst (ev s x) s.o
  | .indexAddr t x i => match ev s x with
    | .c (.bs n sz get) => idxB A (elemOf T t) (ev s i) n sz get
    | .c (.os k off n) => match s.o k with
      | .arr _ _ sz _ => idxO A (elemOf T t) (ev s i) k off n sz
      | _ => .bad
    | _ => .bad
  | .index t x i => match (T t) with
    | some d => match d.und, ev s x, ev s i with
      | .string, .c (.v (.string b)), .c (.v (.int _ i)) => ⟨A.inR i (A.slen b), .c (.v (.int .u8 (A.sat b (A.toN i)))), [], none⟩
      | _, _, _ => .bad
    | none => .bad
  | .extract x i => match ev s x with
    | .tup l => match l[i]? with
      | some v => .give v
      | none => .bad
    | _ => .bad
  | .makeFunc (.func f) first caps => match first.toList, capsOf s caps.toList with
    | [], some l => ⟨True, .c (.fn f l.length fun j => l.getD j .junk), [], none⟩
    | _, _ => .bad
  | .makeSlice t x y => match elemOf T t, ev s x, ev s y with
    | some d, .c (.v (.int _ n)), .c (.v (.int _ m)) => ⟨n = m ∧ A.nneg n ∧ 0 < d.size ∧ 0 < d.bytes ∧ (zeroC d).length = d.size ∧ A.room (A.toN n) d.bytes, .c (.os (site o.dst) 0 (A.toN n)), [site o.dst], some (site o.dst, .arr true (A.toN n) d.size fun _ j => (zeroC d).getD j .junk)⟩
    | _, _, _ => .bad
  | .buildSlice t len parts => match elemOf T t with
    | some d => match allParts s parts.toList with
      | some ps => match fillC (fun i => some (i * d.size, d.size)) ((List.replicate len (zeroC d)).flatten) ps with
        | some cs => ⟨cs.all AC.imm = true ∧ 0 < d.size ∧ (zeroC d).length = d.size ∧ len * d.size ≤ 16777216, .c (.os (site o.dst) 0 len), [site o.dst], some (site o.dst, .arr true len d.size fun i j => cs.getD (i * d.size + j) .junk)⟩
        | none => .bad
      | none => .bad
    | none => .bad
  | .slice t x lo hi mx => match (T t) with
    | some d => match d.und, ev s x, lo.map (ev s), hi.map (ev s), mx with
      | .string, .c (.v (.string b)), none, none, none => .give (.c (.v (.string (A.ssub b 0 (A.slen b)))))
      | .string, .c (.v (.string b)), some (.c (.v (.int _ l))), none, none => ⟨A.upTo l (A.slen b), .c (.v (.string (A.ssub b (A.toN l) (A.slen b)))), [], none⟩
      | .string, .c (.v (.string b)), none, some (.c (.v (.int _ h))), none => ⟨A.upTo h (A.slen b), .c (.v (.string (A.ssub b 0 (A.toN h)))), [], none⟩
      | .string, .c (.v (.string b)), some (.c (.v (.int _ l))), some (.c (.v (.int _ h))), none => ⟨A.upTo h (A.slen b) ∧ A.upTo l (A.toN h), .c (.v (.string (A.ssub b (A.toN l) (A.toN h)))), [], none⟩
      | .slice _, .c (.bs n sz get), l, h, none => subB A (elemOf T t) n sz get (bnd 0 l) (bnd (A.ofN n) h)
      | .slice _, .c (.os k off n), l, h, none => match s.o k with
        | .arr _ _ sz _ => subO A (elemOf T t) k off n sz l.isNone (bnd 0 l) (bnd (A.ofN n) h)
        | _ => .bad
      | _, _, _, _, _ => .bad
    | none => .bad
  | .call c => match c.callee, c.args.toList.map (ev s) with
    | .builtin .len, [x] => lenA A (firstT T c.argTypes) x
    | .builtin .append, [x, y] => appA A T c.argTypes o.dst x y s.o
    | .builtin .min, .c (.v (.int k a)) :: r => match foldInt A.imin k a r with | some v => .give (.c (.v (.int k v))) | none => .bad
    | .builtin .max, .c (.v (.int k a)) :: r => match foldInt A.imax k a r with | some v => .give (.c (.v (.int k v))) | none => .bad
    | _, _ => .bad
  | _ => .bad
end
def RelI (I : Nat → Prop) (w : World) : AC → Value → Prop
  | .v x, y => y = x ∧ x.oneCell' = true
  | .bs n sz get, y => ∃ a cap, y = .slice a n cap ∧ n ≤ cap ∧ (0 < n → ∃ b off, a = some ⟨b, off, none⟩ ∧ I b ∧ ∀ i, i < n → ∀ j, j < sz → ∃ u, w.cell? ⟨b, off + (i * sz + j), none⟩ = some u ∧ RelI I w (get i j) u)
  | .bp n get, y => ∃ b off, y = .pointer (some ⟨b, off, none⟩) ∧ I b ∧ ∀ j, j < n → ∃ u, w.cell? ⟨b, off + j, none⟩ = some u ∧ RelI I w (get j) u
  | .fn f n caps, y => ∃ cs : Array Value, y = .func (.func f) #[] cs ∧ cs.size = n ∧ ∀ j, j < n → ∃ u, cs[j]? = some u ∧ RelI I w (caps j) u
  | .os _ _ _, _ => False
  | .ptr _ _, _ => False
  | .ep _ _ _, _ => False
  | .junk, y => y.oneCell' = true
def RelC (L : Nat → Option (Nat × Nat)) (I : Nat → Prop) (w : World) (o : Nat → AO) : AC → Value → Prop
  | .os k off n, y => ∃ m N sz get, o k = .arr m N sz get ∧ ((L k = none ∧ N = 0 ∧ n = 0 ∧ off = 0 ∧ y = .slice none 0 0) ∨ ∃ b base cap, L k = some (b, base) ∧ y = .slice (some ⟨b, base + off * sz, none⟩) n cap ∧ off + n ≤ N ∧ n ≤ cap ∧ ∃ C e, w.heap[b]? = some (.cells C e (0, 0)) ∧ base + (off + cap) * sz ≤ C.size)
  | .ptr k off, y => ∃ l b, o k = .var l ∧ L k = some (b, 0) ∧ y = .pointer (some ⟨b, off, none⟩)
  | .ep k i j, y => ∃ m N sz get b base, o k = .arr m N sz get ∧ L k = some (b, base) ∧ y = .pointer (some ⟨b, base + (i * sz + j), none⟩)
  | x, y => RelI I w x y
def Rel1 (R : AC → Value → Prop) : AV → Value → Prop
  | .c x, y => R x y
  | .agg l, y => ∃ ys : Array Value, y = .agg ys ∧ ys.size = l.length ∧ ∀ (i : Nat) x, l[i]? = some x → ∃ u, ys[i]? = some u ∧ R x u
  | .tup _, _ => False
  | .any, _ => False
def RelV (R : AC → Value → Prop) : AV → Value → Prop
  | .tup l, y => ∃ ys : Array Value, y = .tuple ys ∧ ys.size = l.length ∧ ∀ (i : Nat) x, l[i]? = some x → ∃ u, ys[i]? = some u ∧ Rel1 R x u
  | .any, _ => True
  | x, y => Rel1 R x y
structure HRel (L : Nat → Option (Nat × Nat)) (I : Nat → Prop) (w : World) (o : Nat → AO) : Prop where
  var : ∀ k l, o k = .var l → ∃ b C e, L k = some (b, 0) ∧ ¬ I b ∧ w.heap[b]? = some (.cells C e (0, 0)) ∧ C.size = l.length ∧ ∀ (i : Nat) x, l[i]? = some x → ∃ u, C[i]? = some u ∧ RelC L I w o x u
  arr : ∀ k m N sz get, o k = .arr m N sz get → (L k = none ∧ N = 0) ∨ ∃ b base C e, L k = some (b, base) ∧ (m = true → ¬ I b) ∧ w.heap[b]? = some (.cells C e (0, 0)) ∧ base + N * sz ≤ C.size ∧ ∀ i, i < N → ∀ j, j < sz → ∃ u, C[base + (i * sz + j)]? = some u ∧ RelI I w (get i j) u
  inj : ∀ k k' b x x', o k ≠ .gone → o k' ≠ .gone → L k = some (b, x) → L k' = some (b, x') → k = k'
  imm : ∀ b, I b → b < w.heap.size
def RelT (R : AC → Value → Prop) (t : List AV) (tm : Array Value) : Prop := tm.size = t.length ∧ ∀ (i : Nat) x, t[i]? = some x → ∃ u, tm[i]? = some u ∧ RelV R x u
structure RelL (w0 : World) (I0 : Nat → Prop) (L : Nat → Option (Nat × Nat)) (I : Nat → Prop) (s : St) (a : Act) (w : World) : Prop where
  heap : HRel L I w s.o
  tmps : RelT (RelC L I w s.o) s.t a.tmps
  defers : a.defers = []
  below : Below w0.heap.size w0 w
  old : ∀ b, I0 b → I b
  only : ∀ b, I b → b < w0.heap.size → I0 b
  new : ∀ k b x, s.o k ≠ .gone → L k = some (b, x) → w0.heap.size ≤ b
def Rel (w0 : World) (I0 : Nat → Prop) (s : St) (a : Act) (w : World) : Prop := ∃ L I, RelL w0 I0 L I s a w

/-- a call of f on these arguments returns this -/
def Fun (P : Program) (f : FuncId) (args : List AV) (r : AV) : Prop :=
  (∃ fn, P.funcs[f]? = some fn ∧ (fn.name == "runtime.NumGoroutine") = false ∧ fn.body.isNone = false) ∧
  ∀ (vals : Array Value) (w : World) (I : Nat → Prop), (∀ b, I b → b < w.heap.size) → RelT (RelI I w) args vals →
    Calls P f vals w fun e w' => ∃ v I', e = .returned v ∧ (∀ b, I b → I' b) ∧ (∀ b, I' b → b < w'.heap.size ∧ (b < w.heap.size → I b)) ∧ RelV (RelI I' w') r v ∧ Below w.heap.size w w'

/-- what reads as x reads as y -/
def AV.le (x y : AV) : Prop := ∀ I w v, RelV (RelI I w) x v → RelV (RelI I w) y v
theorem AV.le_refl (x : AV) : x.le x := fun _ _ _ h => h
def AV.les : List AV → List AV → Prop
  | [], [] => True
  | x :: r, y :: q => x.le y ∧ AV.les r q
  | _, _ => False
/-- what a state says, another says as well -/
def St.le (s s' : St) : Prop := ∀ w0 I0 a w, Rel w0 I0 s a w → Rel w0 I0 s' a w
theorem St.le_refl (s : St) : s.le s := fun _ _ _ _ h => h

/-- an own slice lent for a call -/
def lendC (o : Nat → AO) : AC → Option AC
  | .os k off n => match o k with
    | .arr _ _ sz get => some (.bs n sz fun i j => get (off + i) j)
    | _ => none
  | .ptr _ _ | .ep _ _ _ | .junk => none
  | x => some x
def lendL (o : Nat → AO) : List AC → Option (List AC)
  | [] => some []
  | x :: r => match lendC o x, lendL o r with
    | some y, some q => some (y :: q)
    | _, _ => none
def lend1 (o : Nat → AO) : AV → Option AV
  | .c x => match lendC o x with | some y => some (.c y) | none => none
  | .agg l => match lendL o l with | some q => some (.agg q) | none => none
  | .tup _ => none
  | .any => none
def lendAll (o : Nat → AO) : List AV → Option (List AV)
  | [] => some []
  | x :: r => match lend1 o x, lendAll o r with
    | some y, some q => some (y :: q)
    | _, _ => none
def lend (o : Nat → AO) : AV → Option AV
  | .tup l => match lendAll o l with | some q => some (.tup q) | none => none
  | x => lend1 o x

/-- nothing but plain cells -/
def AC.flat : AC → Bool
  | .v _ => true
  | _ => false
def AV.flat1 : AV → Bool
  | .c x => x.flat
  | .agg l => l.all AC.flat
  | .tup _ => false
  | .any => false
def AV.flat : AV → Bool
  | .tup l => l.all AV.flat1
  | x => x.flat1
def AO.freeze : AO → AO
  | .arr _ n sz get => .arr false n sz get
  | x => x
def freezeO (ks : List Nat) (o : Nat → AO) : Nat → AO := fun k => if ks.contains k then (o k).freeze else o k
def St.freeze (s : St) (ks : List Nat) : St := match ks with | [] => s | _ => ⟨s.t, freezeO ks s.o⟩
def afterCall (s : St) (args : List AV) (r : AV) : St := if r.flat then s else s.freeze (args.flatMap AV.refs)
def boolOf : AV → Option Bool
  | .c (.v (.bool b)) => some b
  | _ => none
def yld (ops : List Oper) (s : St) (j : Nat) : Option (Nat × Bool) :=
  match ops[j]? with
  | some o => match o.dst with
    | some d => match boolOf (s.t.getD d (.tup [])) with
      | some b => some (d, b)
      | none => none
    | none => none
  | none => none
/-- the guard's operation was skipped: nothing is yielded -/
def deadG (ops : List Oper) (s : St) (j : Nat) : Bool :=
  match ops[j]? with
  | some o => match o.dst with
    | some d => match s.t.getD d (.tup []) with
      | .tup [] => true
      | _ => false
    | none => false
  | none => false
def setTB (s : St) (d : Nat) (b : Bool) : St := ⟨s.t.set d (.c (.v (.bool b))), s.o⟩
def callOf (o : Oper) (s : St) : Option (FuncId × List AV) :=
  match o.op with
  | .call c => match c.callee with
    | .value x => match ev s x with
      | .c (.fn f n caps) => if (List.range n).all (fun j => (caps j).imm) = true then some (f, c.args.toList.map (ev s) ++ (List.range n).map fun j => .c (caps j)) else none
      | _ => none
    | _ => none
  | _ => none
section
variable (A : Prims) (P : Program) (T : TT)
/-- one operation, that is wanted -/
def wpOne (o : Oper) (s : St) (K : St → Prop) : Prop :=
  match callOf o s with
  | some (f, args) => match lendAll s.o args with
    | some l => ∃ l' r, AV.les l l' ∧ Fun P f l' r ∧ K (put (afterCall s args r) o.dst r)
    | none => False
  | none => (evalOp A T o s).ok ∧ K ((evalOp A T o s).st o.dst s)
def wpOps (all : List Oper) : List Oper → St → (St → Prop) → Prop
  | [], s, K => K s
  | o :: r, s, K => match o.guard with
    | none => wpOne A P T o s fun s' => wpOps all r s' K
    | some (j, want) => match deadG all s j with
      | true => wpOps all r (put s o.dst (.tup [])) K
      | false => match yld all s j with
        | some (d, b) => (b = want → wpOne A P T o (setTB s d want) fun s' => wpOps all r s' K) ∧
            (b = !want → wpOps all r (put (setTB s d (!want)) o.dst (.tup [])) K)
        | none => False
def iter (f : St → (Exit → St → Prop) → Prop) : Nat → St → (Exit → St → Prop) → Prop
  | 0, _, _ => False
  | n + 1, s, K => f s fun e s' => match e with
    | .normal => ∃ s'', s'.le s'' ∧ iter f n s'' K
    | e => K e s'
def tmpOf : Operand → Option Nat
  | .tmp t => some t
  | _ => none
def setB (s : St) (c : Operand) (b : Bool) : St := match tmpOf c with | some t => setTB s t b | none => s
end
theorem RelI.mono {I I' : Nat → Prop} {w w' : World} (h : ∀ b, I b → I' b ∧ w'.heap[b]? = w.heap[b]?) : ∀ (x : AC) (y : Value), RelI I w x y → RelI I' w' x y := by
  intro x
  induction x with
  | v x => intro y hy; exact hy
  | bs n sz get ih =>
    intro y hy
    obtain ⟨a, cap, rfl, hnc, hc⟩ := hy
    refine ⟨a, cap, rfl, hnc, fun hn => ?_⟩
    obtain ⟨b, off, ha, hb, hcell⟩ := hc hn
    refine ⟨b, off, ha, (h b hb).1, fun i hi j hj => ?_⟩
    obtain ⟨u, hu, hr⟩ := hcell i hi j hj
    exact ⟨u, by rw [World.cell?_of_block (w := w) (h b hb).2]; exact hu, ih i j u hr⟩
  | bp n get ih =>
    intro y hy
    obtain ⟨b, off, hy, hb, hcell⟩ := hy
    refine ⟨b, off, hy, (h b hb).1, fun j hj => ?_⟩
    obtain ⟨u, hu, hr⟩ := hcell j hj
    exact ⟨u, by rw [World.cell?_of_block (w := w) (h b hb).2]; exact hu, ih j u hr⟩
  | fn f n caps ih =>
    intro y hy
    obtain ⟨cs, hy, hs, hc⟩ := hy
    refine ⟨cs, hy, hs, fun j hj => ?_⟩
    obtain ⟨u, hu, hr⟩ := hc j hj
    exact ⟨u, hu, ih j u hr⟩
  | os => intro y hy; exact hy
  | ptr => intro y hy; exact hy
  | ep => intro y hy; exact hy
  | junk => intro y hy; exact hy

def AO.like : AO → AO → Prop
  | .var l, .var l' => l.length = l'.length
  | .arr _ n sz _, .arr _ n' sz' _ => n = n' ∧ sz = sz'
  | _, _ => False
theorem AO.like_refl (x : AO) (h : x ≠ .gone) : x.like x := by cases x <;> simp_all [AO.like]
theorem AO.like_kill (x : AO) (ks : List Nat) (h : x ≠ .gone) : x.like (x.kill ks) := by cases x <;> simp_all [AO.like, AO.kill]

theorem RelI.one' {I : Nat → Prop} {w : World} {x : AC} {y : Value} (h : RelI I w x y) : y.oneCell' = true := by
  cases x with
  | v x => obtain ⟨rfl, h1⟩ := h; exact h1
  | bs n sz get => obtain ⟨_, _, rfl, _⟩ := h; rfl
  | bp n get => obtain ⟨_, _, rfl, _⟩ := h; rfl
  | fn f n caps => obtain ⟨_, rfl, _⟩ := h; rfl
  | os => exact h.elim
  | ptr => exact h.elim
  | ep => exact h.elim
  | junk => exact h
theorem RelC.one' {L : Nat → Option (Nat × Nat)} {I : Nat → Prop} {w : World} {ob : Nat → AO} {x : AC} {y : Value} (h : RelC L I w ob x y) : y.oneCell' = true := by
  cases x with
  | os k off n =>
    obtain ⟨_, _, _, _, _, h⟩ := h
    rcases h with ⟨_, _, _, _, rfl⟩ | ⟨_, _, _, _, rfl, _⟩ <;> rfl
  | ptr k off => obtain ⟨_, _, _, _, rfl⟩ := h; rfl
  | ep k i j => obtain ⟨_, _, _, _, _, _, _, _, rfl⟩ := h; rfl
  | v x => exact RelI.one' (I := I) (w := w) (x := .v x) h
  | bs n sz g => exact RelI.one' (I := I) (w := w) (x := .bs n sz g) h
  | bp n g => exact RelI.one' (I := I) (w := w) (x := .bp n g) h
  | fn f n g => exact RelI.one' (I := I) (w := w) (x := .fn f n g) h
  | junk => exact h
structure Keeps (ks : List Nat) (L : Nat → Option (Nat × Nat)) (I : Nat → Prop) (w : World) (o : Nat → AO) (L' : Nat → Option (Nat × Nat)) (I' : Nat → Prop) (w' : World) (o' : Nat → AO) : Prop where
  imm : ∀ b, I b → I' b ∧ w'.heap[b]? = w.heap[b]?
  obj : ∀ k, ks.contains k = false → o k ≠ .gone → L' k = L k ∧ (o k).like (o' k)
  blk : ∀ k, ks.contains k = false → o k ≠ .gone → ∀ b x C e, L k = some (b, x) → w.heap[b]? = some (.cells C e (0, 0)) → ∃ C', w'.heap[b]? = some (.cells C' e (0, 0)) ∧ C'.size = C.size

section
variable {ks : List Nat} {L L' : Nat → Option (Nat × Nat)} {I I' : Nat → Prop} {w w' : World} {o o' : Nat → AO}
theorem RelC.step (K : Keeps ks L I w o L' I' w' o') (x : AC) (y : Value) (h : RelC L I w o x y) : RelC L' I' w' o' (x.kill ks) y := by
  cases x with
  | v x => exact h
  | bs n sz get => exact RelI.mono K.imm _ _ h
  | bp n get => exact RelI.mono K.imm _ _ h
  | fn f n caps => exact RelI.mono K.imm _ _ h
  | junk => exact h
  | os k off n =>
    by_cases hk : ks.contains k = true
    · simp only [AC.kill, hk, if_true]; exact h.one'
    · have hk' : ks.contains k = false := by simpa using hk
      simp only [AC.kill, hk', Bool.false_eq_true, if_false]
      obtain ⟨m, N, sz, get, ho, hh⟩ := h
      obtain ⟨hL, hlike⟩ := K.obj k hk' (by rw [ho]; simp)
      rw [ho] at hlike
      cases ho' : o' k with
      | gone => rw [ho'] at hlike; exact hlike.elim
      | var l => rw [ho'] at hlike; exact hlike.elim
      | arr m' N' sz' get' =>
        rw [ho'] at hlike
        obtain ⟨rfl, rfl⟩ := hlike
        refine ⟨m', N, sz, get', ho', ?_⟩
        rw [hL]
        rcases hh with hh | ⟨b, base, cap, h1, h2, h3, h4, C, e, h5, h6⟩
        · exact .inl hh
        · obtain ⟨C', hC', hs⟩ := K.blk k hk' (by rw [ho]; simp) b base C e h1 h5
          exact .inr ⟨b, base, cap, h1, h2, h3, h4, C', e, hC', by omega⟩
  | ptr k off =>
    by_cases hk : ks.contains k = true
    · simp only [AC.kill, hk, if_true]; exact h.one'
    · have hk' : ks.contains k = false := by simpa using hk
      simp only [AC.kill, hk', Bool.false_eq_true, if_false]
      obtain ⟨l, b, ho, hL0, hy⟩ := h
      obtain ⟨hL, hlike⟩ := K.obj k hk' (by rw [ho]; simp)
      rw [ho] at hlike
      cases ho' : o' k with
      | gone => rw [ho'] at hlike; exact hlike.elim
      | var l' => exact ⟨l', b, ho', by rw [hL]; exact hL0, hy⟩
      | arr m' N' sz' get' => rw [ho'] at hlike; exact hlike.elim
  | ep k i j =>
    by_cases hk : ks.contains k = true
    · simp only [AC.kill, hk, if_true]; exact h.one'
    · have hk' : ks.contains k = false := by simpa using hk
      simp only [AC.kill, hk', Bool.false_eq_true, if_false]
      obtain ⟨m, N, sz, get, b, base, ho, hL0, hy⟩ := h
      obtain ⟨hL, hlike⟩ := K.obj k hk' (by rw [ho]; simp)
      rw [ho] at hlike
      cases ho' : o' k with
      | gone => rw [ho'] at hlike; exact hlike.elim
      | var l => rw [ho'] at hlike; exact hlike.elim
      | arr m' N' sz' get' =>
        rw [ho'] at hlike
        obtain ⟨rfl, rfl⟩ := hlike
        exact ⟨m', N, sz, get', b, base, ho', by rw [hL]; exact hL0, hy⟩
theorem Rel1.step (K : Keeps ks L I w o L' I' w' o') (x : AV) (y : Value) (h : Rel1 (RelC L I w o) x y) : Rel1 (RelC L' I' w' o') (x.kill1 ks) y := by
  cases x with
  | c x => exact RelC.step K x y h
  | agg l =>
    obtain ⟨ys, rfl, hs, hc⟩ := h
    refine ⟨ys, rfl, by simpa using hs, fun i x hx => ?_⟩
    simp only [List.getElem?_map, Option.map_eq_some_iff] at hx
    obtain ⟨x0, hx0, rfl⟩ := hx
    obtain ⟨u, hu, hr⟩ := hc i x0 hx0
    exact ⟨u, hu, RelC.step K _ _ hr⟩
  | tup l => exact h.elim
  | any => exact h.elim

theorem RelV.step (K : Keeps ks L I w o L' I' w' o') (x : AV) (y : Value) (h : RelV (RelC L I w o) x y) : RelV (RelC L' I' w' o') (x.kill ks) y := by
  cases x with
  | c x => exact RelC.step K x y h
  | agg l => exact Rel1.step K (.agg l) y h
  | tup l =>
    obtain ⟨ys, rfl, hs, hc⟩ := h
    refine ⟨ys, rfl, by simpa using hs, fun i x hx => ?_⟩
    simp only [List.getElem?_map, Option.map_eq_some_iff] at hx
    obtain ⟨x0, hx0, rfl⟩ := hx
    obtain ⟨u, hu, hr⟩ := hc i x0 hx0
    exact ⟨u, hu, Rel1.step K _ _ hr⟩
  | any => trivial
theorem RelT.step (K : Keeps ks L I w o L' I' w' o') {t : List AV} {tm : Array Value} (h : RelT (RelC L I w o) t tm) : RelT (RelC L' I' w' o') (t.map (AV.kill ks)) tm := by
  refine ⟨by simpa using h.1, fun i x hx => ?_⟩
  simp only [List.getElem?_map, Option.map_eq_some_iff] at hx
  obtain ⟨x0, hx0, rfl⟩ := hx
  obtain ⟨u, hu, hr⟩ := h.2 i x0 hx0
  exact ⟨u, hu, RelV.step K _ _ hr⟩
theorem AC.kill_nil (x : AC) : x.kill [] = x := by cases x <;> simp [AC.kill]
theorem AC.kill_nil' : AC.kill [] = id := funext AC.kill_nil
theorem AV.kill1_nil (x : AV) : x.kill1 [] = x := by cases x <;> simp [AV.kill1, AC.kill_nil, AC.kill_nil']
theorem AV.kill1_nil' : AV.kill1 [] = id := funext AV.kill1_nil
theorem AV.kill_nil (x : AV) : x.kill [] = x := by cases x <;> simp [AV.kill, AV.kill1_nil, AV.kill1_nil']
theorem AV.kill_nil' : AV.kill [] = id := funext AV.kill_nil
theorem AO.kill_nil (x : AO) : x.kill [] = x := by cases x <;> simp [AO.kill, AC.kill_nil']
/-- an object's own condition -/
def ObjOk (L : Nat → Option (Nat × Nat)) (I : Nat → Prop) (w : World) (o : Nat → AO) (k : Nat) : Prop :=
  match o k with
  | .gone => True
  | .var l => ∃ b C e, L k = some (b, 0) ∧ ¬ I b ∧ w.heap[b]? = some (.cells C e (0, 0)) ∧ C.size = l.length ∧ ∀ (i : Nat) x, l[i]? = some x → ∃ u, C[i]? = some u ∧ RelC L I w o x u
  | .arr m N sz get => (L k = none ∧ N = 0) ∨ ∃ b base C e, L k = some (b, base) ∧ (m = true → ¬ I b) ∧ w.heap[b]? = some (.cells C e (0, 0)) ∧ base + N * sz ≤ C.size ∧ ∀ i, i < N → ∀ j, j < sz → ∃ u, C[base + (i * sz + j)]? = some u ∧ RelI I w (get i j) u
theorem HRel.ok (h : HRel L I w o) (k : Nat) : ObjOk L I w o k := by
  unfold ObjOk
  split
  · trivial
  · rename_i l hl; exact h.var k l hl
  · rename_i m N sz get hl; exact h.arr k m N sz get hl
/-- the objects that are kept as they are -/
theorem ObjOk.step (K : Keeps ks L I w o L' I' w' o') {k : Nat} (h : ObjOk L I w o k) (hk : ks.contains k = false) (ho : o' k = (o k).kill ks)
    (hb' : o k ≠ .gone → ∀ b x, L k = some (b, x) → w'.heap[b]? = w.heap[b]? ∧ (¬ I b → ¬ I' b)) : ObjOk L' I' w' o' k := by
  unfold ObjOk at h ⊢
  rw [ho]
  cases hok : o k with
  | gone => simp [AO.kill]
  | var l =>
    have hb := hb' (by rw [hok]; simp)
    rw [hok] at h
    obtain ⟨b, C, e, h1, h2, h3, h4, h5⟩ := h
    simp only [AO.kill]
    refine ⟨b, C, e, ?_, (hb b 0 h1).2 h2, (hb b 0 h1).1.trans h3, by simpa using h4, fun i x hx => ?_⟩
    · rw [(K.obj k hk (by rw [hok]; simp)).1]; exact h1
    · simp only [List.getElem?_map, Option.map_eq_some_iff] at hx
      obtain ⟨x0, hx0, rfl⟩ := hx
      obtain ⟨u, hu, hr⟩ := h5 i x0 hx0
      exact ⟨u, hu, RelC.step K _ _ hr⟩
  | arr m N sz get =>
    have hb := hb' (by rw [hok]; simp)
    rw [hok] at h
    simp only [AO.kill]
    have hL := (K.obj k hk (by rw [hok]; simp)).1
    rcases h with ⟨h1, h2⟩ | ⟨b, base, C, e, h1, h2, h3, h4, h5⟩
    · exact .inl ⟨by rw [hL]; exact h1, h2⟩
    · refine .inr ⟨b, base, C, e, by rw [hL]; exact h1, fun hm => (hb b base h1).2 (h2 hm), (hb b base h1).1.trans h3, h4, fun i hi j hj => ?_⟩
      obtain ⟨u, hu, hr⟩ := h5 i hi j hj
      exact ⟨u, hu, RelI.mono K.imm _ _ hr⟩
theorem HRel.mk' (h : ∀ k, ObjOk L I w o k) (hi : ∀ k k' b x x', o k ≠ .gone → o k' ≠ .gone → L k = some (b, x) → L k' = some (b, x') → k = k') (hm : ∀ b, I b → b < w.heap.size) : HRel L I w o := by
  refine ⟨fun k l hl => ?_, fun k m N sz get hl => ?_, hi, hm⟩
  · have := h k; unfold ObjOk at this; rw [hl] at this; exact this
  · have := h k; unfold ObjOk at this; rw [hl] at this; exact this
/-- an object's block is there -/
theorem HRel.lt (h : HRel L I w o) {k b x : Nat} (hk : o k ≠ .gone) (hL : L k = some (b, x)) : b < w.heap.size ∧ ∃ C e, w.heap[b]? = some (.cells C e (0, 0)) := by
  cases hok : o k with
  | gone => exact (hk hok).elim
  | var l =>
    obtain ⟨b', C, e, h1, h2, h3, h4⟩ := h.var k l hok
    rw [hL] at h1; injection h1 with h1; injection h1 with h1 h1'; subst h1
    exact ⟨(Array.getElem?_eq_some_iff.1 h3).1, C, e, h3⟩
  | arr m N sz get =>
    rcases h.arr k m N sz get hok with ⟨h1, _⟩ | ⟨b', base, C, e, h1, h2, h3, h4⟩
    · rw [hL] at h1; cases h1
    · rw [hL] at h1; injection h1 with h1; injection h1 with h1 h1'; subst h1
      exact ⟨(Array.getElem?_eq_some_iff.1 h3).1, C, e, h3⟩
end
/-- a table of types that is the program's -/
def TOk (P : Program) (T : TT) : Prop := ∀ (t : Nat) d, (T t) = some d → P.underlying t = some d.und ∧ (∃ i, P.info? t = some i ∧ i.size = d.size ∧ i.bytes = d.bytes ∧ i.zero = some d.zero) ∧ (∀ x ∈ d.zero.cells.toList, x.oneCell' = true) ∧ (d.eqs = true → P.stoodInHeld t = false ∧ P.eqGuardType P.depth t = false ∧ (fieldsOf d.und).all (fun f => f.name != "_") = true)
def OpDone (P : Program) (w0 : World) (I0 : Nat → Prop) (o : Oper) (a : Act) (w : World) (s' : St) : Prop :=
  ∃ r y w', (execOp a.eval o).run P w = .ok r w' ∧ (r = .value y ∨ (r = .skip ∧ y = undef)) ∧ Rel w0 I0 s' (a.put o.dst y) w'
section
variable {P : Program} {T : TT} {w0 w : World} {I0 I : Nat → Prop} {L : Nat → Option (Nat × Nat)} {s : St} {a : Act} {o : Oper} {ob : Nat → AO}

theorem RelC.one {x : AC} {y : Value} (h : RelC L I w ob x y) (hx : x ≠ .junk) : y.oneCell' = true ∧ y.cells = #[y] := by
  have key : y.oneCell' = true → y.oneCell' = true ∧ y.cells = #[y] := fun h1 => ⟨h1, by cases y <;> simp_all [Value.cells, Value.oneCell']⟩
  exact key h.one'
theorem constAV_rel (v : Value) : RelV (RelC L I w ob) (constAV v) v := by
  unfold constAV
  split
  · rename_i cs
    split
    · rename_i h
      refine ⟨cs, rfl, by simp, fun i x hx => ?_⟩
      simp only [List.getElem?_map, Option.map_eq_some_iff, Array.getElem?_toList] at hx
      obtain ⟨u, hu, rfl⟩ := hx
      exact ⟨u, hu, rfl, by have := List.all_eq_true.1 h u (List.mem_of_getElem? (by rwa [← Array.getElem?_toList] at hu)); exact this⟩
    · trivial
  · rename_i cs
    split
    · rename_i h
      refine ⟨cs, rfl, by simp at h; simp [h], fun i x hx => by simp at hx⟩
    · trivial
  · rename_i h1 h2
    exact ⟨rfl, by cases v <;> simp_all [Value.oneCell']⟩
theorem ev_rel (h : RelT (RelC L I w ob) s.t a.tmps) (x : Operand) : RelV (RelC L I w ob) (ev s x) (a.eval x) := by
  cases x with
  | tmp t =>
    simp only [ev, Act.eval]
    cases ht : s.t[t]? with
    | none =>
      have h1 : a.tmps[t]? = none := by
        simp only [List.getElem?_eq_none_iff] at ht
        simp [h.1, ht]
      simp only [List.getD_eq_getElem?_getD, ht, Array.getD_eq_getD_getElem?, h1, Option.getD_none]
      exact ⟨#[], rfl, rfl, fun i x hx => by simp at hx⟩
    | some x =>
      obtain ⟨u, hu, hr⟩ := h.2 t x ht
      simp only [List.getD_eq_getElem?_getD, ht, Array.getD_eq_getD_getElem?, hu, Option.getD_some]
      exact hr
  | const v => exact constAV_rel v
  | global g => trivial
  | func f => exact ⟨#[], rfl, rfl, fun j hj => absurd hj (by omega)⟩
theorem RelT.set {t : List AV} {tm : Array Value} {R : AC → Value → Prop} (h : RelT R t tm) (d : Nat) {x : AV} {y : Value} (hv : RelV R x y) : RelT R (t.set d x) (tm.setIfInBounds d y) := by
  refine ⟨by simp [h.1], fun i x' hx => ?_⟩
  rw [List.getElem?_set] at hx
  rw [Array.getElem?_setIfInBounds]
  split at hx
  · rename_i hd
    subst hd
    split at hx
    · rename_i hlt
      injection hx with hx; subst hx
      exact ⟨y, by simp [h.1, hlt], hv⟩
    · cases hx
  · rename_i hd
    rw [if_neg hd]
    exact h.2 i x' hx
theorem RelL.put (h : RelL w0 I0 L I s a w) (d : Option Nat) {x : AV} {y : Value} (hv : RelV (RelC L I w s.o) x y) : RelL w0 I0 L I (put s d x) (a.put d y) w := by
  cases d with
  | none => exact h
  | some d => exact ⟨h.heap, h.tmps.set d hv, h.defers, h.below, h.old, h.only, h.new⟩
theorem done_give (h : RelL w0 I0 L I s a w) {x : AV} {y : Value} (hrun : (execOp a.eval o).run P w = .ok (.value y) w) (hv : RelV (RelC L I w s.o) x y) : OpDone P w0 I0 o a w (AM.put s o.dst x) :=
  ⟨_, y, w, hrun, .inl rfl, L, I, h.put o.dst hv⟩
theorem st_give (x : AV) (d : Option Nat) (s : St) (p : Prop) : (⟨p, x, [], none⟩ : Res).st d s = AM.put s d x := rfl
theorem Rel1.toV {R : AC → Value → Prop} {x : AV} {y : Value} (h : Rel1 R x y) : RelV R x y := by
  cases x with
  | c x => exact h
  | agg l => exact h
  | tup l => exact h.elim
  | any => exact h.elim
/-- the cells of a value -/
theorem cells_rel {R : AC → Value → Prop} (hone : ∀ x y, R x y → x ≠ .junk → y.cells = #[y]) {x : AV} {y : Value} {cs : List AC} (h : RelV R x y) (hc : x.cells? = some cs) :
    y.cells.size = cs.length ∧ ∀ (i : Nat) c, cs[i]? = some c → ∃ u, y.cells[i]? = some u ∧ R c u := by
  cases x with
  | c x =>
    have hx : x ≠ .junk := by rintro rfl; simp [AV.cells?] at hc
    have : cs = [x] := by cases x <;> simp_all [AV.cells?]
    subst this
    rw [hone x y h hx]
    refine ⟨rfl, fun i c hi => ?_⟩
    cases i with
    | zero => simp at hi; subst hi; exact ⟨y, rfl, h⟩
    | succ i => simp at hi
  | agg l =>
    obtain ⟨ys, rfl, hs, hh⟩ := h
    simp only [AV.cells?, Option.some.injEq] at hc
    subst hc
    exact ⟨hs, hh⟩
  | tup l => simp [AV.cells?] at hc
  | any => simp [AV.cells?] at hc

/-- simple operations -/
theorem run_move {x : Operand} (ho : o.op = .move x ∨ o.op = .assign x) : (execOp a.eval o).run P w = .ok (.value (a.eval x)) w := by
  rcases ho with ho | ho <;> simp [execOp, ho]
theorem op_move (hR : RelL w0 I0 L I s a w) {x : Operand} (ho : o.op = .move x ∨ o.op = .assign x) : OpDone P w0 I0 o a w (AM.put s o.dst (ev s x)) :=
  done_give hR (run_move ho) (ev_rel hR.tmps x)
theorem bool_of {x : AV} {y : Value} {b : Bool} (h : RelV (RelC L I w ob) x y) (hx : x = .c (.v (.bool b))) : y = .bool b := by
  subst hx; exact h.1
theorem val_of {x : AV} {y v : Value} (h : RelV (RelC L I w ob) x y) (hx : x = .c (.v v)) : y = v := by
  subst hx; exact h.1
theorem op_pick (hR : RelL w0 I0 L I s a w) {c x y : Operand} (ho : o.op = .pick c x y) (A : Prims) (hok : (evalOp A T o s).ok) : OpDone P w0 I0 o a w ((evalOp A T o s).st o.dst s) := by
  simp only [evalOp, ho] at hok ⊢
  have hc := ev_rel hR.tmps c
  split at hok
  · rename_i he
    have hb := bool_of hc he
    refine done_give hR (y := a.eval x) ?_ (ev_rel hR.tmps x)
    simp [execOp, ho, hb, asBool]
  · rename_i he
    have hb := bool_of hc he
    refine done_give hR (y := a.eval y) ?_ (ev_rel hR.tmps y)
    simp [execOp, ho, hb, asBool]
  · exact hok.elim
theorem run_v {v : Sem Value} {y : Value} {w' : World} (hv : v.run P w = .ok y w') : (do pure (Next.value (← v)) : Sem Next).run P w = .ok (.value y) w' := by
  simp [hv]
theorem bin_int (d : Option TD) (op : BinOp) (t : TypeId) (x y : Operand) (k k' : IntKind) (b b' : Int) (hok : (binA std d op (.c (.v (.int k b))) (.c (.v (.int k' b')))).ok) :
    ∃ z p, binA std d op (.c (.v (.int k b))) (.c (.v (.int k' b'))) = ⟨p, .c (.v z), [], none⟩ ∧ z.oneCell' = true ∧ (eqGuard op t x y (.int k b) (.int k' b')).run P w = .ok () w ∧ (binOp op t (.int k b) (.int k' b')).run P w = .ok z w := by
  have hg : (eqGuard op t x y (.int k b) (.int k' b')).run P w = .ok () w := by cases op <;> simp [eqGuard]
  by_cases hk : k = k'
  · subst hk
    cases op <;> simp only [binA, intBin, if_true] at hok ⊢ <;> (try exact hok.elim) <;> refine ⟨_, _, rfl, rfl, hg, ?_⟩ <;>
      simp_all [binOp, Op.intArith, Op.intDiv, Op.intCmp, Op.shift, std] <;> (try rfl) <;> (try (intro h; omega))
  · cases op <;> simp only [binA, hk, if_false] at hok ⊢ <;> (try exact hok.elim) <;> refine ⟨_, _, rfl, rfl, hg, ?_⟩ <;>
      simp_all [binOp, Op.shift, std] <;> (try rfl) <;> (try (intro h; omega))
theorem bin_str (d : Option TD) (op : BinOp) (t : TypeId) (x y : Operand) (b b' : ByteArray) (hok : (binA std d op (.c (.v (.string b))) (.c (.v (.string b')))).ok) :
    ∃ z p, binA std d op (.c (.v (.string b))) (.c (.v (.string b'))) = ⟨p, .c (.v z), [], none⟩ ∧ z.oneCell' = true ∧ (eqGuard op t x y (.string b) (.string b')).run P w = .ok () w ∧ (binOp op t (.string b) (.string b')).run P w = .ok z w := by
  have hg : (eqGuard op t x y (.string b) (.string b')).run P w = .ok () w := by cases op <;> simp [eqGuard]
  cases op <;> simp only [binA, strBin] at hok ⊢ <;> (try exact hok.elim) <;> refine ⟨_, _, rfl, rfl, hg, ?_⟩ <;>
    simp_all [binOp, Op.stringOp, std, IntKind.max, IntKind.signed, IntKind.bits] <;> (try rfl) <;> (try omega)
theorem bin_bool (d : Option TD) (t : TypeId) (hd : isBoolT d = true → P.underlying t = some .bool) (op : BinOp) (x y : Operand) (b b' : Bool) (hok : (binA std d op (.c (.v (.bool b))) (.c (.v (.bool b')))).ok) :
    ∃ z p, binA std d op (.c (.v (.bool b))) (.c (.v (.bool b'))) = ⟨p, .c (.v z), [], none⟩ ∧ z.oneCell' = true ∧ (eqGuard op t x y (.bool b) (.bool b')).run P w = .ok () w ∧ (binOp op t (.bool b) (.bool b')).run P w = .ok z w := by
  have hg : (eqGuard op t x y (.bool b) (.bool b')).run P w = .ok () w := by cases op <;> simp [eqGuard]
  have he : ∀ h : isBoolT d = true, (Op.equal t (.bool b) (.bool b')).run P w = .ok (b == b') w := by
    intro h
    unfold Op.equal
    rw [show Op.maxDepth = 9999 + 1 from rfl, Op.equalIn]
    simp [run_underlying (hd h)]
  cases op <;> simp only [binA] at hok ⊢ <;> (try exact hok.elim) <;> refine ⟨_, _, rfl, rfl, hg, ?_⟩ <;>
    simp [binOp, he hok, std]
theorem op_bin0 (hT : TOk P T) (hR : RelL w0 I0 L I s a w) {op : BinOp} {t t' : TypeId} {x y : Operand} (ho : o.op = .binOp op t x y t') (hok : (binA std (T t) op (ev s x) (ev s y)).ok) : OpDone P w0 I0 o a w ((binA std (T t) op (ev s x) (ev s y)).st o.dst s) := by
  have hx := ev_rel hR.tmps x
  have hy := ev_rel hR.tmps y
  have hd : isBoolT ((T t)) = true → P.underlying t = some .bool := by
    intro h
    unfold isBoolT at h
    split at h
    · rename_i d hd
      rw [(hT t d hd).1]
      split at h
      · rename_i hu; rw [hu]
      · cases h
    · cases h
  revert hok hd
  generalize (T t) = d
  intro hok hd
  have key : ∀ u v : Value, ev s x = .c (.v u) → ev s y = .c (.v v) → (∃ z p, binA std d op (.c (.v u)) (.c (.v v)) = ⟨p, .c (.v z), [], none⟩ ∧ z.oneCell' = true ∧ (eqGuard op t x y u v).run P w = .ok () w ∧ (binOp op t u v).run P w = .ok z w) →
      OpDone P w0 I0 o a w ((binA std d op (ev s x) (ev s y)).st o.dst s) := by
    rintro u v ex ey ⟨z, p, h1, h2, h3, h4⟩
    rw [ex, ey, h1]
    refine done_give hR (y := z) ?_ ⟨rfl, h2⟩
    simp [execOp, ho, val_of hx ex, val_of hy ey, h3, h4]
  have hcases : (∃ k b k' b', ev s x = .c (.v (.int k b)) ∧ ev s y = .c (.v (.int k' b'))) ∨ (∃ b b', ev s x = .c (.v (.string b)) ∧ ev s y = .c (.v (.string b'))) ∨ (∃ b b', ev s x = .c (.v (.bool b)) ∧ ev s y = .c (.v (.bool b'))) := by
    unfold binA at hok
    split at hok
    · rename_i k b k' b' ex ey; exact .inl ⟨k, b, k', b', ex, ey⟩
    · rename_i b b' ex ey; exact .inr (.inl ⟨b, b', ex, ey⟩)
    · rename_i b b' ex ey; exact .inr (.inr ⟨b, b', ex, ey⟩)
    · exact hok.elim
  rcases hcases with ⟨k, b, k', b', ex, ey⟩ | ⟨b, b', ex, ey⟩ | ⟨b, b', ex, ey⟩
  · rw [ex, ey] at hok; exact key _ _ ex ey (bin_int d op t x y k k' b b' hok)
  · rw [ex, ey] at hok; exact key _ _ ex ey (bin_str d op t x y b b' hok)
  · rw [ex, ey] at hok; exact key _ _ ex ey (bin_bool d t hd op x y b b' hok)
theorem agg_get {l : List AC} {y : Value} (h : RelV (RelC L I w ob) (.agg l) y) : ∃ ys : Array Value, y = .agg ys ∧ ∀ (i : Nat) x, l[i]? = some (.v x) → ys[i]? = some x := by
  obtain ⟨ys, rfl, hs, hc⟩ := h
  refine ⟨ys, rfl, fun i x hx => ?_⟩
  obtain ⟨u, hu, hr⟩ := hc i _ hx
  have hux : u = x := hr.1
  rw [hu, hux]
theorem run_part_one (t : TypeId) (cs : Array Value) (off : Nat) (v : Value) (d : TD) (hu : P.underlying t = some d.und) (ha : aggB d.und = false) (hv : cs[off]? = some v) : (part t cs off).run P w = .ok v w := by
  unfold part
  have : (isAgg t).run P w = .ok false w := by
    simp only [isAgg, Sem.run_bind, run_underlying hu, Result.andThen_ok]
    revert ha
    cases d.und <;> simp [aggB]
  simp [this, hv]
theorem run_part_agg (t : TypeId) (cs : Array Value) (off : Nat) (d : TD) (hu : P.underlying t = some d.und) (ha : aggB d.und = true) (hs : (Go.sizeOf t).run P w = .ok d.size w) : (part t cs off).run P w = .ok (.agg (cs.extract off (off + d.size))) w := by
  unfold part
  have : (isAgg t).run P w = .ok true w := by
    simp only [isAgg, Sem.run_bind, run_underlying hu, Result.andThen_ok]
    revert ha
    cases d.und <;> simp [aggB]
  simp [this, hs]
theorem sizeOf_T (hT : TOk P T) {t : Nat} {d : TD} (hd : T t = some d) : (Go.sizeOf t).run P w = .ok d.size w := by
  obtain ⟨i, h1, h2, _⟩ := (hT t d hd).2.1
  simp [Go.sizeOf, typeInfo, h1, h2]
theorem eqF_run (hT : TOk P T) : ∀ (d n : Nat) (l l' : List AC) (xs ys : Array Value) (hx : ∀ (i : Nat) x, l[i]? = some (.v x) → xs[i]? = some x) (hy : ∀ (i : Nat) x, l'[i]? = some (.v x) → ys[i]? = some x) (hdn : d ≤ n)
    (fs : List Field) (b : Bool), fs.all (fun f => f.name != "_") = true → eqF std T d l l' fs = some b → (Op.eqFields n xs ys fs).run P w = .ok b w := by
  intro d
  induction d with
  | zero => intro n l l' xs ys hx hy hdn fs b _ h; cases h
  | succ d ihd =>
    intro n l l' xs ys hx hy hdn fs
    obtain ⟨m, rfl⟩ : ∃ m, n = m + 1 := ⟨n - 1, by omega⟩
    induction fs with
    | nil => intro b _ h; simp [eqF] at h; subst h; simp [Op.eqFields]
    | cons f fs ihf =>
      intro b hn h
      simp only [List.all_cons, Bool.and_eq_true, bne_iff_ne, ne_eq] at hn
      have step : ∀ (u v : Value) (q r : Bool), (part f.type xs f.offset).run P w = .ok u w → (part f.type ys f.offset).run P w = .ok v w → (Op.equalIn (m + 1) f.type u v).run P w = .ok q w → eqF std T (d + 1) l l' fs = some r → (Op.eqFields (m + 1) xs ys (f :: fs)).run P w = .ok (q && r) w := by
        intro u v q r hu' hv hq hr
        have ih := ihf r hn.2 hr
        unfold Op.eqFields
        rw [if_pos hn.1]
        simp only [Sem.run_bind, hu', hv, Result.andThen_ok, hq]
        cases q
        · simp
        · simpa using ih
      have hfold : eqF std T (d + 1) l l' (f :: fs) = (match eqF std T (d + 1) l l' fs, T f.type with
          | some r, some td => match td.und, l[f.offset]?, l'[f.offset]? with
            | .int _, some (.v (.int k a)), some (.v (.int k' b)) => if k = k' then some (std.band (std.eq a b) r) else none
            | .bool, some (.v (.bool a)), some (.v (.bool b)) => some (std.band (std.beq a b) r)
            | .string, some (.v (.string a)), some (.v (.string b)) => some (std.band (std.seq a b) r)
            | .struct gs, _, _ => match td.eqs, eqF std T d ((l.drop f.offset).take td.size) ((l'.drop f.offset).take td.size) gs.toList with
              | true, some b => some (std.band b r)
              | _, _ => none
            | _, _, _ => none
          | _, _ => none) := rfl
      rw [hfold] at h
      split at h
      · rename_i r td hr htd
        have hu := (hT f.type td htd).1
        split at h
        · rename_i k0 k a' k' b' hund e1 e2
          split at h
          · rename_i hk
            subst hk
            injection h with h; subst h
            exact step _ _ _ r (run_part_one f.type xs f.offset _ td hu (by rw [hund]; rfl) (hx _ _ e1)) (run_part_one f.type ys f.offset _ td hu (by rw [hund]; rfl) (hy _ _ e2)) (run_equalIn_int w m f.type k k0 a' b' (by rw [hu, hund])) hr
          · cases h
        · rename_i a' b' hund e1 e2
          injection h with h; subst h
          exact step _ _ _ r (run_part_one f.type xs f.offset _ td hu (by rw [hund]; rfl) (hx _ _ e1)) (run_part_one f.type ys f.offset _ td hu (by rw [hund]; rfl) (hy _ _ e2)) (run_equalIn_bool' w m f.type a' b' (by rw [hu, hund])) hr
        · rename_i a' b' hund e1 e2
          injection h with h; subst h
          exact step _ _ _ r (run_part_one f.type xs f.offset _ td hu (by rw [hund]; rfl) (hx _ _ e1)) (run_part_one f.type ys f.offset _ td hu (by rw [hund]; rfl) (hy _ _ e2)) (run_equalIn_string w m f.type a' b' (by rw [hu, hund])) hr
        · rename_i gs hund
          split at h
          · rename_i q he hq
            injection h with h; subst h
            obtain ⟨g1, g2, g3⟩ := (hT f.type td htd).2.2.2 he
            rw [hund] at g3
            have hsz := sizeOf_T (w := w) hT htd
            have hfo : P.fieldsOf f.type = gs := by unfold Program.fieldsOf; rw [hu, hund]
            have hext : ∀ (l : List AC) (xs : Array Value), (∀ (i : Nat) x, l[i]? = some (.v x) → xs[i]? = some x) → ∀ (i : Nat) x, ((l.drop f.offset).take td.size)[i]? = some (.v x) → (xs.extract f.offset (f.offset + td.size))[i]? = some x := by
              intro l xs h i x hi
              rw [List.getElem?_take] at hi
              split at hi
              · rename_i hlt
                rw [List.getElem?_drop] at hi
                have := h _ _ hi
                have hb := (Array.getElem?_eq_some_iff.1 this).1
                rw [Array.getElem?_extract, if_pos (by omega)]
                exact this
              · cases hi
            exact step _ _ _ r (run_part_agg f.type xs f.offset td hu (by rw [hund]; rfl) hsz) (run_part_agg f.type ys f.offset td hu (by rw [hund]; rfl) hsz)
              (by rw [run_equalIn_struct w m f.type _ _ (by rw [hfo, hu, hund]) g1, hfo]; exact ihd m _ _ _ _ (hext l xs hx) (hext l' ys hy) (by omega) gs.toList q g3 hq) hr
          · cases h
        · cases h
      · cases h
theorem op_bin (hT : TOk P T) (hR : RelL w0 I0 L I s a w) {op : BinOp} {t t' : TypeId} {x y : Operand} (ho : o.op = .binOp op t x y t') (hok : (evalOp std T o s).ok) : OpDone P w0 I0 o a w ((evalOp std T o s).st o.dst s) := by
  have hx := ev_rel hR.tmps x
  have hy := ev_rel hR.tmps y
  have h0 := op_bin0 (T := T) hT hR ho
  simp only [evalOp, ho] at hok ⊢
  split at hok
  · rename_i l l' ex ey
    rw [ex] at hx; rw [ey] at hy
    obtain ⟨xs, hx1, hx2⟩ := agg_get hx
    obtain ⟨ys, hy1, hy2⟩ := agg_get hy
    unfold aggEq at hok ⊢
    split at hok
    · rename_i d hd
      have hrun : ∀ b, d.eqs = true → eqF std T 8 l l' (fieldsOf d.und) = some b → (match d.und with | .struct _ => True | _ => False) →
          (eqGuard op t x y (.agg xs) (.agg ys)).run P w = .ok () w ∧ (Op.equalIn 10000 t (.agg xs) (.agg ys)).run P w = .ok b w := by
        intro b he hb hs
        obtain ⟨g1, g2, g3⟩ := (hT t d hd).2.2.2 he
        refine ⟨run_eqGuard_agg w op t x y xs ys g2, ?_⟩
        split at hs
        · rename_i fs hfs
          have hfo : P.fieldsOf t = fs := by unfold Program.fieldsOf; rw [(hT t d hd).1, hfs]
          rw [run_equalIn_struct w 9999 t xs ys (by rw [hfo, (hT t d hd).1, hfs]) g1, hfo]
          rw [hfs] at hb g3
          exact eqF_run hT 8 9999 l l' xs ys hx2 hy2 (by omega) fs.toList b g3 hb
        · exact hs.elim
      split at hok
      · rename_i b he hb
        obtain ⟨g1, g2⟩ := hrun b he hb hok
        refine done_give hR (y := .bool b) ?_ ⟨rfl, rfl⟩
        simp [execOp, ho, hx1, hy1, g1, run_eql_struct, g2]
      · rename_i b he hb
        obtain ⟨g1, g2⟩ := hrun b he hb hok
        refine done_give hR (y := .bool (!b)) ?_ ⟨rfl, rfl⟩
        simp [execOp, ho, hx1, hy1, g1, run_neq_struct, g2]
      · exact hok.elim
    · exact hok.elim
  · exact h0 hok
end
section
variable {P : Program} {T : TT} {w0 w : World} {I0 I : Nat → Prop} {L : Nat → Option (Nat × Nat)} {s : St} {a : Act} {o : Oper} {ob : Nat → AO}

theorem addr_add (b off n : Nat) : (⟨b, off, none⟩ : Addr).add n = ⟨b, off + n, none⟩ := by unfold Addr.add; split <;> simp_all
theorem op_un (hR : RelL w0 I0 L I s a w) {op : UnOp} {t : TypeId} {x : Operand} (ho : o.op = .unOp op t x) (hok : (evalOp std T o s).ok) : OpDone P w0 I0 o a w ((evalOp std T o s).st o.dst s) := by
  have hx := ev_rel hR.tmps x
  simp only [evalOp, ho, unA] at hok ⊢
  split at hok
  · rename_i b ex
    refine done_give hR (y := .bool (!b)) ?_ ⟨rfl, rfl⟩
    simp [execOp, ho, val_of hx ex, Op.unary]
  · rename_i k n ex
    refine done_give hR (y := .int k (k.wrap (0 - n))) ?_ ⟨rfl, rfl⟩
    simp [execOp, ho, val_of hx ex, Op.unary, Op.intArith]
  · exact hok.elim
theorem op_convert (hT : TOk P T) (hR : RelL w0 I0 L I s a w) {src dst : TypeId} {x : Operand} (ho : o.op = .convert src dst x) (hok : (evalOp std T o s).ok) : OpDone P w0 I0 o a w ((evalOp std T o s).st o.dst s) := by
  have hx := ev_rel hR.tmps x
  simp only [evalOp, ho, convA] at hok ⊢
  split at hok
  · rename_i ds dt hs hd
    have h1 := run_underlying (w := w) (hT src ds hs).1
    have h2 := run_underlying (w := w) (hT dst dt hd).1
    split at hok
    · rename_i k k' n hu ex
      refine done_give hR (y := .int k (k.wrap n)) ?_ ⟨rfl, rfl⟩
      rw [hu] at h2
      simp [execOp, ho, val_of hx ex, convert, h1, h2, Conv.intToInt]
    · rename_i b hu ex
      refine done_give hR (y := .string b) ?_ ⟨rfl, rfl⟩
      rw [hu] at h2
      simp [execOp, ho, val_of hx ex, convert, h1, h2]
    · exact hok.elim
  · exact hok.elim
theorem op_extract (hR : RelL w0 I0 L I s a w) {x : Operand} {i : Nat} (ho : o.op = .extract x i) (hok : (evalOp std T o s).ok) : OpDone P w0 I0 o a w ((evalOp std T o s).st o.dst s) := by
  have hx := ev_rel hR.tmps x
  simp only [evalOp, ho] at hok ⊢
  split at hok
  · rename_i l ex
    split at hok
    · rename_i v hv
      rw [ex] at hx
      obtain ⟨ys, hy, hs, hc⟩ := hx
      obtain ⟨u, hu, hr⟩ := hc i v hv
      refine done_give hR (y := u) ?_ hr.toV
      simp [execOp, ho, hy, Instr.extract, hu]
    · exact hok.elim
  · exact hok.elim
theorem op_nilCheck (hR : RelL w0 I0 L I s a w) {x : Operand} (ho : o.op = .nilCheck x) (hok : (evalOp std T o s).ok) : OpDone P w0 I0 o a w ((evalOp std T o s).st o.dst s) := by
  have hx := ev_rel hR.tmps x
  simp only [evalOp, ho] at hok ⊢
  split at hok
  · rename_i k q ex
    rw [ex] at hx
    have hx' := hx
    obtain ⟨l, b, _, _, hy⟩ := hx'
    refine done_give hR (y := a.eval x) ?_ hx
    simp [execOp, ho, hy]
  · rename_i k q q' ex
    rw [ex] at hx
    have hx' := hx
    obtain ⟨_, _, _, _, _, _, _, _, hy⟩ := hx'
    refine done_give hR (y := a.eval x) ?_ hx
    simp [execOp, ho, hy]
  · rename_i n g ex
    rw [ex] at hx
    have hx' := hx
    obtain ⟨b, off, hy, _⟩ := hx'
    refine done_give hR (y := a.eval x) ?_ hx
    simp [execOp, ho, hy]
  · exact hok.elim
theorem op_index (hT : TOk P T) (hR : RelL w0 I0 L I s a w) {t : TypeId} {x i : Operand} (ho : o.op = .index t x i) (hok : (evalOp std T o s).ok) : OpDone P w0 I0 o a w ((evalOp std T o s).st o.dst s) := by
  have hx := ev_rel hR.tmps x
  have hi := ev_rel hR.tmps i
  simp only [evalOp, ho] at hok ⊢
  split at hok
  · rename_i d hd
    have h1 := run_underlying (w := w) (hT t d hd).1
    split at hok
    · rename_i b k n hu ex ei
      rw [hu] at h1
      have hin : 0 ≤ n ∧ n < (b.size : Int) := hok
      have hlt : n.toNat < b.size := by omega
      refine done_give hR (y := .int .u8 (std.sat b n.toNat)) ?_ ⟨rfl, rfl⟩
      have hg : b[n.toNat]? = some b[n.toNat] := by simp [hlt]
      simp [execOp, ho, val_of hx ex, val_of hi ei, Instr.index, h1, asIntOf, hin.1, std, hg]
    · exact hok.elim
  · exact hok.elim
/-- a slice of cells, as an aggregate or one cell -/
theorem takeC_rel {R : AC → Value → Prop} {d : TD} {l : List AC} {cs : Array Value} (hs : cs.size = l.length) (hc : ∀ (i : Nat) x, l[i]? = some x → ∃ u, cs[i]? = some u ∧ R x u) {off : Nat} (hoff : off + d.size ≤ l.length)
    (hone : aggB d.und = false → 0 < d.size) : ∃ y, RelV R (takeC d l off) y ∧ (if aggB d.und = true then y = .agg (cs.extract off (off + d.size)) else cs[off]? = some y) := by
  unfold takeC
  by_cases hd : aggB d.und = true
  · rw [if_pos hd]
    refine ⟨.agg (cs.extract off (off + d.size)), ⟨_, rfl, by simp; omega, fun i x hx => ?_⟩, by simp [hd]⟩
    rw [List.getElem?_take] at hx
    split at hx
    · rename_i hi
      rw [List.getElem?_drop] at hx
      obtain ⟨u, hu, hr⟩ := hc _ x hx
      refine ⟨u, ?_, hr⟩
      rw [Array.getElem?_extract]
      rw [if_pos (by omega)]
      exact hu
    · cases hx
  · rw [if_neg hd]
    have hd' : aggB d.und = false := by simpa using hd
    have := hone hd'
    have hlt : off < l.length := by omega
    obtain ⟨u, hu, hr⟩ := hc off l[off] (by simp [hlt])
    refine ⟨u, ?_, by simp [hd', hu]⟩
    simp only [List.getD_eq_getElem?_getD, List.getElem?_eq_getElem hlt, Option.getD_some]
    exact hr
theorem run_isAgg (hT : TOk P T) {t : TypeId} {d : TD} (hd : (T t) = some d) : (isAgg t).run P w = .ok (aggB d.und) w := by
  have h1 := run_underlying (w := w) (hT t d hd).1
  simp [isAgg, h1]
  cases d.und <;> simp [aggB]
theorem run_sizeOf (hT : TOk P T) {t : TypeId} {d : TD} (hd : (T t) = some d) : (Go.sizeOf t).run P w = .ok d.size w := by
  obtain ⟨i, hi, h1, _⟩ := (hT t d hd).2.1
  simp [Go.sizeOf, typeInfo, hi, h1]
end
section
variable {P : Program} {T : TT} {w0 w : World} {I0 I : Nat → Prop} {L : Nat → Option (Nat × Nat)} {s : St} {a : Act} {o : Oper} {ob : Nat → AO}

theorem fieldsOf_some {d : TD} {f : Nat} {fd : Field} (h : (fieldsOf d.und)[f]? = some fd) : ∃ fs : Array Field, d.und = .struct fs ∧ fs[f]? = some fd := by
  cases hu : d.und <;> simp [hu, fieldsOf] at h
  rename_i fs
  exact ⟨fs, rfl, by simpa using h⟩
theorem op_field (hT : TOk P T) (hR : RelL w0 I0 L I s a w) {t : TypeId} {x : Operand} {f : Nat} (ho : o.op = .field t x f) (hok : (evalOp std T o s).ok) : OpDone P w0 I0 o a w ((evalOp std T o s).st o.dst s) := by
  have hx := ev_rel hR.tmps x
  simp only [evalOp, ho] at hok ⊢
  split at hok
  · rename_i d l hd ex
    split at hok
    · rename_i fd hfd
      obtain ⟨fs, hu, hf⟩ := fieldsOf_some hfd
      split at hok
      · rename_i fdt hfdt
        rw [ex] at hx
        obtain ⟨ys, hy, hs, hc⟩ := hx
        obtain ⟨y, hr, hv⟩ := takeC_rel (d := fdt) hs hc hok.1 (fun _ => hok.2)
        refine done_give hR (y := y) ?_ hr
        have h1 := run_underlying (w := w) (hT t d hd).1
        rw [hu] at h1
        have h2 := run_isAgg (w := w) hT hfdt
        have h3 := run_sizeOf (w := w) hT hfdt
        simp only [execOp, ho, hy]
        simp only [Sem.run_bind, Instr.field, h1, Result.andThen_ok, hf, asAgg, Sem.run_pure, part, h2]
        split at hv
        · rename_i hag
          simp [hag, h3, hv]
        · rename_i hag
          simp [hag, hv]
      · exact hok.elim
    · exact hok.elim
  · exact hok.elim
theorem run_fieldPlace (hT : TOk P T) {fd : Field} {fdt : TD} (h : (T (fd.type)) = some fdt) (hs : 0 < fdt.size) (b off : Nat) : (fieldPlace ⟨b, off, none⟩ fd).run P w = .ok ⟨b, off + fd.offset, none⟩ w := by
  have h3 := run_sizeOf (w := w) hT h
  have : ¬ fdt.size = 0 := by omega
  simp [fieldPlace, h3, this, addr_add]
theorem op_fieldAddr (hT : TOk P T) (hR : RelL w0 I0 L I s a w) {t : TypeId} {x : Operand} {f : Nat} (ho : o.op = .fieldAddr t x f) (hok : (evalOp std T o s).ok) : OpDone P w0 I0 o a w ((evalOp std T o s).st o.dst s) := by
  have hx := ev_rel hR.tmps x
  simp only [evalOp, ho] at hok ⊢
  split at hok
  · rename_i d hd
    split at hok
    · rename_i fd hfd
      obtain ⟨fs, hu, hf⟩ := fieldsOf_some hfd
      split at hok
      · rename_i fdt hfdt
        have h1 := run_underlying (w := w) (hT t d hd).1
        rw [hu] at h1
        have key : ∀ (b off : Nat), a.eval x = .pointer (some ⟨b, off, none⟩) → 0 < fdt.size → (execOp a.eval o).run P w = .ok (.value (.pointer (some ⟨b, off + fd.offset, none⟩))) w := by
          intro b off hy hs
          have h3 := run_fieldPlace (w := w) hT hfdt hs b off
          simp only [execOp, ho, hy]
          simp [Instr.fieldAt, h1, hf, Instr.sureAddr, h3]
        split at hok
        · rename_i k off ex
          rw [ex] at hx
          obtain ⟨l, b, h2, h3, hy⟩ := hx
          exact done_give hR (key b off hy hok) ⟨l, b, h2, h3, rfl⟩
        · rename_i k i j ex
          rw [ex] at hx
          obtain ⟨m, N, sz, get, b, base, h2, h3, hy⟩ := hx
          exact done_give hR (key b _ hy hok) ⟨m, N, sz, get, b, base, h2, h3, by simp only [Nat.add_assoc]⟩
        · rename_i n get ex
          rw [ex] at hx
          obtain ⟨b, off, hy, hb, hc⟩ := hx
          refine done_give hR (key b _ hy hok.1) ⟨b, off + fd.offset, rfl, hb, fun j hj => ?_⟩
          obtain ⟨u, hu', hr⟩ := hc (fd.offset + j) (by have := hok.2; omega)
          exact ⟨u, by rw [Nat.add_assoc]; exact hu', hr⟩
        · exact hok.elim
      · exact hok.elim
    · exact hok.elim
  · exact hok.elim
theorem cell_of {b : Nat} {C : Array Value} {e : TypeId} {fr : Nat × Nat} (h : w.heap[b]? = some (.cells C e fr)) (i : Nat) : w.cell? ⟨b, i, none⟩ = C[i]? := cell_of_row w b i C e fr h
/-- a variable read out of memory whose cells are known one by one -/
theorem run_loadVar_cells (hT : TOk P T) {t : TypeId} {d : TD} (hd : (T t) = some d) (hpos : 0 < d.size) (b off : Nat) (f : Nat → Value) (h : ∀ j, j < d.size → w.cell? ⟨b, off + j, none⟩ = some (f j)) :
    (loadVar t ⟨b, off, none⟩).run P w = .ok (if aggB d.und = true then .agg ((List.range d.size).map f).toArray else f 0) w := by
  have h2 := run_isAgg (w := w) hT hd
  have h3 := run_sizeOf (w := w) hT hd
  simp only [loadVar, Sem.run_bind, h2, Result.andThen_ok]
  by_cases hag : aggB d.und = true
  · have hl := run_loadCells_list (P := P) w ⟨b, off, none⟩ ((List.range d.size).map f) (fun j v hv => by
      rw [List.getElem?_map] at hv
      simp only [Option.map_eq_some_iff] at hv
      obtain ⟨q, hq, rfl⟩ := hv
      have hi : j < d.size := by
        by_cases hjj : j < d.size
        · exact hjj
        · exfalso; rw [List.getElem?_eq_none (by simp; omega)] at hq; cases hq
      rw [List.getElem?_range hi] at hq
      simp only [Option.some.injEq] at hq; subst hq
      rw [addr_add]
      exact h _ hi)
    simp only [List.length_map, List.length_range] at hl
    simp [hag, h3, hl]
  · have h0 := h 0 hpos
    simp only [Nat.add_zero] at h0
    simp [hag, h0]
theorem fnC_rel {R : AC → Value → Prop} {d : TD} {g : Nat → AC} {f : Nat → Value} (hpos : 0 < d.size) (h : ∀ j, j < d.size → R (g j) (f j)) : RelV R (fnC d g) (if aggB d.und = true then .agg ((List.range d.size).map f).toArray else f 0) := by
  unfold fnC
  by_cases hd : aggB d.und = true
  · rw [if_pos hd, if_pos hd]
    refine ⟨_, rfl, by simp, fun i x hx => ?_⟩
    rw [List.getElem?_map] at hx
    simp only [Option.map_eq_some_iff] at hx
    obtain ⟨q, hq, rfl⟩ := hx
    have hi : i < d.size := by
      by_cases hjj : i < d.size
      · exact hjj
      · exfalso; rw [List.getElem?_eq_none (by simp; omega)] at hq; cases hq
    rw [List.getElem?_range hi] at hq
    simp only [Option.some.injEq] at hq; subst hq
    exact ⟨f i, by simp [hi], h i hi⟩
  · rw [if_neg hd, if_neg hd]
    exact h 0 hpos
theorem choose_cells {R : AC → Value → Prop} {n : Nat} {g : Nat → AC} {c : Nat → Option Value} (h : ∀ j, j < n → ∃ u, c j = some u ∧ R (g j) u) : ∃ f : Nat → Value, ∀ j, j < n → c j = some (f j) ∧ R (g j) (f j) :=
  ⟨fun j => (c j).getD undef, fun j hj => by obtain ⟨u, hu, hr⟩ := h j hj; simp only [hu, Option.getD_some]; exact ⟨trivial, hr⟩⟩
theorem op_load (hT : TOk P T) (hR : RelL w0 I0 L I s a w) {t : TypeId} {x : Operand} (ho : o.op = .load t x) (hok : (evalOp std T o s).ok) : OpDone P w0 I0 o a w ((evalOp std T o s).st o.dst s) := by
  have hx := ev_rel hR.tmps x
  simp only [evalOp, ho] at hok ⊢
  split at hok
  · rename_i d hd
    have key : ∀ (b off : Nat) (g : Nat → AC), a.eval x = .pointer (some ⟨b, off, none⟩) → 0 < d.size → (∀ j, j < d.size → ∃ u, w.cell? ⟨b, off + j, none⟩ = some u ∧ RelC L I w s.o (g j) u) → OpDone P w0 I0 o a w (AM.put s o.dst (fnC d g)) := by
      intro b off g hy hpos hc
      obtain ⟨f, hf⟩ := choose_cells hc
      refine done_give hR ?_ (fnC_rel hpos fun j hj => (hf j hj).2)
      have := run_loadVar_cells (w := w) hT hd hpos b off f fun j hj => (hf j hj).1
      simp only [execOp, ho, hy]
      simp [Instr.loadAt, Instr.sureAddr, this]
    split at hok
    · rename_i k off ex
      rw [ex] at hx
      obtain ⟨l, b, h2, h3, hy⟩ := hx
      rw [h2] at hok ⊢
      obtain ⟨b', C, e, h4, h5, h6, h7, h8⟩ := hR.heap.var k l h2
      rw [h3] at h4; injection h4 with h4; injection h4 with h4; subst h4
      have e1 : takeC d l off = fnC d fun j => l.getD (off + j) .junk := by
        have h9 : off + d.size ≤ l.length := hok.1
        unfold takeC fnC
        split
        · congr 1
          apply List.ext_getElem?
          intro i
          rw [List.getElem?_take, List.getElem?_map]
          by_cases hi : i < d.size
          · rw [if_pos hi, List.getElem?_drop, List.getElem?_range hi]
            simp [List.getD_eq_getElem?_getD, List.getElem?_eq_getElem (show off + i < l.length by omega)]
          · rw [if_neg hi, List.getElem?_eq_none (by simp; omega)]
            rfl
        · rfl
      have h9 : off + d.size ≤ l.length := hok.1
      simp only [e1]
      change OpDone P w0 I0 o a w (AM.put s o.dst (fnC d fun j => l.getD (off + j) .junk))
      refine key b off _ hy hok.2 fun j hj => ?_
      have hlt : off + j < l.length := by omega
      obtain ⟨u, hu, hr⟩ := h8 (off + j) l[off + j] (by simp [hlt])
      refine ⟨u, by rw [cell_of h6]; exact hu, ?_⟩
      simp only [List.getD_eq_getElem?_getD, List.getElem?_eq_getElem hlt, Option.getD_some]
      exact hr
    · rename_i k i j ex
      rw [ex] at hx
      obtain ⟨m, N, sz, get, b, base, h2, h3, hy⟩ := hx
      rw [h2] at hok ⊢
      rcases hR.heap.arr k m N sz get h2 with ⟨h4, _⟩ | ⟨b', base', C, e, h4, h5, h6, h7, h8⟩
      · rw [h3] at h4; cases h4
      · rw [h3] at h4; injection h4 with h4; injection h4 with h4 h4'; subst h4; subst h4'
        have h9 : j + d.size ≤ sz := hok.2.1
        change OpDone P w0 I0 o a w (AM.put s o.dst (fnC d fun q => get i (j + q)))
        refine key b _ _ hy hok.2.2 fun q hq => ?_
        obtain ⟨u, hu, hr⟩ := h8 i hok.1 (j + q) (by omega)
        have hr' : RelC L I w s.o (get i (j + q)) u := by
          revert hr; cases get i (j + q) <;> intro hr <;> first | exact hr | exact hr.elim
        exact ⟨u, by rw [cell_of h6]; rw [show base + (i * sz + j) + q = base + (i * sz + (j + q)) by omega]; exact hu, hr'⟩
    · rename_i n get ex
      rw [ex] at hx
      obtain ⟨b, off, hy, hb, hc⟩ := hx
      have h9 : d.size ≤ n := hok.1
      change OpDone P w0 I0 o a w (AM.put s o.dst (fnC d get))
      refine key b off _ hy hok.2 fun j hj => ?_
      obtain ⟨u, hu, hr⟩ := hc j (by omega)
      refine ⟨u, hu, ?_⟩
      revert hr; cases get j <;> intro hr <;> first | exact hr | exact hr.elim
    · exact hok.elim
  · exact hok.elim
end
end Go.Proofs.Ytcfmllknnfoghaa.AM
