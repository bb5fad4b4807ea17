/-
  THE ABSTRACT MACHINE, FIRST PART: values, states, what an operation does, how that stands to the model. No condition.
-/
import Derived.Below
import Derived.Orders
import Derived.Calls
import Derived.Deep.AppendSrc
import Derived.Laws.Rows
import Derived.Laws.Cells
import Derived.LoopN
import Derived.Laws.StructEq
import Derived.Laws.BytesString
namespace Go.Proofs.YtpobpihakgegbaaGreat.AM
open Go Go.Proofs Go.RowKit
set_option linter.unusedVariables false
set_option linter.unusedSimpArgs false
set_option maxRecDepth 100000

inductive AC where
 | v (x : Value)
 | bs (n sz : Nat) (get : Nat → Nat → AC)
 | bp (n : Nat) (get : Nat → AC)
 | os (k off n : Nat)
 | ow (n sz : Nat) (get : Nat → Nat → AC)
 | ptr (k off : Nat)
 | ep (k i j : Nat)
 | fn (f : FuncId) (n : Nat) (caps : Nat → AC)
 | junk

structure Prims where
 add : IntKind → Int → Int → Int
 sub : IntKind → Int → Int → Int
 mul : IntKind → Int → Int → Int
 quo : IntKind → Int → Int → Int
 rem : Int → Int → Int
 shl : IntKind → Int → Int → Int
 shr : IntKind → Int → Int → Int
 conv : IntKind → Int → Int
 eq : Int → Int → Bool
 lt : Int → Int → Bool
 le : Int → Int → Bool
 imin : Int → Int → Int
 imax : Int → Int → Int
 not : Bool → Bool
 beq : Bool → Bool → Bool
 band : Bool → Bool → Bool
 toN : Int → Nat
 ofN : Nat → Int
 nadd : Nat → Nat → Nat
 nsub : Nat → Nat → Nat
 slen : ByteArray → Nat
 sat : ByteArray → Nat → Int
 scat : ByteArray → ByteArray → ByteArray
 ssub : ByteArray → Nat → Nat → ByteArray
 seq : ByteArray → ByteArray → Bool
 slt : ByteArray → ByteArray → Bool
 sle : ByteArray → ByteArray → Bool
 ofBytes : Nat → (Nat → Int) → ByteArray
 inR : Int → Nat → Prop
 upTo : Int → Nat → Prop
 nz : Int → Prop
 nneg : Int → Prop
 room : Nat → Nat → Prop
 bitand : IntKind → Int → Int → Int
 zeros : Value → Nat → Prop
 beqs : List Bool → List Bool → Bool
 zl : Nat → List AC

noncomputable def std : Prims where
 add k x y := k.wrap (x + y)
 sub k x y := k.wrap (x - y)
 mul k x y := k.wrap (x * y)
 quo k x y := k.wrap (x.tdiv y)
 rem x y := x.tmod y
 shl k x y := k.wrap (x * 2 ^ min y.toNat k.bits)
 shr k x y := x.fdiv (2 ^ min y.toNat k.bits)
 conv k x := k.wrap x
 eq x y := x == y
 lt x y := decide (x < y)
 le x y := decide (x ≤ y)
 imin x y := if y < x then y else x
 imax x y := if y > x then y else x
 not b := !b
 beq x y := x == y
 band x y := x && y
 toN x := x.toNat
 ofN n := (n : Int)
 nadd a b := a + b
 nsub a b := a - b
 slen s := s.size
 sat s i := ((s[i]?.getD 0).toNat : Int)
 scat a b := a ++ b
 ssub s l h := s.extract l h
 seq a b := a.toList == b.toList
 slt a b := Op.bytesLess a.toList b.toList
 sle a b := Op.bytesLess a.toList b.toList || a.toList == b.toList
 ofBytes n g := ⟨((List.range n).map fun i => UInt8.ofNat (g i).toNat).toArray⟩
 inR i n := 0 ≤ i ∧ i < (n : Int)
 upTo i n := 0 ≤ i ∧ i ≤ (n : Int)
 nz x := x ≠ 0
 nneg x := 0 ≤ x
 room n b := n * b ≤ 35184372088832
 bitand k x y := k.wrap ((BitVec.ofInt k.bits x &&& BitVec.ofInt k.bits y).toNat : Int)
 zeros z n := z.cells = Array.replicate n (.bool false)
 beqs x y := x == y
 zl n := List.replicate n (.v (.bool false))

inductive AV where
 | c (x : AC)
 | agg (l : List AC)
 | tup (l : List AV)
 | any

inductive Md where
 | ro
 | rw
 | cap (c : Nat)
 deriving DecidableEq
def Md.w : Md → Bool
 | .ro => false
 | _ => true
inductive AO where
 | gone
 | var (l : List AC)
 | arr (m : Md) (rs : List Nat) (n sz : Nat) (get : Nat → Nat → AC)

structure St where
 t : List AV
 o : Nat → AO

structure TD where
 und : TypeDesc
 size : Nat
 bytes : Nat
 zero : Value
 eqs : Bool := false

abbrev TT := Nat → Option TD

def AV.cells? : AV → Option (List AC)
 | .c .junk => none
 | .c (.ow ..) => none
 | .c x => some [x]
 | .agg l => some l
 | .tup _ => none
 | .any => none
def AC.whole : AC → Bool
 | .junk => false
 | .ow .. => false
 | .fn _ n caps => (List.range n).all fun j => (caps j).whole
 | _ => true
def AC.ref : AC → List Nat
 | .os k _ _ | .ptr k _ | .ep k _ _ => [k]
 | .fn _ n caps => (List.range n).flatMap fun j => (caps j).ref
 | _ => []
def AC.kill (ks : List Nat) : AC → AC
 | .os k a b => if ks.contains k then .junk else .os k a b
 | .ptr k a => if ks.contains k then .junk else .ptr k a
 | .ep k a b => if ks.contains k then .junk else .ep k a b
 | .fn f n caps => .fn f n fun j => if j < n then (caps j).kill ks else caps j
 | x => x
def AV.map1 (φ : AC → AC) : AV → AV
 | .c x => .c (φ x)
 | .agg l => .agg (l.map φ)
 | x => x
def AV.map (φ : AC → AC) : AV → AV
 | .tup l => .tup (l.map (AV.map1 φ))
 | x => x.map1 φ
def AO.map (φ : AC → AC) (ψ : List Nat → List Nat) (χ : List Nat → Bool) : AO → AO
 | .var l => .var (l.map φ)
 | .arr m rs n sz get => match χ rs with
  | true => .arr m rs n sz get
  | false => .arr m (ψ rs) n sz fun i j => φ (get i j)
 | .gone => .gone
def AV.kill (ks : List Nat) : AV → AV := AV.map (AC.kill ks)
def without (ks : List Nat) (rs : List Nat) : Bool := rs.all fun k => !ks.contains k
def AO.kill (ks : List Nat) : AO → AO := AO.map (AC.kill ks) id (without ks)
def killO (ks : List Nat) (o : Nat → AO) : Nat → AO := fun k => if ks.contains k then .gone else (o k).kill ks
def updO (o : Nat → AO) (k : Nat) (x : AO) : Nat → AO := fun j => if j = k then x else o j
def updL : List (Nat × AO) → (Nat → AO) → (Nat → AO)
 | [], o => o
 | (k, x) :: r, o => updL r (updO o k x)
def St.kill (ks : List Nat) (s : St) : St := match ks with | [] => s | _ => ⟨s.t.map (AV.kill ks), killO ks s.o⟩
def AV.refs1 : AV → List Nat
 | .c x => x.ref
 | .agg l => l.flatMap AC.ref
 | .tup _ => []
 | .any => []
def AV.refs : AV → List Nat
 | .tup l => l.flatMap AV.refs1
 | x => x.refs1

def constAV : Value → AV
 | .agg cs => if cs.toList.all Value.oneCell' = true then .agg (cs.toList.map .v) else .any
 | .tuple cs => match cs.toList with | [] => .tup [] | _ => .any
 | x => .c (.v x)
def ev (s : St) : Operand → AV
 | .tmp t => s.t.getD t (.tup [])
 | .const x => constAV x
 | .func f => .c (.fn f 0 fun _ => .junk)
 | .global _ => .any
def put (s : St) (d : Option Nat) (x : AV) : St := match d with | some d => ⟨s.t.set d x, s.o⟩ | none => s
def setO (s : St) (k : Nat) (x : AO) : St := ⟨s.t, updO s.o k x⟩
def deepO : AO → List Nat
 | .var l => l.flatMap AC.ref
 | .arr _ rs _ _ _ => rs
 | .gone => []
def setL (l : List AC) (i : Nat) : List AC → List AC
 | [] => l
 | x :: r => setL (l.set i x) (i + 1) r

structure Res where
 ok : Prop
 val : AV
 kills : List Nat := []
 upds : List (Nat × AO) := []
def Res.bad : Res := ⟨False, .c .junk, [], []⟩
def Res.give (x : AV) : Res := ⟨True, x, [], []⟩
def Res.st (r : Res) (d : Option Nat) (s : St) : St := put ⟨(s.kill r.kills).t, updL r.upds (s.kill r.kills).o⟩ d r.val

def aggB : TypeDesc → Bool
 | .struct _ | .array _ _ => true
 | _ => false
def site (d : Option Nat) : Nat := (d.getD 0) * 64
def takeC (d : TD) (l : List AC) (off : Nat) : AV := if aggB d.und then .agg ((l.drop off).take d.size) else .c (l.getD off .junk)
def fnC (d : TD) (g : Nat → AC) : AV := if aggB d.und then .agg ((List.range d.size).map g) else .c (g 0)
def zeroC (d : TD) : List AC := d.zero.cells.toList.map .v

def fillC (place : Nat → Option (Nat × Nat)) (cells : List AC) : List (Nat × List AC) → Option (List AC)
 | [] => some cells
 | (i, cs) :: rest => match place i with
  | none => none
  | some (off, size) => if cs.length = size ∧ off + cs.length ≤ cells.length then fillC place (setL cells off cs) rest else none
def allParts (s : St) : List (Nat × Operand) → Option (List (Nat × List AC))
 | [] => some []
 | (i, x) :: r => match (ev s x).cells?, allParts s r with
  | some cs, some l => some ((i, cs) :: l)
  | _, _ => none
def capsOf (s : St) : List Operand → Option (List AC)
 | [] => some []
 | x :: r => match ev s x, capsOf s r with
  | .c y, some l => if y.whole = true then some (y :: l) else none
  | _, _ => none
def fieldsOf : TypeDesc → List Field
 | .struct fs => fs.toList
 | _ => []
def placeOf (T : TT) (fs : List Field) (i : Nat) : Option (Nat × Nat) := match fs[i]? with
 | some f => match (T (f.type)) with | some d => some (f.offset, d.size) | none => none
 | none => none
def arrOf (T : TT) (t : TypeId) : Option (Nat × Nat) := match T t with
 | some d => match d.und with
  | .array len e => match T e with | some ed => some (len, ed.size) | none => none
  | _ => none
 | none => none
def elemOf (T : TT) (t : TypeId) : Option TD := match (T t) with
 | some d => match d.und with | .slice e => (T e) | _ => none
 | none => none

section
variable (A : Prims) (T : TT)
def intBin (op : BinOp) (k : IntKind) (x y : Int) : Option (Prop × Value) :=
 match op with
 | .add => some (True, .int k (A.add k x y))
 | .sub => some (True, .int k (A.sub k x y))
 | .mul => some (True, .int k (A.mul k x y))
 | .quo => some (A.nz y, .int k (A.quo k x y))
 | .rem => some (A.nz y, .int k (A.rem x y))
 | .and => some (True, .int k (A.bitand k x y))
 | .eql => some (True, .bool (A.eq x y))
 | .neq => some (True, .bool (A.not (A.eq x y)))
 | .lss => some (True, .bool (A.lt x y))
 | .leq => some (True, .bool (A.le x y))
 | .gtr => some (True, .bool (A.lt y x))
 | .geq => some (True, .bool (A.le y x))
 | _ => none
def strBin (op : BinOp) (x y : ByteArray) : Option (Prop × Value) :=
 match op with
 | .add => some (A.room (A.nadd (A.slen x) (A.slen y)) 1, .string (A.scat x y))
 | .eql => some (True, .bool (A.seq x y))
 | .neq => some (True, .bool (A.not (A.seq x y)))
 | .lss => some (True, .bool (A.slt x y))
 | .leq => some (True, .bool (A.sle x y))
 | .gtr => some (True, .bool (A.not (A.sle x y)))
 | .geq => some (True, .bool (A.not (A.slt x y)))
 | _ => none
def isBoolT (d : Option TD) : Bool := match d with | some d => (match d.und with | .bool => true | _ => false) | none => false
def binA (d : Option TD) (op : BinOp) (x y : AV) : Res :=
 match x, y with
 | .c (.v (.int k a)), .c (.v (.int k' b)) =>
  match op with
  | .shl => ⟨A.nneg b, .c (.v (.int k (A.shl k a b))), [], []⟩
  | .shr => ⟨A.nneg b, .c (.v (.int k (A.shr k a b))), [], []⟩
  | _ => if k = k' then (match intBin A op k a b with | some (p, v) => ⟨p, .c (.v v), [], []⟩ | none => .bad) else .bad
 | .c (.v (.string a)), .c (.v (.string b)) => match strBin A op a b with | some (p, v) => ⟨p, .c (.v v), [], []⟩ | none => .bad
 | .c (.v (.bool a)), .c (.v (.bool b)) => match op with
  | .eql => ⟨isBoolT d = true, .c (.v (.bool (A.beq a b))), [], []⟩
  | .neq => ⟨isBoolT d = true, .c (.v (.bool (A.not (A.beq a b)))), [], []⟩
  | _ => .bad
 | _, _ => .bad
def eqF : Nat → List AC → List AC → List Field → Option Bool
 | 0, _, _, _ => none
 | d + 1, l, l', fs => fs.foldr (fun (f : Field) (r : Option Bool) => match r, T f.type with
  | some r, some td => match td.und, l[f.offset]?, l'[f.offset]? with
   | .int _, some (.v (.int k a)), some (.v (.int k' b)) => if k = k' then some (A.band (A.eq a b) r) else none
   | .bool, some (.v (.bool a)), some (.v (.bool b)) => some (A.band (A.beq a b) r)
   | .string, some (.v (.string a)), some (.v (.string b)) => some (A.band (A.seq a b) r)
   | .struct gs, _, _ => match td.eqs, eqF d ((l.drop f.offset).take td.size) ((l'.drop f.offset).take td.size) gs.toList with
    | true, some b => some (A.band b r)
    | _, _ => none
   | _, _, _ => none
  | _, _ => none) (some true)
def boolsOf : List AC → Option (List Bool)
 | [] => some []
 | .v (.bool b) :: r => match boolsOf r with | some l => some (b :: l) | none => none
 | _ => none
def arrEq (d : TD) (op : BinOp) (l l' : List AC) : Option Res :=
 match d.und with
 | .array len e => some (match T e, boolsOf l, boolsOf l', d.eqs with
  | some ed, some x, some y, true => match ed.und, op with
   | .bool, .eql => ⟨x.length = len ∧ y.length = len ∧ ed.size = 1, .c (.v (.bool (A.beqs x y))), [], []⟩
   | .bool, .neq => ⟨x.length = len ∧ y.length = len ∧ ed.size = 1, .c (.v (.bool (A.not (A.beqs x y)))), [], []⟩
   | _, _ => .bad
  | _, _, _, _ => .bad)
 | _ => none
def aggEq (d : Option TD) (op : BinOp) (l l' : List AC) : Res :=
 match d with
 | some d => match arrEq A T d op l l' with
  | some r => r
  | none => match d.eqs, eqF A T 8 l l' (fieldsOf d.und), op with
   | true, some b, .eql => ⟨(match d.und with | .struct _ => True | _ => False), .c (.v (.bool b)), [], []⟩
   | true, some b, .neq => ⟨(match d.und with | .struct _ => True | _ => False), .c (.v (.bool (A.not b))), [], []⟩
   | _, _, _ => .bad
 | none => .bad
def unA (op : UnOp) (x : AV) : Res :=
 match op, x with
 | .not, .c (.v (.bool b)) => .give (.c (.v (.bool (!b))))
 | .neg, .c (.v (.int k n)) => .give (.c (.v (.int k (A.sub k 0 n))))
 | _, _ => .bad
def lenA (d : Option TD) (x : AV) : Res :=
 match d with
 | none => .bad
 | some d => match d.und, x with
  | .slice _, .c (.bs n _ _) => .give (.c (.v (.int .i64 (A.ofN n))))
  | .slice _, .c (.os _ _ n) => .give (.c (.v (.int .i64 (A.ofN n))))
  | .string, .c (.v (.string b)) => .give (.c (.v (.int .i64 (A.ofN (A.slen b)))))
  | .slice _, .c (.v (.slice none n _)) => .give (.c (.v (.int .i64 (A.ofN n))))
  | _, _ => .bad
def firstT (l : Array TypeId) : Option TD := match l[0]? with | some t => (T t) | none => none
def foldInt (f : Int → Int → Int) (k : IntKind) : Int → List AV → Option Int
 | a, [] => some a
 | a, .c (.v (.int _ b)) :: r => foldInt f k (f a b) r
 | _, _ => none
def byteOf : AC → Int
 | .v (.int _ x) => x
 | _ => 0
def isU8 : AC → Bool
 | .v (.int .u8 _) => true
 | _ => false
def bytesA (e : TypeId) (n sz : Nat) (get : Nat → Nat → AC) : Res :=
 match T e with
 | some ed => match ed.und with
  | .int .u8 => ⟨sz = 1 ∧ ∀ i, i < n → isU8 (get i 0) = true, .c (.v (.string (A.ofBytes n fun i => byteOf (get i 0)))), [], []⟩
  | _ => .bad
 | none => .bad
def convA (src dst : TypeId) (d : Option Nat) (x : AV) (o : Nat → AO) : Res :=
 match (T src), (T dst) with
 | some s, some t => match t.und, x with
  | .int k, .c (.v (.int _ n)) => .give (.c (.v (.int k (A.conv k n))))
  | .string, .c (.v (.string b)) => .give (.c (.v (.string b)))
  | .string, .c (.bs n sz get) => match s.und with
   | .slice e => bytesA A T e n sz get
   | _ => .bad
  | .string, .c (.os k off n) => match s.und with
   | .slice e => match o k with
    | .arr _ _ _ sz get => bytesA A T e n sz fun i j => get (off + i) j
    | _ => .bad
   | _ => .bad
  | _, _ => .bad
 | _, _ => .bad
def isOw : AC → Bool
 | .ow .. => true
 | _ => false
def AC.cp : AC → AC
 | .ow .. => .junk
 | x => x
def srcOf (sz : Nat) (o : Nat → AO) : AV → Option (List Nat × Nat × Nat × (Nat → Nat → AC))
 | .c (.bs n sz' get) => some ([], n, sz', fun i j => (get i j).cp)
 | .c (.os k off n) => match o k with
  | .arr _ rs _ sz' get => some (rs, n, sz', fun i j => (get (off + i) j).cp)
  | _ => none
 | .c (.v (.string b)) => some ([], A.slen b, 1, fun i _ => .v (.int .u8 (A.sat b i)))
 | .c (.v (.slice none n _)) => match n with | 0 => some ([], 0, sz, fun _ _ => .junk) | _ => none
 | _ => none
def joinC (n : Nat) (get get' : Nat → Nat → AC) : Nat → Nat → AC := fun i j => if i < n then get i j else get' (i - n) j
def spliceC (p n : Nat) (src get : Nat → Nat → AC) : Nat → Nat → AC := fun i j => if p ≤ i ∧ i < p + n then src (i - p) j else get i j
def eId (k : Nat) (dst : Option Nat) : Nat := match k % 2 with | 0 => k | _ => site dst
def appTo (d : TD) (ks : List Nat) (k : Nat) (rs : List Nat) (N : Nat) (get : Nat → Nat → AC) (n sz : Nat) (get' : Nat → Nat → AC) : Res :=
 ⟨sz = d.size ∧ 0 < d.size ∧ 0 < d.bytes ∧ (zeroC d).length = d.size ∧ A.room (A.nadd N n) d.bytes, .c (.os k 0 (A.nadd N n)), ks, [(k, .arr .rw rs (A.nadd N n) d.size (joinC N get get'))]⟩
def srcT (d : TD) (ats : Array TypeId) (y : AV) : Bool := match ats[1]? with
 | some t => match T t with
  | some td => match td.und, y with
   | .slice _, .c (.bs _ _ _) => true
   | .slice _, .c (.os _ _ _) => true
   | .slice _, .c (.v (.slice _ _ _)) => true
   | .string, .c (.v (.string _)) => d.size == 1
   | _, _ => false
  | none => false
 | none => false
def appO (ats : Array TypeId) (dst : Option Nat) (x y : AV) (o : Nat → AO) : Res :=
 match ats[0]? with
 | none => .bad
 | some t => match elemOf T t with
  | none => .bad
  | some d => match srcT T d ats y with
   | false => .bad
   | true => match srcOf A d.size o y with
    | none => .bad
    | some (rs', n, sz, get') => match x with
     | .c (.os k off n0) => match o k with
      | .arr m rs N sz0 get => match off, m.w, sz0 == d.size, !(rs ++ rs').contains k, !(rs ++ rs').contains (eId k dst) with
       | 0, true, true, true, true => { appTo A d [k, eId k dst] (eId k dst) (rs ++ rs') N get n sz get' with ok := n0 = N ∧ (appTo A d [] k rs N get n sz get').ok }
       | _, _, _, _, _ => .bad
      | _ => .bad
     | .c (.v (.slice none n0 c0)) => match n0, c0, !rs'.contains (site dst) with
      | 0, 0, true => appTo A d [site dst] (site dst) rs' 0 (fun _ _ => .junk) n sz get'
      | _, _, _ => .bad
     | _ => .bad
def movOf (o : Nat → AO) : AV → Option (Nat × Nat × Nat × Nat × (Nat → Nat → AC))
 | .c (.os k2 off n) => match o k2 with
  | .arr .rw [] N2 sz get2 => match (List.range sz).any fun j => isOw (get2 5000 j) with
   | true => some (k2, off, n, N2, get2)
   | false => none
  | _ => none
 | _ => none
def lenOfV : AV → Nat
 | .c (.os _ _ n) => n
 | _ => 0
def movC (off n : Nat) (get : Nat → Nat → AC) : Nat → Nat → AC := fun i j => if off ≤ i ∧ i < off + n then (get i j).cp else get i j
def Res.mov (r : Res) (N : Nat) : Option (Nat × Nat × Nat × Nat × (Nat → Nat → AC)) → Res
 | none => r
 | some (k2, off, n, N2, get2) => match r.upds, !r.kills.contains k2 with
  | [(k', .arr m rs NN sz gj)], true => ⟨r.ok, r.val, r.kills, [(k', .arr m rs NN sz (joinC N gj fun i j => get2 (off + i) j)), (k2, .arr .rw [] N2 sz (movC off n get2))]⟩
  | _, _ => .bad
def appA (ats : Array TypeId) (dst : Option Nat) (x y : AV) (o : Nat → AO) : Res := (appO A T ats dst x y o).mov (lenOfV x) (movOf o y)
def idxB (d : Option TD) (i : AV) (n sz : Nat) (get : Nat → Nat → AC) : Res :=
 match d, i with
 | some d, .c (.v (.int _ i)) => ⟨A.inR i n ∧ sz = d.size, .c (.bp sz (get (A.toN i))), [], []⟩
 | _, _ => .bad
def idxO (d : Option TD) (i : AV) (k off n sz : Nat) : Res :=
 match d, i with
 | some d, .c (.v (.int _ i)) => ⟨A.inR i n ∧ sz = d.size, .c (.ep k (A.nadd off (A.toN i)) 0), [], []⟩
 | _, _ => .bad
def idxA (d : Option TD) (q : AV) (k i j sz : Nat) : Res :=
 match d, q with
 | some d, .c (.v (.int _ q)) => match d.und with
  | .array len e => match T e with
   | some ed => if ed.size = sz then ⟨A.inR q len, .c (.ep k (A.nadd i (A.toN q)) j), [], []⟩ else ⟨A.inR q len ∧ ed.size = 1, .c (.ep k i (A.nadd j (A.toN q))), [], []⟩
   | none => .bad
  | _ => .bad
 | _, _ => .bad
def bnd (q : Int) : Option AV → Option Int
 | none => some q
 | some (.c (.v (.int _ l))) => some l
 | _ => none
def subB (d : Option TD) (n sz : Nat) (get : Nat → Nat → AC) (l h : Option Int) : Res :=
 match d, l, h with
 | some d, some l, some h => ⟨A.upTo h n ∧ A.upTo l (A.toN h) ∧ sz = d.size, .c (.bs (A.nsub (A.toN h) (A.toN l)) sz fun i j => get (A.nadd (A.toN l) i) j), [], []⟩
 | _, _, _ => .bad
def subO (d : Option TD) (k off n sz : Nat) (low : Bool) (l h : Option Int) : Res :=
 match d, l, h with
 | some d, some l, some h => ⟨A.upTo h n ∧ A.upTo l (A.toN h) ∧ (low = false → A.upTo l n) ∧ sz = d.size, .c (.os k (A.nadd off (A.toN l)) (A.nsub (A.toN h) (A.toN l))), [], []⟩
 | _, _, _ => .bad
def exC (k0 : Nat) : Nat → List AC → List AC
 | _, [] => []
 | q, .ow n _ _ :: r => .os (k0 + 2 * (q + 1)) 0 n :: exC k0 (q + 1) r
 | q, x :: r => x :: exC k0 (q + 1) r
def exO (k0 : Nat) : Nat → List AC → List (Nat × AO)
 | _, [] => []
 | q, .ow n sz g :: r => (k0 + 2 * (q + 1), .arr .rw [] n sz fun i j => (g i j).cp) :: exO k0 (q + 1) r
 | q, _ :: r => exO k0 (q + 1) r
def loadE (d : TD) (dst : Option Nat) (k i j : Nat) (m : Md) (rs : List Nat) (n sz : Nat) (get : Nat → Nat → AC) : Res :=
 let cs := (List.range d.size).map fun q => get i (j + q)
 match cs.any isOw with
 | false => ⟨i < n ∧ j + d.size ≤ sz ∧ 0 < d.size, fnC d fun q => get i (j + q), [], []⟩
 | true =>
  let ids := (exO (site dst) 0 cs).map (·.1)
  let cs' := exC (site dst) 0 cs
  ⟨i < n ∧ j + d.size ≤ sz ∧ 0 < d.size ∧ m.w = true ∧ (k :: rs).all (fun q => !ids.contains q) = true, fnC d fun q => cs'.getD q .junk, ids,
   (k, .arr m (rs ++ ids) n sz fun a b => if a = i ∧ j ≤ b ∧ b < j + d.size then cs'.getD (b - j) .junk else get a b) :: exO (site dst) 0 cs⟩
def evalOp (o : Oper) (s : St) : Res :=
 match o.op with
 | .move x | .assign x => .give (ev s x)
 | .pick c a b => match ev s c with
  | .c (.v (.bool true)) => .give (ev s a)
  | .c (.v (.bool false)) => .give (ev s b)
  | _ => .bad
 | .box e x => match (ev s x).cells? with
  | some cs => match arrOf T e with
   | some (len, sz) => ⟨0 < sz ∧ cs.length = len * sz ∧ ∀ c ∈ cs, ∃ u, c = .v u, .c (.ep (site o.dst) 0 0), [site o.dst], [(site o.dst, .arr .rw [] len sz fun i j => cs.getD (i * sz + j) .junk)]⟩
   | none => ⟨True, .c (.ptr (site o.dst) 0), [site o.dst], [(site o.dst, .var (cs.map (AC.kill [site o.dst])))]⟩
  | none => .bad
 | .alloc e => match (T e) with
  | some d => match d.und with
   | .array len el => match T el with
    | some ed => ⟨0 < ed.size ∧ len * ed.size = d.size ∧ A.zeros d.zero d.size, .c (.ep (site o.dst) 0 0), [site o.dst], [(site o.dst, .arr .rw [] len ed.size fun _ _ => .v (.bool false))]⟩
    | none => .bad
   | _ => ⟨True, .c (.ptr (site o.dst) 0), [site o.dst], [(site o.dst, .var (zeroC d))]⟩
  | none => .bad
 | .build t parts => match (T t) with
  | some d => match arrOf T t with
   | some _ => match parts.toList with
    | [] => ⟨A.zeros d.zero d.size, .agg (A.zl d.size), [], []⟩
    | _ => .bad
   | none => match allParts s parts.toList with
    | some ps => match fillC (placeOf T (fieldsOf d.und)) (zeroC d) ps with
     | some cs => ⟨(match d.und with | .struct _ => (fieldsOf d.und).all (fun f => ((T (f.type))).isSome) = true | _ => False), .agg cs, [], []⟩
     | none => .bad
    | none => .bad
  | none => .bad
 | .field t x f => match (T t), ev s x with
  | some d, .agg l => match (fieldsOf d.und)[f]? with
   | some fd => match (T (fd.type)) with
    | some fdt => ⟨fd.offset + fdt.size ≤ l.length ∧ 0 < fdt.size, takeC fdt l fd.offset, [], []⟩
    | none => .bad
   | none => .bad
  | _, _ => .bad
 | .fieldAddr t x f => match (T t) with
  | some d => match (fieldsOf d.und)[f]? with
   | some fd => match (T (fd.type)) with
    | some fdt => match ev s x with
     | .c (.ptr k off) => ⟨0 < fdt.size, .c (.ptr k (off + fd.offset)), [], []⟩
     | .c (.ep k i j) => ⟨0 < fdt.size, .c (.ep k i (j + fd.offset)), [], []⟩
     | .c (.bp n get) => ⟨0 < fdt.size ∧ fd.offset ≤ n, .c (.bp (n - fd.offset) fun j => get (fd.offset + j)), [], []⟩
     | _ => .bad
    | none => .bad
   | none => .bad
  | none => .bad
 | .load t x => match (T t) with
  | some d => match ev s x with
   | .c (.ptr k off) => match s.o k with
    | .var l => ⟨off + d.size ≤ l.length ∧ 0 < d.size, takeC d l off, [], []⟩
    | _ => .bad
   | .c (.ep k i j) => match s.o k with
    | .arr m rs n sz get => loadE d o.dst k i j m rs n sz get
    | _ => .bad
   | .c (.bp n get) => ⟨d.size ≤ n ∧ 0 < d.size, fnC d get, [], []⟩
   | _ => .bad
  | none => .bad
 | .store t x y => match (T t), (ev s y).cells? with
  | some d, some cs => match ev s x with
   | .c (.ptr k off) => match s.o k with
    | .var l => ⟨off + cs.length ≤ l.length ∧ cs.length = d.size ∧ cs.all AC.whole = true, .tup [], [], [(k, .var (setL l off cs))]⟩
    | _ => .bad
   | .c (.ep k i j) => match s.o k with
    | .arr m rs n sz get => ⟨m.w = true ∧ i < n ∧ j + cs.length ≤ sz ∧ cs.length = d.size ∧ cs.all AC.whole = true, .tup [], [], [(k, .arr m (rs ++ cs.flatMap AC.ref) n sz fun a b => if a = i ∧ j ≤ b ∧ b < j + cs.length then cs.getD (b - j) .junk else get a b)]⟩
    | _ => .bad
   | _ => .bad
  | _, _ => .bad
 | .nilCheck x => match ev s x with
  | .c (.ptr k a) => .give (.c (.ptr k a))
  | .c (.ep k a b) => .give (.c (.ep k a b))
  | .c (.bp n g) => .give (.c (.bp n g))
  | _ => .bad
 | .binOp op t x y _ => match ev s x, ev s y with
  | .agg l, .agg l' => aggEq A T (T t) op l l'
  | p, q => binA A ((T t)) op p q
 | .unOp op _ x => unA A op (ev s x)
 | .convert src dst x => convA A T src dst o.dst (ev s x) s.o
 | .indexAddr t x i => match ev s x with
  | .c (.bs n sz get) => idxB A (elemOf T t) (ev s i) n sz get
  | .c (.os k off n) => match s.o k with
   | .arr _ _ _ sz _ => idxO A (elemOf T t) (ev s i) k off n sz
   | _ => .bad
  | .c (.ep k a b) => match s.o k with
   | .arr _ _ _ sz _ => idxA A T (T t) (ev s i) k a b sz
   | _ => .bad
  | _ => .bad
 | .index t x i => match (T t) with
  | some d => match d.und, ev s x, ev s i with
   | .string, .c (.v (.string b)), .c (.v (.int _ i)) => ⟨A.inR i (A.slen b), .c (.v (.int .u8 (A.sat b (A.toN i)))), [], []⟩
   | _, _, _ => .bad
  | none => .bad
 | .extract x i => match ev s x with
  | .tup l => match l[i]? with
   | some v => .give v
   | none => .bad
  | _ => .bad
 | .makeFunc (.func f) first caps => match first.toList, capsOf s caps.toList with
  | [], some l => ⟨True, .c (.fn f l.length fun j => l.getD j .junk), [], []⟩
  | _, _ => .bad
 | .makeSlice t x y => match elemOf T t, ev s x, ev s y with
  | some d, .c (.v (.int _ n)), .c (.v (.int _ m)) => ⟨n = m ∧ A.nneg n ∧ 0 < d.size ∧ 0 < d.bytes ∧ (zeroC d).length = d.size ∧ A.room (A.toN n) d.bytes, .c (.os (site o.dst) 0 (A.toN n)), [site o.dst], [(site o.dst, .arr .rw [] (A.toN n) d.size fun _ j => (zeroC d).getD j .junk)]⟩
  | _, _, _ => .bad
 | .buildSlice t len parts => match elemOf T t with
  | some d => match allParts s parts.toList with
   | some ps => match fillC (fun i => some (i * d.size, d.size)) ((List.replicate len (zeroC d)).flatten) ps with
    | some cs => ⟨cs.all AC.whole = true ∧ (!(cs.flatMap AC.ref).contains (site o.dst)) = true ∧ 0 < d.size ∧ (zeroC d).length = d.size ∧ len * d.size ≤ 16777216, .c (.os (site o.dst) 0 len), [site o.dst], [(site o.dst, .arr .rw (cs.flatMap AC.ref) len d.size fun i j => cs.getD (i * d.size + j) .junk)]⟩
    | none => .bad
   | none => .bad
  | none => .bad
 | .slice t x lo hi mx => match (T t) with
  | some d => match d.und, ev s x, lo.map (ev s), hi.map (ev s), mx.map (ev s) with
   | .string, .c (.v (.string b)), none, none, none => .give (.c (.v (.string (A.ssub b 0 (A.slen b)))))
   | .string, .c (.v (.string b)), some (.c (.v (.int _ l))), none, none => ⟨A.upTo l (A.slen b), .c (.v (.string (A.ssub b (A.toN l) (A.slen b)))), [], []⟩
   | .string, .c (.v (.string b)), none, some (.c (.v (.int _ h))), none => ⟨A.upTo h (A.slen b), .c (.v (.string (A.ssub b 0 (A.toN h)))), [], []⟩
   | .string, .c (.v (.string b)), some (.c (.v (.int _ l))), some (.c (.v (.int _ h))), none => ⟨A.upTo h (A.slen b) ∧ A.upTo l (A.toN h), .c (.v (.string (A.ssub b (A.toN l) (A.toN h)))), [], []⟩
   | .slice _, .c (.bs n sz get), l, h, none => subB A (elemOf T t) n sz get (bnd 0 l) (bnd (A.ofN n) h)
   | .slice _, .c (.os k off n), l, h, none => match s.o k with
    | .arr _ _ _ sz _ => subO A (elemOf T t) k off n sz l.isNone (bnd 0 l) (bnd (A.ofN n) h)
    | _ => .bad
   | .slice _, .c (.bs n sz get), none, some (.c (.v (.int _ h))), some (.c (.v (.int _ q))) => match elemOf T t with
    | some ed => ⟨h = 0 ∧ q = 0, .c (.os (site o.dst) 0 0), [site o.dst], [(site o.dst, .arr .rw [] 0 ed.size fun _ _ => .junk)]⟩
    | none => .bad
   | _, _, _, _, _ => .bad
  | none => .bad
 | .call c => match c.callee, c.args.toList.map (ev s) with
  | .builtin .len, [x] => lenA A (firstT T c.argTypes) x
  | .builtin .append, [x, y] => appA A T c.argTypes o.dst x y s.o
  | .builtin .min, .c (.v (.int k a)) :: r => match foldInt A.imin k a r with | some v => .give (.c (.v (.int k v))) | none => .bad
  | .builtin .max, .c (.v (.int k a)) :: r => match foldInt A.imax k a r with | some v => .give (.c (.v (.int k v))) | none => .bad
  | _, _ => .bad
 | _ => .bad
end
def glob : List (Nat × List Value) := []
def eT (e : TypeId × Bool) : TypeId := e.1
def frz (e : TypeId × Bool) (C : Array Value) : Nat × Nat := match e.2 with | false => (0, 0) | true => (C.size, C.size + 1)
theorem cells_inj {C C' : Array Value} {e e' : TypeId × Bool} (h : Obj.cells C (eT e) (frz e C) = Obj.cells C' (eT e') (frz e' C')) : C = C' ∧ e = e' := by
 injection h with h1 h2 h3
 subst h1
 obtain ⟨e1, e2⟩ := e
 obtain ⟨f1, f2⟩ := e'
 have h2' : e1 = f1 := h2
 subst h2'
 refine ⟨rfl, ?_⟩
 cases e2 <;> cases f2
 ·rfl
 ·have h4 : (0, 0) = (C.size, C.size + 1) := h3
  injection h4 with h5 h6; omega
 ·have h4 : (C.size, C.size + 1) = (0, 0) := h3
  injection h4 with h5 h6; omega
 ·rfl
theorem frz_size {e : TypeId × Bool} {C C' : Array Value} (h : C'.size = C.size) : frz e C' = frz e C := by
 unfold frz; rw [h]
theorem frz_off {e : TypeId × Bool} {C : Array Value} {q : Nat} (h : q < C.size) : (decide ((frz e C).1 ≤ q) && decide (q < (frz e C).2)) = false := by
 unfold frz
 cases e.2
 ·simp
 ·simp; omega
theorem setRow_frz (w : World) (b : Nat) (C C' : Array Value) (e : TypeId × Bool) (hC : w.heap[b]? = some (.cells C (eT e) (frz e C))) (hs : C'.size = C.size) : (w.setRow b C').heap[b]? = some (.cells C' (eT e) (frz e C')) := by
 rw [frz_size hs]; exact setRow_heap w b C C' _ _ hC
theorem run_storeCells_frz (P : Program) (g o : Nat) (t : TypeId × Bool) : ∀ (vs : List Value) (i : Nat) (cur : Array Value) (w : World), w.heap[g]? = some (.cells cur (eT t) (frz t cur)) → o + i + vs.length ≤ cur.size → (∀ v ∈ vs, v.oneCell' = true) →
  (storeCells ⟨g, o, none⟩ vs i).run P w = .ok () (w.setRow g (cur.toList.take (o + i) ++ vs ++ cur.toList.drop (o + i + vs.length)).toArray)
 | [], i, cur, w, hg, _, _ => by
  simp only [storeCells, List.append_nil, List.length_nil, Nat.add_zero, List.take_append_drop, Array.toArray_toList]
  rw [setRow_self w g cur _ _ hg]
  rfl
 | v :: rest, i, cur, w, hg, hl, h1 => by
  have hi : o + i < cur.size := by simp at hl; omega
  have hadd : (⟨g, o, none⟩ : Addr).add i = ⟨g, o + i, none⟩ := by unfold Addr.add; split <;> simp_all
  have hcell : w.cell? ⟨g, o + i, none⟩ = some cur[o + i] := by simp [World.cell?, hg, hi]
  have hfro : w.frozen? ⟨g, o + i, none⟩ = false := by
   unfold World.frozen?
   simp only [hg]
   exact frz_off hi
  have hst : (store ((⟨g, o, none⟩ : Addr).add i) v).run P w = .ok () (w.setRow g (cur.setIfInBounds (o + i) v)) := by
   rw [hadd, run_store P w _ v _ (h1 v (by simp)), hcell]
   simp [hfro, setCell_eq_setRow w g (o + i) cur (eT t) (frz t cur) v hg]
  have ih := run_storeCells_frz P g o t rest (i + 1) (cur.setIfInBounds (o + i) v) (w.setRow g (cur.setIfInBounds (o + i) v)) (setRow_frz w g cur _ t hg (by simp)) (by simp at hl ⊢; omega) (fun x hx => h1 x (by simp [hx]))
  simp only [storeCells, Sem.run_bind, hst, Result.andThen_ok, ih, setRow_setRow]
  congr 3
  have e := list_seg_step cur.toList (o + i) v rest (by simp at hl ⊢; omega)
  simpa [Array.toList_setIfInBounds, Nat.add_assoc] using e
inductive Id where
 | r (k : Nat)
 | s (k i j : Nat)
 deriving DecidableEq
def Id.root : Id → Nat
 | .r k => k
 | .s k _ _ => k
def subO' : AC → AO
 | .ow n sz g => .arr .rw [] n sz fun i j => (g i j).cp
 | _ => .gone
def obj (o : Nat → AO) : Id → AO
 | .r k => o k
 | .s k i j => match o k with
  | .arr _ _ n sz get => if i < n ∧ j < sz then subO' (get i j) else .gone
  | _ => .gone
abbrev Lay := Id → Option (Nat × Nat)
abbrev Obs := Id → AO

def RelI (I : Nat → Prop) (w : World) : AC → Value → Prop
 | .v x, y => y = x ∧ x.oneCell' = true
 | .bs n sz get, y => ∃ a cap, y = .slice a n cap ∧ n ≤ cap ∧ (0 < n → ∃ b off, a = some ⟨b, off, none⟩ ∧ I b ∧ ∀ i, i < n → ∀ j, j < sz → ∃ u, w.cell? ⟨b, off + (i * sz + j), none⟩ = some u ∧ RelI I w (get i j) u)
 | .bp n get, y => ∃ b off, y = .pointer (some ⟨b, off, none⟩) ∧ I b ∧ ∀ j, j < n → ∃ u, w.cell? ⟨b, off + j, none⟩ = some u ∧ RelI I w (get j) u
 | .fn f n caps, y => ∃ cs : Array Value, y = .func (.func f) #[] cs ∧ cs.size = n ∧ ∀ j, j < n → ∃ u, cs[j]? = some u ∧ RelI I w (caps j) u
 | .os _ _ _, _ => False
 | .ptr _ _, _ => False
 | .ep _ _ _, _ => False
 | .ow _ _ _, y => y.oneCell' = true
 | .junk, y => y.oneCell' = true
def Hdr (L : Lay) (w : World) (o : Obs) (id : Id) (off n : Nat) (y : Value) : Prop :=
 ∃ m rs N sz get, o id = .arr m rs N sz get ∧ ((L id = none ∧ N = 0 ∧ n = 0 ∧ off = 0 ∧ (∃ ad, y = .slice ad 0 0) ∧ ∀ c, m ≠ .cap c) ∨
  (∃ b base cap, L id = some (b, base) ∧ y = .slice (some ⟨b, base + off * sz, none⟩) n cap ∧ off + n ≤ N ∧ N ≤ off + cap ∧ (∀ c, m = .cap c → off + cap = c) ∧ ∃ C e, w.heap[b]? = some (.cells C (eT e) (frz e C)) ∧ base + (off + cap) * sz ≤ C.size) ∨
  (0 < N ∧ n = 0 ∧ off ≤ N ∧ ∃ ad cap, y = .slice ad 0 cap))
def RelC (L : Lay) (I : Nat → Prop) (w : World) (o : Obs) : AC → Value → Prop
 | .os k off n, y => Hdr L w o (.r k) off n y
 | .ptr k off, y => ∃ l b, o (.r k) = .var l ∧ L (.r k) = some (b, 0) ∧ y = .pointer (some ⟨b, off, none⟩)
 | .ep k i j, y => ∃ m rs N sz get b base, o (.r k) = .arr m rs N sz get ∧ L (.r k) = some (b, base) ∧ y = .pointer (some ⟨b, base + (i * sz + j), none⟩)
 | .fn f n caps, y => ∃ cs : Array Value, y = .func (.func f) #[] cs ∧ cs.size = n ∧ ∀ j, j < n → ∃ u, cs[j]? = some u ∧ RelC L I w o (caps j) u
 | .v x, y => RelI I w (.v x) y
 | .bs n sz get, y => RelI I w (.bs n sz get) y
 | .bp n get, y => RelI I w (.bp n get) y
 | .ow _ _ _, y => y.oneCell' = true
 | .junk, y => y.oneCell' = true
def RelX (L : Lay) (I : Nat → Prop) (w : World) (o : Obs) (id : Id) (i j : Nat) (x : AC) (y : Value) : Prop :=
 match x, id with
 | .ow n _ _, .r k => Hdr L w o (.s k i j) 0 n y
 | x, _ => RelC L I w o x y
def Rel1 (R : AC → Value → Prop) : AV → Value → Prop
 | .c x, y => R x y
 | .agg l, y => ∃ ys : Array Value, y = .agg ys ∧ ys.size = l.length ∧ ∀ (i : Nat) x, l[i]? = some x → ∃ u, ys[i]? = some u ∧ R x u
 | .tup _, _ => False
 | .any, _ => False
def RelV (R : AC → Value → Prop) : AV → Value → Prop
 | .tup l, y => ∃ ys : Array Value, y = .tuple ys ∧ ys.size = l.length ∧ ∀ (i : Nat) x, l[i]? = some x → ∃ u, ys[i]? = some u ∧ Rel1 R x u
 | .any, _ => True
 | x, y => Rel1 R x y
def ObjOk (L : Lay) (I : Nat → Prop) (w : World) (o : Obs) (id : Id) : Prop :=
 match o id with
 | .gone => True
 | .var l => ∃ b C e, L id = some (b, 0) ∧ ¬ I b ∧ w.heap[b]? = some (.cells C (eT e) (frz e C)) ∧ C.size = l.length ∧ ∀ (i : Nat) x, l[i]? = some x → ∃ u, C[i]? = some u ∧ RelC L I w o x u
 | .arr m rs N sz get => ((L id = none ∧ N = 0 ∧ ∀ c, m ≠ .cap c) ∨ ∃ b base C e, L id = some (b, base) ∧ (m.w = true → ¬ I b) ∧ w.heap[b]? = some (.cells C (eT e) (frz e C)) ∧ (base + N * sz ≤ C.size ∧ ∀ (q : Nat) u, C[q]? = some u → u.oneCell' = true) ∧
   ∀ i, i < N → ∀ j, j < sz → ∃ u, C[base + (i * sz + j)]? = some u ∧ RelX L I w o id i j (get i j) u) ∧
  (∀ i, i < N → ∀ j, j < sz → ∀ k ∈ (get i j).ref, k ∈ rs)
def Glo (I : Nat → Prop) (w : World) : Prop := ∀ x ∈ glob, I x.1 ∧ ∃ t f, w.heap[x.1]? = some (.cells x.2.toArray t f)
structure HRel (L : Lay) (I : Nat → Prop) (w : World) (o : Obs) : Prop where
 ok : ∀ id, ObjOk L I w o id
 inj : ∀ id id' b x x', o id ≠ .gone → o id' ≠ .gone → L id = some (b, x) → L id' = some (b, x') → id = id'
 imm : ∀ b, I b → b < w.heap.size
 glo : Glo I w
def RelT (R : AC → Value → Prop) (t : List AV) (tm : Array Value) : Prop := tm.size = t.length ∧ ∀ (i : Nat) x, t[i]? = some x → ∃ u, tm[i]? = some u ∧ RelV R x u
structure Fr where
 I : Nat → Prop
 E : Nat → Prop
 L : Nat → Option (Nat × Nat)
structure BelowE (E : Nat → Prop) (w w' : World) : Prop where
 os : w'.os = w.os
 tape : w'.tape = w.tape
 output : w'.output = w.output
 size : w.heap.size ≤ w'.heap.size
 block : ∀ k, k < w.heap.size → ¬ E k → w'.heap[k]? = w.heap[k]?
section
variable {E : Nat → Prop}
theorem BelowE.alloc {a w : World} (h : BelowE E a w) (o : Obj) : BelowE E a (w.alloc o) :=
 ⟨h.os, h.tape, h.output, Nat.le_trans h.size ((Below.refl 0 w).alloc (Nat.zero_le _) o).size, fun k hk he => (Below.heap_alloc w o k (Nat.lt_of_lt_of_le hk h.size)).trans (h.block k hk he)⟩
theorem BelowE.drew {a w : World} (h : BelowE E a w) : BelowE E a w.drew := ⟨h.os, h.tape, h.output, h.size, h.block⟩
theorem BelowE.refl (w : World) : BelowE E w w := ⟨rfl, rfl, rfl, Nat.le_refl _, fun _ _ _ => rfl⟩
theorem BelowE.go {E' : Nat → Prop} {a w w' : World} (h : BelowE E a w) (k : BelowE E' w w') (hE : ∀ b, E' b → a.heap.size ≤ b ∨ E b) : BelowE E a w' :=
 ⟨k.os.trans h.os, k.tape.trans h.tape, k.output.trans h.output, Nat.le_trans h.size k.size, fun i hi he => (k.block i (Nat.lt_of_lt_of_le hi h.size) (fun h' => by
  rcases hE i h' with h1 | h1
  ·omega
  ·exact he h1)).trans (h.block i hi he)⟩
theorem BelowE.one {a w w' : World} (h : BelowE E a w) (b : Nat) (hb : a.heap.size ≤ b ∨ E b) (h1 : w'.os = w.os) (h2 : w'.tape = w.tape) (h3 : w'.output = w.output) (h4 : w.heap.size ≤ w'.heap.size) (h5 : ∀ k, k ≠ b → w'.heap[k]? = w.heap[k]?) : BelowE E a w' :=
 ⟨h1.trans h.os, h2.trans h.tape, h3.trans h.output, Nat.le_trans h.size h4, fun k hk he => (h5 k (by
  rintro rfl
  rcases hb with hb | hb
  ·omega
  ·exact he hb)).trans (h.block k hk he)⟩
theorem BelowE.none {a w : World} (h : BelowE (fun _ => False) a w) : Below a.heap.size a w := ⟨h.os, h.tape, h.output, h.size, fun k hk => h.block k hk id⟩
end
def SameRow (w0 w : World) (l : Option (Nat × Nat)) : Prop := ∀ b x C e, l = some (b, x) → w0.heap[b]? = some (.cells C (eT e) (frz e C)) → ∃ C', w.heap[b]? = some (.cells C' (eT e) (frz e C')) ∧ C'.size = C.size
theorem SameRow.refl (w : World) (l : Option (Nat × Nat)) : SameRow w w l := fun b x C e _ h => ⟨C, h, rfl⟩
theorem SameRow.trans {a b c : World} {l : Option (Nat × Nat)} (h : SameRow a b l) (k : SameRow b c l) : SameRow a c l := fun q x C e hl hC => by
 obtain ⟨C', h1, h2⟩ := h q x C e hl hC
 obtain ⟨C2, h3, h4⟩ := k q x C' e hl h1
 exact ⟨C2, h3, h4.trans h2⟩
theorem SameRow.of {a b : World} {l : Option (Nat × Nat)} (h : ∀ q x, l = some (q, x) → b.heap[q]? = a.heap[q]?) : SameRow a b l := fun q x C e hl hC => ⟨C, by rw [h q x hl]; exact hC, rfl⟩
structure RelL (w0 : World) (I0 : Fr) (L : Lay) (I : Nat → Prop) (s : St) (a : Act) (w : World) : Prop where
 heap : HRel L I w (obj s.o)
 tmps : RelT (RelC L I w (obj s.o)) s.t a.tmps
 defers : a.defers = []
 below : BelowE I0.E w0 w
 old : ∀ b, I0.I b → I b
 only : ∀ b, I b → b < w0.heap.size → I0.I b ∨ I0.E b
 new : ∀ id b x, obj s.o id ≠ .gone → L id = some (b, x) → w0.heap.size ≤ b ∨ I0.E b
 kept : ∀ k, k % 2 = 1 → s.o k ≠ .gone → L (.r k) = I0.L k ∧ SameRow w0 w (I0.L k)
def Rel (w0 : World) (I0 : Fr) (s : St) (a : Act) (w : World) : Prop := ∃ L I, RelL w0 I0 L I s a w

def lookO (l : List (Nat × AO)) (k : Nat) : AO := match l with | [] => .gone | (j, x) :: r => if k = j then x else lookO r k
def Owned (L : Lay) (o : Obs) (b : Nat) : Prop := ∃ id x, o id ≠ .gone ∧ L id = some (b, x)
def AC.flat : AC → Prop
 | .v _ | .os .. | .ptr .. | .ep .. | .junk => True
 | .ow n sz g => ∀ i, i < n → ∀ j, j < sz → ∃ x, g i j = .v x
 | _ => False
def AV.flat1 : AV → Prop
 | .c x => x.flat
 | .agg l => ∀ x ∈ l, x.flat
 | .tup _ => False
 | .any => True
def AV.flat : AV → Prop
 | .tup l => ∀ x ∈ l, x.flat1
 | x => x.flat1
def AO.flat : AO → Prop
 | .gone => True
 | .var l => ∀ x ∈ l, x.flat
 | .arr _ _ n sz get => ∀ i, i < n → ∀ j, j < sz → (get i j).flat
def flatO : List (Nat × AO) → Prop
 | [] => True
 | (_, x) :: r => x.flat ∧ flatO r
def wfO : List (Nat × AO) → Prop
 | [] => True
 | (_, .arr _ rs n sz get) :: r => (∀ i, i < n → ∀ j, j < sz → ∀ k ∈ (get i j).ref, k ∈ rs) ∧ wfO r
 | (_, .var _) :: r => wfO r
 | (_, .gone) :: r => wfO r
def Fun (P : Program) (f : FuncId) (args : List AV) (o0 : List (Nat × AO)) (r : AV) (o1 : List (Nat × AO)) (fl : Bool) : Prop :=
 (∃ fn, P.funcs[f]? = some fn ∧ (fn.name == "runtime.NumGoroutine") = false ∧ fn.body.isNone = false) ∧
 (wfO o0 ∧ (fl = true → r.flat ∧ flatO o1)) ∧
 ∀ (vals : Array Value) (w : World) (I : Nat → Prop) (L : Lay), HRel L I w (obj (lookO o0)) → RelT (RelC L I w (obj (lookO o0))) args vals →
  Calls P f vals w fun e w' => ∃ v I' L', e = .returned v ∧ (∀ b, I b → I' b) ∧ (∀ b, I' b → b < w.heap.size → I b ∨ Owned L (obj (lookO o0)) b) ∧
   HRel L' I' w' (obj (lookO o1)) ∧ RelV (RelC L' I' w' (obj (lookO o1))) r v ∧ (∀ k, k % 2 = 1 → lookO o1 k ≠ .gone → L' (.r k) = L (.r k) ∧ SameRow w w' (L (.r k))) ∧
   (∀ id b x, obj (lookO o1) id ≠ .gone → L' id = some (b, x) → w.heap.size ≤ b ∨ Owned L (obj (lookO o0)) b) ∧ BelowE (Owned L (obj (lookO o0))) w w'

def AV.le (x y : AV) : Prop := ∀ L I w o v, RelV (RelC L I w o) x v → RelV (RelC L I w o) y v
theorem AV.le_refl (x : AV) : x.le x := fun _ _ _ _ _ h => h
def AV.les : List AV → List AV → Prop
 | [], [] => True
 | x :: r, y :: q => x.le y ∧ AV.les r q
 | _, _ => False
def St.le (s s' : St) : Prop := ∀ w0 I0 a w, Rel w0 I0 s a w → Rel w0 I0 s' a w
theorem St.le_refl (s : St) : s.le s := fun _ _ _ _ h => h
theorem St.le_trans {a b c : St} (h : a.le b) (h' : b.le c) : a.le c := fun _ _ _ _ hr => h' _ _ _ _ (h _ _ _ _ hr)
def AC.wk (x y : AC) : Prop := y = x ∨ (x = .v (.slice none 0 0) ∧ ∃ z g, y = .ow 0 z g ∨ y = .bs 0 z g)
theorem AC.wk.refl (x : AC) : x.wk x := .inl rfl
theorem AC.wk.of {x y : AC} (h : x = y) : x.wk y := .inl h.symm
theorem AC.wk.ow {z : Nat} {g : Nat → Nat → AC} : (AC.v (.slice none 0 0)).wk (.ow 0 z g) := .inr ⟨rfl, z, g, .inl rfl⟩
theorem AC.wk.bs {z : Nat} {g : Nat → Nat → AC} : (AC.v (.slice none 0 0)).wk (.bs 0 z g) := .inr ⟨rfl, z, g, .inr rfl⟩
theorem wkOf {n sz : Nat} {g g' : Nat → Nat → AC} (h : ∀ i, i < n → ∀ j, j < sz → g i j = g' i j) : ∀ i, i < n → ∀ j, j < sz → (g i j).wk (g' i j) := fun i hi j hj => .of (h i hi j hj)
def wkL : List (Nat × AO) → (List (Nat × AO) → Prop) → Prop
 | [], K => K []
 | (k, .arr m rs n sz get) :: r, K => ∃ n' get', n = n' ∧ (∀ i, i < n' → ∀ j, j < sz → (get i j).wk (get' i j)) ∧ wkL r fun l => K ((k, .arr m rs n' sz get') :: l)
 | (k, .var x) :: r, K => wkL r fun l => K ((k, .var x) :: l)
 | (k, .gone) :: r, K => wkL r fun l => K ((k, .gone) :: l)
def AO.eqv : AO → AO → Prop
 | .gone, .gone => True
 | .var l, .var l' => l = l'
 | .arr m rs n sz g, .arr m' rs' n' sz' g' => m = m' ∧ rs = rs' ∧ n = n' ∧ sz = sz' ∧ ∀ i, i < n → ∀ j, j < sz → (g i j).wk (g' i j)
 | _, _ => False
def Wk : List (Nat × AO) → List (Nat × AO) → Prop
 | [], [] => True
 | (k, x) :: r, (k', x') :: r' => k = k' ∧ x.eqv x' ∧ Wk r r'
 | _, _ => False
theorem AO.eqv_refl (x : AO) : x.eqv x := by cases x <;> simp [AO.eqv, AC.wk.refl]
theorem Wk.refl : ∀ l, Wk l l
 | [] => trivial
 | (k, x) :: r => ⟨rfl, AO.eqv_refl x, Wk.refl r⟩
theorem wkL_iff : ∀ (l : List (Nat × AO)) (K : List (Nat × AO) → Prop), wkL l K → ∃ l', Wk l l' ∧ K l'
 | [], K, h => ⟨[], trivial, h⟩
 | (k, .arr m rs n sz get) :: r, K, h => by
  obtain ⟨n', get', rfl, h1, h2⟩ := h
  obtain ⟨l', h3, h4⟩ := wkL_iff r _ h2
  exact ⟨(k, .arr m rs n sz get') :: l', ⟨rfl, ⟨rfl, rfl, rfl, rfl, h1⟩, h3⟩, h4⟩
 | (k, .var x) :: r, K, h => by
  obtain ⟨l', h3, h4⟩ := wkL_iff r _ h
  exact ⟨(k, .var x) :: l', ⟨rfl, rfl, h3⟩, h4⟩
 | (k, .gone) :: r, K, h => by
  obtain ⟨l', h3, h4⟩ := wkL_iff r _ h
  exact ⟨(k, .gone) :: l', ⟨rfl, trivial, h3⟩, h4⟩

def hasArr : List (Nat × AO) → Bool
 | [] => false
 | (_, .arr ..) :: _ => true
 | (_, .var _) :: r => hasArr r
 | (_, .gone) :: r => hasArr r
def wkV (v : AV) (u : List (Nat × AO)) (K : AV → List (Nat × AO) → Prop) : Prop :=
 match hasArr u with
 | false => K v u
 | true => ∃ v', v = v' ∧ wkL u (K v')
theorem wkV_iff {v : AV} {u : List (Nat × AO)} {K : AV → List (Nat × AO) → Prop} (h : wkV v u K) : ∃ u', Wk u u' ∧ K v u' := by
 unfold wkV at h
 split at h
 ·exact ⟨u, Wk.refl u, h⟩
 ·obtain ⟨v', rfl, h⟩ := h
  exact wkL_iff _ _ h
abbrev Ren := List (Nat × Nat)
def Ren.to (σ : Ren) (k : Nat) : Option Nat := match σ with | [] => none | (a, b) :: r => if k = a then some b else Ren.to r k
def Ren.back (σ : Ren) (k : Nat) : Option Nat := match σ with | [] => none | (a, b) :: r => if k = b then some a else Ren.back r k
def AC.ren (f : Nat → Option Nat) : AC → AC
 | .os k a b => match f k with | some q => .os q a b | none => .junk
 | .ptr k a => match f k with | some q => .ptr q a | none => .junk
 | .ep k a b => match f k with | some q => .ep q a b | none => .junk
 | .fn g n caps => .fn g n fun j => if j < n then (caps j).ren f else caps j
 | x => x
def AV.ren (f : Nat → Option Nat) : AV → AV := AV.map (AC.ren f)
def AO.ren (f : Nat → Option Nat) : AO → AO := AO.map (AC.ren f) (fun rs => rs.filterMap f) fun rs => rs.all fun k => f k == some k

def AC.lentIn : AC → AC
 | .ow n sz g => .bs n sz g
 | .v x => .v x
 | .bs n sz g => .bs n sz g
 | .bp n g => .bp n g
 | _ => .junk
def AC.give (b : Nat → Option Nat) (o : Nat → AO) : AC → AC
 | .os k off n => match b k with
  | some q => .os q off n
  | none => match o k with
   | .arr _ rs _ sz get => .bs n sz fun i j => match get (off + i) j with
    | .os k' off' n' => if rs.contains k' then (match o k' with
     | .arr _ _ _ sz' get' => .bs n' sz' fun i' j' => (get' (off' + i') j').lentIn
     | _ => .junk) else .junk
    | x => x.lentIn
   | _ => .junk
 | .ptr k off => match b k with
  | some q => .ptr q off
  | none => match o k with
   | .var l => .bp (l.length - off) fun j => match l.getD (off + j) .junk with
    | .os k' off' n' => if (l.flatMap AC.ref).contains k' then (match o k' with
     | .arr _ _ _ sz' get' => .bs n' sz' fun i' j' => (get' (off' + i') j').lentIn
     | _ => .junk) else .junk
    | x => x.cp.lentIn
   | _ => .junk
 | .ep k i j => match b k with
  | some q => .ep q i j
  | none => .junk
 | .fn f n caps => .fn f n fun j => if j < n then (caps j).give b o else caps j
 | x => x
theorem RelI.mono {I I' : Nat → Prop} {w w' : World} (h : ∀ b, I b → I' b ∧ w'.heap[b]? = w.heap[b]?) : ∀ (x : AC) (y : Value), RelI I w x y → RelI I' w' x y := by
 intro x
 induction x with
 | bs n sz get ih =>
  intro y hy
  obtain ⟨a, cap, rfl, hnc, hc⟩ := hy
  refine ⟨a, cap, rfl, hnc, fun hn => ?_⟩
  obtain ⟨b, off, ha, hb, hcell⟩ := hc hn
  refine ⟨b, off, ha, (h b hb).1, fun i hi j hj => ?_⟩
  obtain ⟨u, hu, hr⟩ := hcell i hi j hj
  exact ⟨u, by rw [World.cell?_of_block (w := w) (h b hb).2]; exact hu, ih i j u hr⟩
 | bp n get ih =>
  intro y hy
  obtain ⟨b, off, hy, hb, hcell⟩ := hy
  refine ⟨b, off, hy, (h b hb).1, fun j hj => ?_⟩
  obtain ⟨u, hu, hr⟩ := hcell j hj
  exact ⟨u, by rw [World.cell?_of_block (w := w) (h b hb).2]; exact hu, ih j u hr⟩
 | fn f n caps ih =>
  intro y hy
  obtain ⟨cs, hy, hs, hc⟩ := hy
  refine ⟨cs, hy, hs, fun j hj => ?_⟩
  obtain ⟨u, hu, hr⟩ := hc j hj
  exact ⟨u, hu, ih j u hr⟩
 | _ => intro y hy; exact hy

theorem AO.map_arr {m : Md} {rs : List Nat} {n sz : Nat} {get : Nat → Nat → AC} {φ : AC → AC} {ψ : List Nat → List Nat} {χ : List Nat → Bool} : (AO.arr m rs n sz get).map φ ψ χ = .arr m (match χ rs with | true => rs | false => ψ rs) n sz (match χ rs with | true => get | false => fun i j => φ (get i j)) := by
 simp only [AO.map]
 cases χ rs <;> rfl
def AO.like : AO → AO → Prop
 | .var l, .var l' => l.length = l'.length
 | .arr m _ n sz _, .arr m' _ n' sz' _ => n = n' ∧ sz = sz' ∧ ∀ c, m' = .cap c → m = .cap c
 | _, _ => False
theorem AO.like_refl (x : AO) (h : x ≠ .gone) : x.like x := by cases x <;> simp_all [AO.like]
theorem AO.like_map (x : AO) (φ : AC → AC) (ψ : List Nat → List Nat) (χ : List Nat → Bool) (h : x ≠ .gone) : x.like (x.map φ ψ χ) := by
 cases x with
 | gone => exact (h rfl).elim
 | var l => simp [AO.like, AO.map]
 | arr m rs n sz g => rw [AO.map_arr]; simp [AO.like]
theorem AO.map_gone {x : AO} {φ : AC → AC} {ψ : List Nat → List Nat} {χ : List Nat → Bool} (h : x.map φ ψ χ ≠ .gone) : x ≠ .gone := by rintro rfl; exact h rfl

theorem RelI.one' {I : Nat → Prop} {w : World} {x : AC} {y : Value} (h : RelI I w x y) : y.oneCell' = true := by
 cases x with
 | v x => obtain ⟨rfl, h1⟩ := h; exact h1
 | bs n sz get => obtain ⟨_, _, rfl, _⟩ := h; rfl
 | bp n get => obtain ⟨_, _, rfl, _⟩ := h; rfl
 | fn f n caps => obtain ⟨_, rfl, _⟩ := h; rfl
 | os => exact h.elim
 | ptr => exact h.elim
 | ep => exact h.elim
 | ow => exact h
 | junk => exact h
theorem Hdr.one' {L : Lay} {w : World} {o : Obs} {id : Id} {off n : Nat} {y : Value} (h : Hdr L w o id off n y) : y.oneCell' = true := by
 obtain ⟨_, _, _, _, _, _, h⟩ := h
 rcases h with ⟨_, _, _, _, ⟨_, rfl⟩, _⟩ | ⟨_, _, _, _, rfl, _⟩ | ⟨_, _, _, _, _, rfl⟩ <;> rfl
theorem RelC.one' {L : Lay} {I : Nat → Prop} {w : World} {ob : Obs} {x : AC} {y : Value} (h : RelC L I w ob x y) : y.oneCell' = true := by
 cases x with
 | os k off n => exact Hdr.one' h
 | ptr k off => obtain ⟨_, _, _, _, rfl⟩ := h; rfl
 | ep k i j => obtain ⟨_, _, _, _, _, _, _, _, _, rfl⟩ := h; rfl
 | v x => exact RelI.one' (I := I) (w := w) (x := .v x) h
 | bs n sz g => exact RelI.one' (I := I) (w := w) (x := .bs n sz g) h
 | bp n g => exact RelI.one' (I := I) (w := w) (x := .bp n g) h
 | fn f n g => obtain ⟨_, rfl, _⟩ := h; rfl
 | ow => exact h
 | junk => exact h
theorem RelX.one' {L : Lay} {I : Nat → Prop} {w : World} {ob : Obs} {id : Id} {i j : Nat} {x : AC} {y : Value} (h : RelX L I w ob id i j x y) : y.oneCell' = true := by
 unfold RelX at h
 split at h
 ·exact Hdr.one' h
 ·exact RelC.one' h
theorem RelX.toC {L : Lay} {I : Nat → Prop} {w : World} {ob : Obs} {id : Id} {i j : Nat} {x : AC} {y : Value} (h : RelX L I w ob id i j x y) : RelC L I w ob x y := by
 have h1 := h.one'
 unfold RelX at h
 split at h
 ·exact h1
 ·exact h
theorem RelX.of {L : Lay} {I : Nat → Prop} {w : World} {ob : Obs} {id : Id} {i j : Nat} {x : AC} {y : Value} (h : RelC L I w ob x y) (hx : isOw x = false) : RelX L I w ob id i j x y := by
 unfold RelX
 split
 ·cases hx
 ·exact h
theorem RelC.toI {L : Lay} {I : Nat → Prop} {w : World} {o : Obs} : ∀ (x : AC) (y : Value), x.ref = [] → RelC L I w o x y → RelI I w x y := by
 intro x
 induction x with
 | fn f n caps ih =>
  intro y hr h
  obtain ⟨cs, hy, hs, hc⟩ := h
  refine ⟨cs, hy, hs, fun j hj => ?_⟩
  obtain ⟨u, hu, hr'⟩ := hc j hj
  refine ⟨u, hu, ih j u ?_ hr'⟩
  simp only [AC.ref, List.flatMap_eq_nil_iff] at hr
  exact hr j (by simpa using hj)
 | os => intro y hr; simp [AC.ref] at hr
 | ptr => intro y hr; simp [AC.ref] at hr
 | ep => intro y hr; simp [AC.ref] at hr
 | _ => intro y _ h; exact h
theorem RelI.toC {L : Lay} {I : Nat → Prop} {w : World} {o : Obs} : ∀ (x : AC) (y : Value), RelI I w x y → RelC L I w o x y := by
 intro x
 induction x with
 | fn f n caps ih =>
  intro y h
  obtain ⟨cs, hy, hs, hc⟩ := h
  refine ⟨cs, hy, hs, fun j hj => ?_⟩
  obtain ⟨u, hu, hr'⟩ := hc j hj
  exact ⟨u, hu, ih j u hr'⟩
 | os => intro y h; exact h.elim
 | ptr => intro y h; exact h.elim
 | ep => intro y h; exact h.elim
 | _ => intro y h; exact h

structure Kept (L : Lay) (w : World) (o : Obs) (id : Id) (L' : Lay) (w' : World) (o' : Obs) (id' : Id) : Prop where
 lay : L' id' = L id
 like : (o id).like (o' id')
 blk : ∀ b x C e, L id = some (b, x) → w.heap[b]? = some (.cells C (eT e) (frz e C)) → ∃ C', w'.heap[b]? = some (.cells C' (eT e) (frz e C')) ∧ C'.size = C.size
section
variable {ks : List Nat} {L L' : Lay} {I I' : Nat → Prop} {w w' : World} {o o' : Obs} {φ : AC → AC} {ψ : List Nat → List Nat} {χ : List Nat → Bool}
theorem Hdr.step {id id' : Id} (K : Kept L w o id L' w' o' id') {off n : Nat} {y : Value} (h : Hdr L w o id off n y) : Hdr L' w' o' id' off n y := by
 obtain ⟨m, rs, N, sz, get, ho, hh⟩ := h
 have hl := K.like
 rw [ho] at hl
 cases ho' : o' id' with
 | gone => rw [ho'] at hl; exact hl.elim
 | var l => rw [ho'] at hl; exact hl.elim
 | arr m' rs' N' sz' get' =>
  rw [ho'] at hl
  obtain ⟨rfl, rfl, hm⟩ := hl
  refine ⟨m', rs', N, sz, get', ho', ?_⟩
  rw [K.lay]
  rcases hh with ⟨h1, h2, h3, h4, h5, h6⟩ | ⟨b, base, cap, h1, h2, h3, h4, h4', C, e, h5, h6⟩ | h1
  ·exact .inl ⟨h1, h2, h3, h4, h5, fun c hc => h6 c (hm c hc)⟩
  ·obtain ⟨C', hC', hs⟩ := K.blk b base C e h1 h5
   exact .inr (.inl ⟨b, base, cap, h1, h2, h3, h4, fun c hc => h4' c (hm c hc), C', e, hC', by omega⟩)
  ·exact .inr (.inr h1)
def Moves (φ : AC → AC) (L : Lay) (I : Nat → Prop) (w : World) (o : Obs) (L' : Lay) (I' : Nat → Prop) (w' : World) (o' : Obs) : Prop := ∀ x y, RelC L I w o x y → RelC L' I' w' o' (φ x) y
structure Turn (φ : AC → AC) (ψ : List Nat → List Nat) (χ : List Nat → Bool) : Prop where
 nil : χ [] = true
 same : ∀ rs, χ rs = true → ∀ x, (∀ k ∈ x.ref, k ∈ rs) → φ x = x
 ow : ∀ x, isOw (φ x) = isOw x
 rs : ∀ x rs, (∀ k ∈ x.ref, k ∈ rs) → ∀ k ∈ (φ x).ref, k ∈ ψ rs
theorem Turn.fix (T : Turn φ ψ χ) (x : AC) (h : x.ref = []) : φ x = x := T.same [] T.nil x (by rw [h]; simp)
theorem Rel1.map (M : Moves φ L I w o L' I' w' o') (x : AV) (y : Value) (h : Rel1 (RelC L I w o) x y) : Rel1 (RelC L' I' w' o') (x.map1 φ) y := by
 cases x with
 | c x => exact M x y h
 | agg l =>
  obtain ⟨ys, rfl, hs, hc⟩ := h
  refine ⟨ys, rfl, by simpa using hs, fun i x hx => ?_⟩
  simp only [List.getElem?_map, Option.map_eq_some_iff] at hx
  obtain ⟨x0, hx0, rfl⟩ := hx
  obtain ⟨u, hu, hr⟩ := hc i x0 hx0
  exact ⟨u, hu, M _ _ hr⟩
 | tup l => exact h.elim
 | any => exact h.elim
theorem RelV.map (M : Moves φ L I w o L' I' w' o') (x : AV) (y : Value) (h : RelV (RelC L I w o) x y) : RelV (RelC L' I' w' o') (x.map φ) y := by
 cases x with
 | c x => exact M x y h
 | agg l => exact Rel1.map M (.agg l) y h
 | tup l =>
  obtain ⟨ys, rfl, hs, hc⟩ := h
  refine ⟨ys, rfl, by simpa using hs, fun i x hx => ?_⟩
  simp only [List.getElem?_map, Option.map_eq_some_iff] at hx
  obtain ⟨x0, hx0, rfl⟩ := hx
  obtain ⟨u, hu, hr⟩ := hc i x0 hx0
  exact ⟨u, hu, Rel1.map M _ _ hr⟩
 | any => trivial
theorem RelT.map (M : Moves φ L I w o L' I' w' o') {t : List AV} {tm : Array Value} (h : RelT (RelC L I w o) t tm) : RelT (RelC L' I' w' o') (t.map (AV.map φ)) tm := by
 refine ⟨by simpa using h.1, fun i x hx => ?_⟩
 simp only [List.getElem?_map, Option.map_eq_some_iff] at hx
 obtain ⟨x0, hx0, rfl⟩ := hx
 obtain ⟨u, hu, hr⟩ := h.2 i x0 hx0
 exact ⟨u, hu, RelV.map M _ _ hr⟩
structure Keeps (ks : List Nat) (L : Lay) (I : Nat → Prop) (w : World) (o : Obs) (L' : Lay) (I' : Nat → Prop) (w' : World) (o' : Obs) : Prop where
 imm : ∀ b, I b → I' b ∧ w'.heap[b]? = w.heap[b]?
 obj : ∀ k, ks.contains k = false → o (.r k) ≠ .gone → Kept L w o (.r k) L' w' o' (.r k)
theorem Keeps.moves (K : Keeps ks L I w o L' I' w' o') : Moves (AC.kill ks) L I w o L' I' w' o' := by
 intro x
 induction x with
 | v x => intro y h; exact h
 | bs n sz get => intro y h; exact RelI.mono K.imm _ _ h
 | bp n get => intro y h; exact RelI.mono K.imm _ _ h
 | junk => intro y h; exact h
 | ow n sz g => intro y h; exact h
 | fn f n caps ih =>
  intro y h
  obtain ⟨cs, hy, hs, hc⟩ := h
  refine ⟨cs, hy, hs, fun j hj => ?_⟩
  obtain ⟨u, hu, hr⟩ := hc j hj
  refine ⟨u, hu, ?_⟩
  simp only [if_pos hj]
  exact ih j u hr
 | os k off n =>
  intro y h
  by_cases hk : ks.contains k = true
  ·simp only [AC.kill, hk, if_true]; exact h.one'
  ·have hk' : ks.contains k = false := by simpa using hk
   simp only [AC.kill, hk', Bool.false_eq_true, if_false]
   refine Hdr.step (K.obj k hk' ?_) h
   obtain ⟨_, _, _, _, _, ho, _⟩ := h
   rw [ho]; simp
 | ptr k off =>
  intro y h
  by_cases hk : ks.contains k = true
  ·simp only [AC.kill, hk, if_true]; exact h.one'
  ·have hk' : ks.contains k = false := by simpa using hk
   simp only [AC.kill, hk', Bool.false_eq_true, if_false]
   obtain ⟨l, b, ho, hL0, hy⟩ := h
   obtain ⟨hL, hlike, _⟩ := K.obj k hk' (by rw [ho]; simp)
   rw [ho] at hlike
   cases ho' : o' (.r k) with
   | gone => rw [ho'] at hlike; exact hlike.elim
   | var l' => exact ⟨l', b, ho', by rw [hL]; exact hL0, hy⟩
   | arr m' rs' N' sz' get' => rw [ho'] at hlike; exact hlike.elim
 | ep k i j =>
  intro y h
  by_cases hk : ks.contains k = true
  ·simp only [AC.kill, hk, if_true]; exact h.one'
  ·have hk' : ks.contains k = false := by simpa using hk
   simp only [AC.kill, hk', Bool.false_eq_true, if_false]
   obtain ⟨m, rs, N, sz, get, b, base, ho, hL0, hy⟩ := h
   obtain ⟨hL, hlike, _⟩ := K.obj k hk' (by rw [ho]; simp)
   rw [ho] at hlike
   cases ho' : o' (.r k) with
   | gone => rw [ho'] at hlike; exact hlike.elim
   | var l => rw [ho'] at hlike; exact hlike.elim
   | arr m' rs' N' sz' get' =>
    rw [ho'] at hlike
    obtain ⟨rfl, rfl, _⟩ := hlike
    exact ⟨m', rs', N, sz, get', b, base, ho', by rw [hL]; exact hL0, hy⟩
theorem kill_ref (ks : List Nat) : ∀ (x : AC), ∀ k ∈ (x.kill ks).ref, k ∈ x.ref ∧ k ∉ ks := by
 intro x
 induction x with
 | fn f n caps ih =>
  intro k hk
  simp only [AC.kill, AC.ref, List.mem_flatMap] at hk ⊢
  obtain ⟨j, hj, hk⟩ := hk
  rw [if_pos (by simpa using hj)] at hk
  exact ⟨⟨j, hj, (ih j k hk).1⟩, (ih j k hk).2⟩
 | os q a b =>
  intro k hk
  by_cases h : q ∈ ks
  ·simp [AC.kill, h, AC.ref] at hk
  ·simp [AC.kill, h, AC.ref] at hk ⊢; subst hk; exact ⟨rfl, h⟩
 | ptr q a =>
  intro k hk
  by_cases h : q ∈ ks
  ·simp [AC.kill, h, AC.ref] at hk
  ·simp [AC.kill, h, AC.ref] at hk ⊢; subst hk; exact ⟨rfl, h⟩
 | ep q a b =>
  intro k hk
  by_cases h : q ∈ ks
  ·simp [AC.kill, h, AC.ref] at hk
  ·simp [AC.kill, h, AC.ref] at hk ⊢; subst hk; exact ⟨rfl, h⟩
 | _ => intro k hk; simp [AC.kill, AC.ref] at hk
theorem AC.kill_id {ks : List Nat} : ∀ {x : AC}, (∀ k ∈ x.ref, k ∉ ks) → x.kill ks = x := by
 intro x
 induction x with
 | fn f n caps ih =>
  intro h
  simp only [AC.kill]
  congr 1
  funext j
  by_cases hj : j < n
  ·rw [if_pos hj]
   refine ih j fun k hk => h k ?_
   simp only [AC.ref, List.mem_flatMap]
   exact ⟨j, by simpa using hj, hk⟩
  ·rw [if_neg hj]
 | os q a b => intro h; simp [AC.ref] at h; simp [AC.kill, h]
 | ptr q a => intro h; simp [AC.ref] at h; simp [AC.kill, h]
 | ep q a b => intro h; simp [AC.ref] at h; simp [AC.kill, h]
 | _ => intro h; rfl
theorem isOw_kill (ks : List Nat) (x : AC) : isOw (x.kill ks) = isOw x := by
 cases x with
 | os q a b => by_cases h : q ∈ ks <;> simp [AC.kill, h, isOw]
 | ptr q a => by_cases h : q ∈ ks <;> simp [AC.kill, h, isOw]
 | ep q a b => by_cases h : q ∈ ks <;> simp [AC.kill, h, isOw]
 | _ => rfl
theorem Turn.kill (ks : List Nat) : Turn (AC.kill ks) id (without ks) :=
 ⟨rfl, fun rs h x hx => AC.kill_id (fun k hk hks => by
   have h1 := List.all_eq_true.1 h k (hx k hk)
   simp at h1
   exact h1 hks), isOw_kill ks, fun x rs h k hk => by
  obtain ⟨h1, h2⟩ := kill_ref ks x k hk
  exact h k h1⟩
theorem AC.kill_nil (x : AC) : x.kill [] = x := AC.kill_id (by simp)
theorem AC.kill_nil' : AC.kill [] = id := funext AC.kill_nil
theorem AV.map1_id (x : AV) : x.map1 id = x := by cases x <;> simp [AV.map1]
theorem AV.map_id (x : AV) : x.map id = x := by
 cases x with
 | tup l => simp only [AV.map, AV.tup.injEq]; exact List.map_id'' (fun y => AV.map1_id y) l
 | c x => rfl
 | agg l => exact AV.map1_id (.agg l)
 | any => rfl
theorem AV.kill_nil (x : AV) : x.kill [] = x := by unfold AV.kill; rw [AC.kill_nil', AV.map_id]
theorem AV.kill_nil' : AV.kill [] = id := funext AV.kill_nil
theorem without_nil (rs : List Nat) : without [] rs = true := by simp [without]
theorem AO.kill_nil (x : AO) : x.kill [] = x := by
 cases x with
 | gone => rfl
 | var l => simp [AO.kill, AO.map, AC.kill_nil']
 | arr m rs n sz g => simp [AO.kill, AO.map, without_nil]
theorem subO'_map (T : Turn φ ψ χ) (x : AC) : (subO' x).map φ ψ χ = subO' x := by
 cases x <;> simp [subO', AO.map, T.nil]
theorem obj_map {o o' : Nat → AO} {k : Nat} (T : Turn φ ψ χ) (h : o' k = (o k).map φ ψ χ) (i j : Nat) : obj o' (.s k i j) = obj o (.s k i j) := by
 simp only [obj, h]
 cases hk : o k with
 | gone => rfl
 | var l => rfl
 | arr m rs n sz g =>
  rw [AO.map_arr]
  cases hrs : χ rs with
  | true => rfl
  | false =>
   simp only
   split
   ·have h1 := T.ow (g i j)
    cases hg : g i j with
    | ow a b c => rw [T.fix _ (by simp [AC.ref])]
    | _ =>
     rw [hg] at h1
     have : subO' (φ (g i j)) = .gone := by
      revert h1; rw [hg]; generalize φ _ = z; intro h1; cases z <;> first | rfl | (simp [isOw] at h1)
     rw [hg] at this
     rw [this]; rfl
   ·rfl
theorem RelX.map (T : Turn φ ψ χ) (M : Moves φ L I w o L' I' w' o') {id : Id} {i j : Nat} (hs : ∀ k, id = .r k → o (.s k i j) ≠ .gone → Kept L w o (.s k i j) L' w' o' (.s k i j)) {x : AC} {y : Value} (h : RelX L I w o id i j x y) : RelX L' I' w' o' id i j (φ x) y := by
 cases hx : isOw x with
 | false =>
  have h2 : RelC L I w o x y := h.toC
  exact RelX.of (M _ _ h2) (by rw [T.ow, hx])
 | true =>
  cases x with
  | ow n sz g =>
   rw [T.fix _ (by simp [AC.ref])]
   cases id with
   | s k i' j' => exact h
   | r k =>
    refine Hdr.step (hs k rfl ?_) h
    obtain ⟨_, _, _, _, _, ho, _⟩ := h
    rw [ho]; simp
  | _ => cases hx
theorem ObjOk.map (T : Turn φ ψ χ) (M : Moves φ L I w o L' I' w' o') {id : Id} (h : ObjOk L I w o id) (ho : o' id = (o id).map φ ψ χ) (hL : o id ≠ .gone → L' id = L id)
  (hb' : o id ≠ .gone → ∀ b x, L id = some (b, x) → w'.heap[b]? = w.heap[b]? ∧ (¬ I b → ¬ I' b)) (hs : ∀ k i j, id = .r k → o (.s k i j) ≠ .gone → Kept L w o (.s k i j) L' w' o' (.s k i j)) : ObjOk L' I' w' o' id := by
 unfold ObjOk at h ⊢
 rw [ho]
 cases hok : o id with
 | gone => simp [AO.map]
 | var l =>
  have hb := hb' (by rw [hok]; simp)
  have hL := hL (by rw [hok]; simp)
  rw [hok] at h
  obtain ⟨b, C, e, h1, h2, h3, h4, h5⟩ := h
  simp only [AO.map]
  refine ⟨b, C, e, by rw [hL]; exact h1, (hb b 0 h1).2 h2, (hb b 0 h1).1.trans h3, by simpa using h4, fun i x hx => ?_⟩
  simp only [List.getElem?_map, Option.map_eq_some_iff] at hx
  obtain ⟨x0, hx0, rfl⟩ := hx
  obtain ⟨u, hu, hr⟩ := h5 i x0 hx0
  exact ⟨u, hu, M _ _ hr⟩
 | arr m rs N sz get =>
  have hb := hb' (by rw [hok]; simp)
  have hL := hL (by rw [hok]; simp)
  rw [hok] at h
  obtain ⟨h, hrs⟩ := h
  have key : ∀ get' : Nat → Nat → AC, (∀ i, i < N → ∀ j, j < sz → get' i j = φ (get i j)) → ((L' id = none ∧ N = 0 ∧ ∀ c, m ≠ .cap c) ∨ ∃ b base C e, L' id = some (b, base) ∧ (m.w = true → ¬ I' b) ∧ w'.heap[b]? = some (.cells C (eT e) (frz e C)) ∧ (base + N * sz ≤ C.size ∧ ∀ (q : Nat) u, C[q]? = some u → u.oneCell' = true) ∧
    ∀ i, i < N → ∀ j, j < sz → ∃ u, C[base + (i * sz + j)]? = some u ∧ RelX L' I' w' o' id i j (get' i j) u) := by
   intro get' hg
   rcases h with ⟨h1, h2⟩ | ⟨b, base, C, e, h1, h2, h3, h4, h5⟩
   ·exact .inl ⟨by rw [hL]; exact h1, h2⟩
   ·refine .inr ⟨b, base, C, e, by rw [hL]; exact h1, fun hm => (hb b base h1).2 (h2 hm), (hb b base h1).1.trans h3, h4, fun i hi j hj => ?_⟩
    obtain ⟨u, hu, hr⟩ := h5 i hi j hj
    exact ⟨u, hu, by rw [hg i hi j hj]; exact RelX.map T M (fun k hk => hs k i j hk) hr⟩
  simp only [AO.map]
  cases hψ : χ rs with
  | true => exact ⟨key get fun i hi j hj => (T.same rs hψ _ (hrs i hi j hj)).symm, hrs⟩
  | false =>
   exact ⟨key _ fun i hi j hj => rfl, fun i hi j hj => T.rs _ _ (hrs i hi j hj)⟩
theorem HRel.lt (h : HRel L I w o) {id : Id} {b x : Nat} (hk : o id ≠ .gone) (hL : L id = some (b, x)) : b < w.heap.size ∧ ∃ C e, w.heap[b]? = some (.cells C (eT e) (frz e C)) := by
 have h0 := h.ok id
 unfold ObjOk at h0
 cases hok : o id with
 | gone => exact (hk hok).elim
 | var l =>
  rw [hok] at h0
  obtain ⟨b', C, e, h1, h2, h3, h4⟩ := h0
  rw [hL] at h1; injection h1 with h1; injection h1 with h1 h1'; subst h1
  exact ⟨(Array.getElem?_eq_some_iff.1 h3).1, C, e, h3⟩
 | arr m rs N sz get =>
  rw [hok] at h0
  rcases h0.1 with ⟨h1, _⟩ | ⟨b', base, C, e, h1, h2, h3, h4⟩
  ·rw [hL] at h1; cases h1
  ·rw [hL] at h1; injection h1 with h1; injection h1 with h1 h1'; subst h1
   exact ⟨(Array.getElem?_eq_some_iff.1 h3).1, C, e, h3⟩
theorem HRel.var (h : HRel L I w o) {id : Id} {l : List AC} (hl : o id = .var l) : ∃ b C e, L id = some (b, 0) ∧ ¬ I b ∧ w.heap[b]? = some (.cells C (eT e) (frz e C)) ∧ C.size = l.length ∧ ∀ (i : Nat) x, l[i]? = some x → ∃ u, C[i]? = some u ∧ RelC L I w o x u := by
 have := h.ok id; unfold ObjOk at this; rw [hl] at this; exact this
theorem HRel.arr (h : HRel L I w o) {id : Id} {m : Md} {rs : List Nat} {N sz : Nat} {get : Nat → Nat → AC} (hl : o id = .arr m rs N sz get) : ((L id = none ∧ N = 0 ∧ ∀ c, m ≠ .cap c) ∨ ∃ b base C e, L id = some (b, base) ∧ (m.w = true → ¬ I b) ∧ w.heap[b]? = some (.cells C (eT e) (frz e C)) ∧ (base + N * sz ≤ C.size ∧ ∀ (q : Nat) u, C[q]? = some u → u.oneCell' = true) ∧
   ∀ i, i < N → ∀ j, j < sz → ∃ u, C[base + (i * sz + j)]? = some u ∧ RelX L I w o id i j (get i j) u) ∧
  (∀ i, i < N → ∀ j, j < sz → ∀ k ∈ (get i j).ref, k ∈ rs) := by
 have := h.ok id; unfold ObjOk at this; rw [hl] at this; exact this
theorem obj_s {o : Nat → AO} {k i j : Nat} (h : obj o (.s k i j) ≠ .gone) : ∃ m rs n sz get a b g, o k = .arr m rs n sz get ∧ i < n ∧ j < sz ∧ get i j = .ow a b g ∧ obj o (.s k i j) = .arr .rw [] a b fun i j => (g i j).cp := by
 simp only [obj] at h ⊢
 cases hk : o k with
 | gone => rw [hk] at h; exact (h rfl).elim
 | var l => rw [hk] at h; exact (h rfl).elim
 | arr m rs n sz get =>
  rw [hk] at h
  simp only at h ⊢
  split at h
  ·rename_i hlt
   rw [if_pos hlt]
   cases hg : get i j with
   | ow a b g => exact ⟨m, rs, n, sz, get, a, b, g, rfl, hlt.1, hlt.2, hg, rfl⟩
   | _ => rw [hg] at h; exact (h rfl).elim
  ·exact (h rfl).elim
theorem Glo.mono {I I' : Nat → Prop} {w w' : World} (h : ∀ b, I b → I' b ∧ w'.heap[b]? = w.heap[b]?) (g : Glo I w) : Glo I' w' := fun x hx => by
 obtain ⟨h1, t, f, h2⟩ := g x hx
 exact ⟨(h _ h1).1, t, f, by rw [(h _ h1).2]; exact h2⟩
theorem RelL.step {w0 : World} {I0 : Fr} {s : St} {a : Act} {o' : Nat → AO} (h : RelL w0 I0 L I s a w) (T : Turn φ ψ χ) (M : Moves φ L I w (AM.obj s.o) L' I' w' (AM.obj o')) (u : Nat → Prop)
  (hsame : ∀ k, ¬ u k → o' k = .gone ∨ (o' k = (s.o k).map φ ψ χ ∧ ∀ id : Id, id.root = k → AM.obj s.o id ≠ .gone → L' id = L id ∧ ∀ b x, L id = some (b, x) → w'.heap[b]? = w.heap[b]? ∧ (¬ I b → ¬ I' b)))
  (hu : ∀ k, u k → ∀ id : Id, id.root = k → ObjOk L' I' w' (AM.obj o') id)
  (hinj : ∀ id id' b x x', AM.obj o' id ≠ .gone → AM.obj o' id' ≠ .gone → L' id = some (b, x) → L' id' = some (b, x') → id = id')
  (himm : ∀ b, I' b → b < w'.heap.size) (hglo : Glo I' w') (hold : ∀ b, I b → I' b) (honly : ∀ b, I' b → b < w0.heap.size → I0.I b ∨ I0.E b) (hbel : BelowE I0.E w0 w') (hnew : ∀ id b x, AM.obj o' id ≠ .gone → L' id = some (b, x) → w0.heap.size ≤ b ∨ I0.E b)
  (hkept : ∀ k, k % 2 = 1 → o' k ≠ .gone → L' (.r k) = I0.L k ∧ SameRow w0 w' (I0.L k)) :
  RelL w0 I0 L' I' ⟨s.t.map (AV.map φ), o'⟩ a w' := by
 refine ⟨⟨fun id => ?_, hinj, himm, hglo⟩, RelT.map M h.tmps, h.defers, hbel, fun b hb => hold b (h.old b hb), honly, hnew, hkept⟩
 by_cases huk : u id.root
 ·exact hu _ huk id rfl
 ·rcases hsame id.root huk with hg | ⟨h1, h2⟩
  ·unfold ObjOk
   have : AM.obj o' id = .gone := by
    cases id with
    | r k => exact hg
    | s k i j => simp only [AM.obj]; rw [show o' k = .gone from hg]
   rw [this]; trivial
  ·have hid : AM.obj o' id = (AM.obj s.o id).map φ ψ χ := by
    cases id with
    | r k => exact h1
    | s k i j =>
     have h1' : o' k = (s.o k).map φ ψ χ := h1
     rw [obj_map T h1' i j]
     simp only [AM.obj]
     cases s.o k with
     | gone => rfl
     | var l => rfl
     | arr m rs n sz g =>
      simp only
      split
      ·exact (subO'_map T _).symm
      ·rfl
   refine (h.heap.ok id).map T M hid (fun hg => (h2 id rfl hg).1) (fun hg => (h2 id rfl hg).2) (fun k i j hk hg => ?_)
   subst hk
   obtain ⟨g1, g2⟩ := h2 (.s k i j) rfl hg
   refine ⟨g1, ?_, fun b x C e hL hC => ⟨C, by rw [(g2 b x hL).1]; exact hC, rfl⟩⟩
   have h1' : o' k = (s.o k).map φ ψ χ := h1
   rw [obj_map T h1' i j]
   exact AO.like_refl _ hg
end
def TOk (P : Program) (T : TT) : Prop := ∀ (t : Nat) d, (T t) = some d → P.underlying t = some d.und ∧ (∃ i, P.info? t = some i ∧ i.size = d.size ∧ i.bytes = d.bytes ∧ i.zero = some d.zero) ∧ (∀ x ∈ d.zero.cells.toList, x.oneCell' = true) ∧ (d.eqs = true → P.stoodInHeld t = false ∧ P.eqGuardType P.depth t = false ∧ (fieldsOf d.und).all (fun f => f.name != "_") = true)
def OpDone (P : Program) (w0 : World) (I0 : Fr) (o : Oper) (a : Act) (w : World) (s' : St) : Prop :=
 ∃ r y w', (execOp a.eval o).run P w = .ok r w' ∧ (r = .value y ∨ (r = .skip ∧ y = undef)) ∧ Rel w0 I0 s' (a.put o.dst y) w'
section
variable {P : Program} {T : TT} {w0 w : World} {I0 : Fr} {I : Nat → Prop} {L : Lay} {s : St} {a : Act} {o : Oper} {ob : Obs}

theorem RelC.one {x : AC} {y : Value} (h : RelC L I w ob x y) (hx : x ≠ .junk) : y.oneCell' = true ∧ y.cells = #[y] := by
 have key : y.oneCell' = true → y.oneCell' = true ∧ y.cells = #[y] := fun h1 => ⟨h1, by cases y <;> simp_all [Value.cells, Value.oneCell']⟩
 exact key h.one'
theorem constAV_rel (v : Value) : RelV (RelC L I w ob) (constAV v) v := by
 unfold constAV
 split
 ·rename_i cs
  split
  ·rename_i h
   refine ⟨cs, rfl, by simp, fun i x hx => ?_⟩
   simp only [List.getElem?_map, Option.map_eq_some_iff, Array.getElem?_toList] at hx
   obtain ⟨u, hu, rfl⟩ := hx
   exact ⟨u, hu, rfl, by have := List.all_eq_true.1 h u (List.mem_of_getElem? (by rwa [← Array.getElem?_toList] at hu)); exact this⟩
  ·trivial
 ·rename_i cs
  split
  ·rename_i h
   refine ⟨cs, rfl, by simp at h; simp [h], fun i x hx => by simp at hx⟩
  ·trivial
 ·rename_i h1 h2
  exact ⟨rfl, by cases v <;> simp_all [Value.oneCell']⟩
theorem ev_rel (h : RelT (RelC L I w ob) s.t a.tmps) (x : Operand) : RelV (RelC L I w ob) (ev s x) (a.eval x) := by
 cases x with
 | tmp t =>
  simp only [ev, Act.eval]
  cases ht : s.t[t]? with
  | none =>
   have h1 : a.tmps[t]? = none := by
    simp only [List.getElem?_eq_none_iff] at ht
    simp [h.1, ht]
   simp only [List.getD_eq_getElem?_getD, ht, Array.getD_eq_getD_getElem?, h1, Option.getD_none]
   exact ⟨#[], rfl, rfl, fun i x hx => by simp at hx⟩
  | some x =>
   obtain ⟨u, hu, hr⟩ := h.2 t x ht
   simp only [List.getD_eq_getElem?_getD, ht, Array.getD_eq_getD_getElem?, hu, Option.getD_some]
   exact hr
 | const v => exact constAV_rel v
 | global g => trivial
 | func f => exact ⟨#[], rfl, rfl, fun j hj => absurd hj (by omega)⟩
theorem RelT.set {t : List AV} {tm : Array Value} {R : AC → Value → Prop} (h : RelT R t tm) (d : Nat) {x : AV} {y : Value} (hv : RelV R x y) : RelT R (t.set d x) (tm.setIfInBounds d y) := by
 refine ⟨by simp [h.1], fun i x' hx => ?_⟩
 rw [List.getElem?_set] at hx
 rw [Array.getElem?_setIfInBounds]
 split at hx
 ·rename_i hd
  subst hd
  split at hx
  ·rename_i hlt
   injection hx with hx; subst hx
   exact ⟨y, by simp [h.1, hlt], hv⟩
  ·cases hx
 ·rename_i hd
  rw [if_neg hd]
  exact h.2 i x' hx
theorem RelL.put (h : RelL w0 I0 L I s a w) (d : Option Nat) {x : AV} {y : Value} (hv : RelV (RelC L I w (obj s.o)) x y) : RelL w0 I0 L I (put s d x) (a.put d y) w := by
 cases d with
 | none => exact h
 | some d => exact ⟨h.heap, h.tmps.set d hv, h.defers, h.below, h.old, h.only, h.new, h.kept⟩
theorem done_give (h : RelL w0 I0 L I s a w) {x : AV} {y : Value} (hrun : (execOp a.eval o).run P w = .ok (.value y) w) (hv : RelV (RelC L I w (obj s.o)) x y) : OpDone P w0 I0 o a w (AM.put s o.dst x) :=
 ⟨_, y, w, hrun, .inl rfl, L, I, h.put o.dst hv⟩
theorem Rel1.toV {R : AC → Value → Prop} {x : AV} {y : Value} (h : Rel1 R x y) : RelV R x y := by
 cases x with
 | c x => exact h
 | agg l => exact h
 | tup l => exact h.elim
 | any => exact h.elim
theorem cells_rel {R : AC → Value → Prop} (hone : ∀ x y, R x y → x ≠ .junk → y.cells = #[y]) {x : AV} {y : Value} {cs : List AC} (h : RelV R x y) (hc : x.cells? = some cs) :
  y.cells.size = cs.length ∧ ∀ (i : Nat) c, cs[i]? = some c → ∃ u, y.cells[i]? = some u ∧ R c u := by
 cases x with
 | c x =>
  have hx : x ≠ .junk := by rintro rfl; simp [AV.cells?] at hc
  have : cs = [x] := by cases x <;> simp_all [AV.cells?]
  subst this
  rw [hone x y h hx]
  refine ⟨rfl, fun i c hi => ?_⟩
  cases i with
  | zero => simp at hi; subst hi; exact ⟨y, rfl, h⟩
  | succ i => simp at hi
 | agg l =>
  obtain ⟨ys, rfl, hs, hh⟩ := h
  simp only [AV.cells?, Option.some.injEq] at hc
  subst hc
  exact ⟨hs, hh⟩
 | tup l => simp [AV.cells?] at hc
 | any => simp [AV.cells?] at hc

theorem run_move {x : Operand} (ho : o.op = .move x ∨ o.op = .assign x) : (execOp a.eval o).run P w = .ok (.value (a.eval x)) w := by
 rcases ho with ho | ho <;> simp [execOp, ho]
theorem op_move (hR : RelL w0 I0 L I s a w) {x : Operand} (ho : o.op = .move x ∨ o.op = .assign x) : OpDone P w0 I0 o a w (AM.put s o.dst (ev s x)) :=
 done_give hR (run_move ho) (ev_rel hR.tmps x)
theorem bool_of {x : AV} {y : Value} {b : Bool} (h : RelV (RelC L I w ob) x y) (hx : x = .c (.v (.bool b))) : y = .bool b := by
 subst hx; exact h.1
theorem val_of {x : AV} {y v : Value} (h : RelV (RelC L I w ob) x y) (hx : x = .c (.v v)) : y = v := by
 subst hx; exact h.1
theorem op_pick (hR : RelL w0 I0 L I s a w) {c x y : Operand} (ho : o.op = .pick c x y) (A : Prims) (hok : (evalOp A T o s).ok) : OpDone P w0 I0 o a w ((evalOp A T o s).st o.dst s) := by
 simp only [evalOp, ho] at hok ⊢
 have hc := ev_rel hR.tmps c
 split at hok
 ·rename_i he
  have hb := bool_of hc he
  refine done_give hR (y := a.eval x) ?_ (ev_rel hR.tmps x)
  simp [execOp, ho, hb, asBool]
 ·rename_i he
  have hb := bool_of hc he
  refine done_give hR (y := a.eval y) ?_ (ev_rel hR.tmps y)
  simp [execOp, ho, hb, asBool]
 ·exact hok.elim
theorem bin_int (d : Option TD) (op : BinOp) (t : TypeId) (x y : Operand) (k k' : IntKind) (b b' : Int) (hok : (binA std d op (.c (.v (.int k b))) (.c (.v (.int k' b')))).ok) :
  ∃ z p, binA std d op (.c (.v (.int k b))) (.c (.v (.int k' b'))) = ⟨p, .c (.v z), [], []⟩ ∧ z.oneCell' = true ∧ (eqGuard op t x y (.int k b) (.int k' b')).run P w = .ok () w ∧ (binOp op t (.int k b) (.int k' b')).run P w = .ok z w := by
 have hg : (eqGuard op t x y (.int k b) (.int k' b')).run P w = .ok () w := by cases op <;> simp [eqGuard]
 by_cases hk : k = k'
 ·subst hk
  cases op <;> simp only [binA, intBin, if_true] at hok ⊢ <;> (try exact hok.elim) <;> refine ⟨_, _, rfl, rfl, hg, ?_⟩ <;>
   simp_all [binOp, Op.intArith, Op.intDiv, Op.intCmp, Op.intBits, Op.shift, std] <;> (try rfl) <;> (try (intro h; omega))
 ·cases op <;> simp only [binA, hk, if_false] at hok ⊢ <;> (try exact hok.elim) <;> refine ⟨_, _, rfl, rfl, hg, ?_⟩ <;>
   simp_all [binOp, Op.shift, std] <;> (try rfl) <;> (try (intro h; omega))
theorem bin_str (d : Option TD) (op : BinOp) (t : TypeId) (x y : Operand) (b b' : ByteArray) (hok : (binA std d op (.c (.v (.string b))) (.c (.v (.string b')))).ok) :
  ∃ z p, binA std d op (.c (.v (.string b))) (.c (.v (.string b'))) = ⟨p, .c (.v z), [], []⟩ ∧ z.oneCell' = true ∧ (eqGuard op t x y (.string b) (.string b')).run P w = .ok () w ∧ (binOp op t (.string b) (.string b')).run P w = .ok z w := by
 have hg : (eqGuard op t x y (.string b) (.string b')).run P w = .ok () w := by cases op <;> simp [eqGuard]
 cases op <;> simp only [binA, strBin] at hok ⊢ <;> (try exact hok.elim) <;> refine ⟨_, _, rfl, rfl, hg, ?_⟩ <;>
  simp_all [binOp, Op.stringOp, std, IntKind.max, IntKind.signed, IntKind.bits] <;> (try rfl) <;> (try omega)
theorem bin_bool (d : Option TD) (t : TypeId) (hd : isBoolT d = true → P.underlying t = some .bool) (op : BinOp) (x y : Operand) (b b' : Bool) (hok : (binA std d op (.c (.v (.bool b))) (.c (.v (.bool b')))).ok) :
  ∃ z p, binA std d op (.c (.v (.bool b))) (.c (.v (.bool b'))) = ⟨p, .c (.v z), [], []⟩ ∧ z.oneCell' = true ∧ (eqGuard op t x y (.bool b) (.bool b')).run P w = .ok () w ∧ (binOp op t (.bool b) (.bool b')).run P w = .ok z w := by
 have hg : (eqGuard op t x y (.bool b) (.bool b')).run P w = .ok () w := by cases op <;> simp [eqGuard]
 have he : ∀ h : isBoolT d = true, (Op.equal t (.bool b) (.bool b')).run P w = .ok (b == b') w := by
  intro h
  unfold Op.equal
  rw [show Op.maxDepth = 9999 + 1 from rfl, Op.equalIn]
  simp [run_underlying (hd h)]
 cases op <;> simp only [binA] at hok ⊢ <;> (try exact hok.elim) <;> refine ⟨_, _, rfl, rfl, hg, ?_⟩ <;>
  simp [binOp, he hok, std]
theorem op_bin0 (hT : TOk P T) (hR : RelL w0 I0 L I s a w) {op : BinOp} {t t' : TypeId} {x y : Operand} (ho : o.op = .binOp op t x y t') (hok : (binA std (T t) op (ev s x) (ev s y)).ok) : OpDone P w0 I0 o a w ((binA std (T t) op (ev s x) (ev s y)).st o.dst s) := by
 have hx := ev_rel hR.tmps x
 have hy := ev_rel hR.tmps y
 have hd : isBoolT ((T t)) = true → P.underlying t = some .bool := by
  intro h
  unfold isBoolT at h
  split at h
  ·rename_i d hd
   rw [(hT t d hd).1]
   split at h
   ·rename_i hu; rw [hu]
   ·cases h
  ·cases h
 revert hok hd
 generalize (T t) = d
 intro hok hd
 have key : ∀ u v : Value, ev s x = .c (.v u) → ev s y = .c (.v v) → (∃ z p, binA std d op (.c (.v u)) (.c (.v v)) = ⟨p, .c (.v z), [], []⟩ ∧ z.oneCell' = true ∧ (eqGuard op t x y u v).run P w = .ok () w ∧ (binOp op t u v).run P w = .ok z w) →
   OpDone P w0 I0 o a w ((binA std d op (ev s x) (ev s y)).st o.dst s) := by
  rintro u v ex ey ⟨z, p, h1, h2, h3, h4⟩
  rw [ex, ey, h1]
  refine done_give hR (y := z) ?_ ⟨rfl, h2⟩
  simp [execOp, ho, val_of hx ex, val_of hy ey, h3, h4]
 have hcases : (∃ k b k' b', ev s x = .c (.v (.int k b)) ∧ ev s y = .c (.v (.int k' b'))) ∨ (∃ b b', ev s x = .c (.v (.string b)) ∧ ev s y = .c (.v (.string b'))) ∨ (∃ b b', ev s x = .c (.v (.bool b)) ∧ ev s y = .c (.v (.bool b'))) := by
  unfold binA at hok
  split at hok
  ·rename_i k b k' b' ex ey; exact .inl ⟨k, b, k', b', ex, ey⟩
  ·rename_i b b' ex ey; exact .inr (.inl ⟨b, b', ex, ey⟩)
  ·rename_i b b' ex ey; exact .inr (.inr ⟨b, b', ex, ey⟩)
  ·exact hok.elim
 rcases hcases with ⟨k, b, k', b', ex, ey⟩ | ⟨b, b', ex, ey⟩ | ⟨b, b', ex, ey⟩
 ·rw [ex, ey] at hok; exact key _ _ ex ey (bin_int d op t x y k k' b b' hok)
 ·rw [ex, ey] at hok; exact key _ _ ex ey (bin_str d op t x y b b' hok)
 ·rw [ex, ey] at hok; exact key _ _ ex ey (bin_bool d t hd op x y b b' hok)
theorem agg_get {l : List AC} {y : Value} (h : RelV (RelC L I w ob) (.agg l) y) : ∃ ys : Array Value, y = .agg ys ∧ ∀ (i : Nat) x, l[i]? = some (.v x) → ys[i]? = some x := by
 obtain ⟨ys, rfl, hs, hc⟩ := h
 refine ⟨ys, rfl, fun i x hx => ?_⟩
 obtain ⟨u, hu, hr⟩ := hc i _ hx
 have hux : u = x := hr.1
 rw [hu, hux]
theorem run_part_one (t : TypeId) (cs : Array Value) (off : Nat) (v : Value) (d : TD) (hu : P.underlying t = some d.und) (ha : aggB d.und = false) (hv : cs[off]? = some v) : (part t cs off).run P w = .ok v w := by
 unfold part
 have : (isAgg t).run P w = .ok false w := by
  simp only [isAgg, Sem.run_bind, run_underlying hu, Result.andThen_ok]
  revert ha
  cases d.und <;> simp [aggB]
 simp [this, hv]
theorem run_part_agg (t : TypeId) (cs : Array Value) (off : Nat) (d : TD) (hu : P.underlying t = some d.und) (ha : aggB d.und = true) (hs : (Go.sizeOf t).run P w = .ok d.size w) : (part t cs off).run P w = .ok (.agg (cs.extract off (off + d.size))) w := by
 unfold part
 have : (isAgg t).run P w = .ok true w := by
  simp only [isAgg, Sem.run_bind, run_underlying hu, Result.andThen_ok]
  revert ha
  cases d.und <;> simp [aggB]
 simp [this, hs]
theorem sizeOf_T (hT : TOk P T) {t : Nat} {d : TD} (hd : T t = some d) : (Go.sizeOf t).run P w = .ok d.size w := by
 obtain ⟨i, h1, h2, _⟩ := (hT t d hd).2.1
 simp [Go.sizeOf, typeInfo, h1, h2]
theorem eqF_run (hT : TOk P T) : ∀ (d n : Nat) (l l' : List AC) (xs ys : Array Value) (hx : ∀ (i : Nat) x, l[i]? = some (.v x) → xs[i]? = some x) (hy : ∀ (i : Nat) x, l'[i]? = some (.v x) → ys[i]? = some x) (hdn : d ≤ n)
  (fs : List Field) (b : Bool), fs.all (fun f => f.name != "_") = true → eqF std T d l l' fs = some b → (Op.eqFields n xs ys fs).run P w = .ok b w := by
 intro d
 induction d with
 | zero => intro n l l' xs ys hx hy hdn fs b _ h; cases h
 | succ d ihd =>
  intro n l l' xs ys hx hy hdn fs
  obtain ⟨m, rfl⟩ : ∃ m, n = m + 1 := ⟨n - 1, by omega⟩
  induction fs with
  | nil => intro b _ h; simp [eqF] at h; subst h; simp [Op.eqFields]
  | cons f fs ihf =>
   intro b hn h
   simp only [List.all_cons, Bool.and_eq_true, bne_iff_ne, ne_eq] at hn
   have step : ∀ (u v : Value) (q r : Bool), (part f.type xs f.offset).run P w = .ok u w → (part f.type ys f.offset).run P w = .ok v w → (Op.equalIn (m + 1) f.type u v).run P w = .ok q w → eqF std T (d + 1) l l' fs = some r → (Op.eqFields (m + 1) xs ys (f :: fs)).run P w = .ok (q && r) w := by
    intro u v q r hu' hv hq hr
    have ih := ihf r hn.2 hr
    unfold Op.eqFields
    rw [if_pos hn.1]
    simp only [Sem.run_bind, hu', hv, Result.andThen_ok, hq]
    cases q
    ·simp
    ·simpa using ih
   have hfold : eqF std T (d + 1) l l' (f :: fs) = (match eqF std T (d + 1) l l' fs, T f.type with
     | some r, some td => match td.und, l[f.offset]?, l'[f.offset]? with
      | .int _, some (.v (.int k a)), some (.v (.int k' b)) => if k = k' then some (std.band (std.eq a b) r) else none
      | .bool, some (.v (.bool a)), some (.v (.bool b)) => some (std.band (std.beq a b) r)
      | .string, some (.v (.string a)), some (.v (.string b)) => some (std.band (std.seq a b) r)
      | .struct gs, _, _ => match td.eqs, eqF std T d ((l.drop f.offset).take td.size) ((l'.drop f.offset).take td.size) gs.toList with
       | true, some b => some (std.band b r)
       | _, _ => none
      | _, _, _ => none
     | _, _ => none) := rfl
   rw [hfold] at h
   split at h
   ·rename_i r td hr htd
    have hu := (hT f.type td htd).1
    split at h
    ·rename_i k0 k a' k' b' hund e1 e2
     split at h
     ·rename_i hk
      subst hk
      injection h with h; subst h
      exact step _ _ _ r (run_part_one f.type xs f.offset _ td hu (by rw [hund]; rfl) (hx _ _ e1)) (run_part_one f.type ys f.offset _ td hu (by rw [hund]; rfl) (hy _ _ e2)) (run_equalIn_int w m f.type k k0 a' b' (by rw [hu, hund])) hr
     ·cases h
    ·rename_i a' b' hund e1 e2
     injection h with h; subst h
     exact step _ _ _ r (run_part_one f.type xs f.offset _ td hu (by rw [hund]; rfl) (hx _ _ e1)) (run_part_one f.type ys f.offset _ td hu (by rw [hund]; rfl) (hy _ _ e2)) (run_equalIn_bool' w m f.type a' b' (by rw [hu, hund])) hr
    ·rename_i a' b' hund e1 e2
     injection h with h; subst h
     exact step _ _ _ r (run_part_one f.type xs f.offset _ td hu (by rw [hund]; rfl) (hx _ _ e1)) (run_part_one f.type ys f.offset _ td hu (by rw [hund]; rfl) (hy _ _ e2)) (run_equalIn_string w m f.type a' b' (by rw [hu, hund])) hr
    ·rename_i gs hund
     split at h
     ·rename_i q he hq
      injection h with h; subst h
      obtain ⟨g1, g2, g3⟩ := (hT f.type td htd).2.2.2 he
      rw [hund] at g3
      have hsz := sizeOf_T (w := w) hT htd
      have hfo : P.fieldsOf f.type = gs := by unfold Program.fieldsOf; rw [hu, hund]
      have hext : ∀ (l : List AC) (xs : Array Value), (∀ (i : Nat) x, l[i]? = some (.v x) → xs[i]? = some x) → ∀ (i : Nat) x, ((l.drop f.offset).take td.size)[i]? = some (.v x) → (xs.extract f.offset (f.offset + td.size))[i]? = some x := by
       intro l xs h i x hi
       rw [List.getElem?_take] at hi
       split at hi
       ·rename_i hlt
        rw [List.getElem?_drop] at hi
        have := h _ _ hi
        have hb := (Array.getElem?_eq_some_iff.1 this).1
        rw [Array.getElem?_extract, if_pos (by omega)]
        exact this
       ·cases hi
      exact step _ _ _ r (run_part_agg f.type xs f.offset td hu (by rw [hund]; rfl) hsz) (run_part_agg f.type ys f.offset td hu (by rw [hund]; rfl) hsz)
       (by rw [run_equalIn_struct w m f.type _ _ (by rw [hfo, hu, hund]) g1, hfo]; exact ihd m _ _ _ _ (hext l xs hx) (hext l' ys hy) (by omega) gs.toList q g3 hq) hr
     ·cases h
    ·cases h
   ·cases h
theorem boolsOf_get : ∀ {l : List AC} {x : List Bool}, boolsOf l = some x → ∀ (i : Nat) b, x[i]? = some b → l[i]? = some (.v (.bool b)) := by
 intro l
 induction l with
 | nil => intro x h i b hb; simp [boolsOf] at h; subst h; simp at hb
 | cons c r ih =>
  intro x h i b hb
  unfold boolsOf at h
  split at h
  ·rename_i h0; cases h0
  ·rename_i b0 r0 h0
   injection h0 with h1 h2
   subst h1; subst h2
   split at h
   ·rename_i l0 hl0
    injection h with h; subst h
    cases i with
    | zero => simp at hb; subst hb; rfl
    | succ i => simp only [List.getElem?_cons_succ] at hb ⊢; exact ih hl0 i b hb
   ·cases h
  ·cases h
theorem all_range_bool : ∀ (xs ys : List Bool), xs.length = ys.length → ((List.range xs.length).all fun i => xs.getD i false == ys.getD i false) = (xs == ys)
 | [], [], _ => rfl
 | x :: xs, y :: ys, h => by
  have ih := all_range_bool xs ys (by simpa using h)
  rw [List.length_cons, List.range_succ_eq_map, List.all_cons, List.all_map]
  simp only [List.getD_cons_zero, Function.comp_def, List.getD_cons_succ, ih]
  simp [List.cons_beq_cons]
 | [], _ :: _, h => by simp at h
 | _ :: _, [], h => by simp at h
theorem run_equalIn_bools (d : Nat) (t e : TypeId) (n : Nat) (td : TD) (ht : P.underlying t = some (.array n e)) (he : P.underlying e = some td.und) (hb : td.und = .bool) (hsz : ∀ w, (Go.sizeOf e).run P w = .ok 1 w)
  (xs ys : List Bool) (hx : xs.length = n) (hy : ys.length = n) (X Y : Array Value) (hX : ∀ (i : Nat) b, xs[i]? = some b → X[i]? = some (.bool b)) (hY : ∀ (i : Nat) b, ys[i]? = some b → Y[i]? = some (.bool b)) :
  (Op.equalIn (d + 2) t (.agg X) (.agg Y)).run P w = .ok (xs == ys) w := by
 rw [← all_range_bool xs ys (hx.trans hy.symm), hx, List.range_eq_range', Op.equalIn]
 simp only [Sem.run_bind, Go.run_underlying ht, Result.andThen_ok, hsz, Std.Legacy.Range.forIn_eq_forIn_range', Std.Legacy.Range.size, Nat.sub_zero, Nat.add_sub_cancel, Nat.div_one]
 have hl : ∀ i ∈ List.range' 0 n 1, i < n := fun i hi => by simpa using (List.mem_range'_1.1 hi).2
 generalize List.range' 0 n 1 = l at hl ⊢
 induction l with
 | nil => simp
 | cons i l ih =>
  have hi : i < n := hl i (by simp)
  have px : (part e X (i * 1)).run P w = .ok (.bool (xs.getD i false)) w := by
   refine run_part_one e X (i * 1) _ td he (by rw [hb]; rfl) ?_
   rw [Nat.mul_one]
   refine hX i _ ?_
   rw [List.getD_eq_getElem?_getD, List.getElem?_eq_getElem (by omega)]; rfl
  have py : (part e Y (i * 1)).run P w = .ok (.bool (ys.getD i false)) w := by
   refine run_part_one e Y (i * 1) _ td he (by rw [hb]; rfl) ?_
   rw [Nat.mul_one]
   refine hY i _ ?_
   rw [List.getD_eq_getElem?_getD, List.getElem?_eq_getElem (by omega)]; rfl
  have pe : (Op.equalIn (d + 1) e (.bool (xs.getD i false)) (.bool (ys.getD i false))).run P w = .ok (xs.getD i false == ys.getD i false) w :=
   run_equalIn_bool' w d e _ _ (by rw [he, hb])
  simp only [List.forIn_cons, Sem.run_bind, px, py, pe, Result.andThen_ok, List.all_cons]
  cases hq : (xs.getD i false == ys.getD i false)
  ·simp
  ·simp only [Bool.not_true, Bool.false_eq_true, if_false, Sem.run_pure, Result.andThen_ok, Bool.true_and]
   exact ih fun j hj => hl j (by simp [hj])
theorem op_bin (hT : TOk P T) (hR : RelL w0 I0 L I s a w) {op : BinOp} {t t' : TypeId} {x y : Operand} (ho : o.op = .binOp op t x y t') (hok : (evalOp std T o s).ok) : OpDone P w0 I0 o a w ((evalOp std T o s).st o.dst s) := by
 have hx := ev_rel hR.tmps x
 have hy := ev_rel hR.tmps y
 have h0 := op_bin0 (T := T) hT hR ho
 simp only [evalOp, ho] at hok ⊢
 split at hok
 ·rename_i l l' ex ey
  rw [ex] at hx; rw [ey] at hy
  obtain ⟨xs, hx1, hx2⟩ := agg_get hx
  obtain ⟨ys, hy1, hy2⟩ := agg_get hy
  unfold aggEq at hok ⊢
  split at hok
  ·rename_i d hd
   cases har : arrEq std T d op l l' with
   | some r =>
    simp only [hd, har] at hok ⊢
    unfold arrEq at har
    split at har
    ·rename_i len e hu
     injection har with har
     split at har
     ·rename_i ed bx byy hed hbx hby heq
      obtain ⟨g1, g2, g3⟩ := (hT t d hd).2.2.2 heq
      have hrun : ed.und = .bool → bx.length = len ∧ byy.length = len ∧ ed.size = 1 → (eqGuard op t x y (.agg xs) (.agg ys)).run P w = .ok () w ∧ (Op.equalIn 10000 t (.agg xs) (.agg ys)).run P w = .ok (bx == byy) w := by
       intro hb hc
       refine ⟨run_eqGuard_agg w op t x y xs ys g2, ?_⟩
       refine run_equalIn_bools 9998 t e len ed (by rw [(hT t d hd).1, hu]) (hT e ed hed).1 hb (fun w => by rw [← hc.2.2]; exact sizeOf_T hT hed) bx byy hc.1 hc.2.1 xs ys (fun i b h => hx2 i _ (boolsOf_get hbx i b h)) (fun i b h => hy2 i _ (boolsOf_get hby i b h))
      split at har
      ·rename_i hb
       subst har
       obtain ⟨g4, g5⟩ := hrun hb hok
       refine done_give hR (y := .bool (bx == byy)) ?_ ⟨rfl, rfl⟩
       simp [execOp, ho, hx1, hy1, g4, run_eql_struct, g5]
      ·rename_i hb
       subst har
       obtain ⟨g4, g5⟩ := hrun hb hok
       refine done_give hR (y := .bool (!(bx == byy))) ?_ ⟨rfl, rfl⟩
       simp [execOp, ho, hx1, hy1, g4, run_neq_struct, g5]
      ·subst har; exact hok.elim
     ·subst har; exact hok.elim
    ·cases har
   | none =>
    simp only [hd, har] at hok ⊢
    have hrun : ∀ b, d.eqs = true → eqF std T 8 l l' (fieldsOf d.und) = some b → (match d.und with | .struct _ => True | _ => False) →
      (eqGuard op t x y (.agg xs) (.agg ys)).run P w = .ok () w ∧ (Op.equalIn 10000 t (.agg xs) (.agg ys)).run P w = .ok b w := by
     intro b he hb hs
     obtain ⟨g1, g2, g3⟩ := (hT t d hd).2.2.2 he
     refine ⟨run_eqGuard_agg w op t x y xs ys g2, ?_⟩
     split at hs
     ·rename_i fs hfs
      have hfo : P.fieldsOf t = fs := by unfold Program.fieldsOf; rw [(hT t d hd).1, hfs]
      rw [run_equalIn_struct w 9999 t xs ys (by rw [hfo, (hT t d hd).1, hfs]) g1, hfo]
      rw [hfs] at hb g3
      exact eqF_run hT 8 9999 l l' xs ys hx2 hy2 (by omega) fs.toList b g3 hb
     ·exact hs.elim
    split at hok
    ·rename_i b he hb
     obtain ⟨g1, g2⟩ := hrun b he hb hok
     refine done_give hR (y := .bool b) ?_ ⟨rfl, rfl⟩
     simp [execOp, ho, hx1, hy1, g1, run_eql_struct, g2]
    ·rename_i b he hb
     obtain ⟨g1, g2⟩ := hrun b he hb hok
     refine done_give hR (y := .bool (!b)) ?_ ⟨rfl, rfl⟩
     simp [execOp, ho, hx1, hy1, g1, run_neq_struct, g2]
    ·exact hok.elim
  ·exact hok.elim
 ·exact h0 hok
end
section
variable {P : Program} {T : TT} {w0 w : World} {I0 : Fr} {I : Nat → Prop} {L : Lay} {s : St} {a : Act} {o : Oper} {ob : Obs}

theorem addr_add (b off n : Nat) : (⟨b, off, none⟩ : Addr).add n = ⟨b, off + n, none⟩ := by unfold Addr.add; split <;> simp_all
theorem op_un (hR : RelL w0 I0 L I s a w) {op : UnOp} {t : TypeId} {x : Operand} (ho : o.op = .unOp op t x) (hok : (evalOp std T o s).ok) : OpDone P w0 I0 o a w ((evalOp std T o s).st o.dst s) := by
 have hx := ev_rel hR.tmps x
 simp only [evalOp, ho, unA] at hok ⊢
 split at hok
 ·rename_i b ex
  refine done_give hR (y := .bool (!b)) ?_ ⟨rfl, rfl⟩
  simp [execOp, ho, val_of hx ex, Op.unary]
 ·rename_i k n ex
  refine done_give hR (y := .int k (k.wrap (0 - n))) ?_ ⟨rfl, rfl⟩
  simp [execOp, ho, val_of hx ex, Op.unary, Op.intArith]
 ·exact hok.elim
theorem foldl_push (g : Int → UInt8) : ∀ (l : List Int) (x : Array UInt8), l.foldl (fun r n => r.push (g n)) (ByteArray.mk x) = ⟨x ++ (l.map g).toArray⟩
 | [], x => by simp
 | n :: l, x => by
  have : (ByteArray.mk x).push (g n) = ⟨x.push (g n)⟩ := rfl
  rw [List.foldl_cons, this, foldl_push g l]
  simp
theorem run_bts (a : Option Addr) (n cap : Nat) (f : Nat → Int) (h : 0 < n → ∃ b off, a = some ⟨b, off, none⟩ ∧ ∀ i, i < n → w.cell? ⟨b, off + i, none⟩ = some (.int .u8 (f i))) : (Conv.bytesToString (.slice a n cap)).run P w = .ok (.string (std.ofBytes n f)) w := by
 cases a with
 | none =>
  have hn : n = 0 := by
   rcases Nat.eq_zero_or_pos n with h0 | h0
   ·exact h0
   ·obtain ⟨b, off, hh, _⟩ := h h0; cases hh
  subst hn
  simp only [Conv.bytesToString, Sem.run_pure]
  rfl
 | some ad =>
  have hl : (loadCells ad n).run P w = .ok (((List.range n).map f).map (Value.int .u8)).toArray w := by
   rw [run_loadCells w ad n (fun j => .int .u8 (f j)) (fun j hj => by
    obtain ⟨b, off, hh, hc⟩ := h (by omega)
    injection hh with hh; subst hh
    rw [addr_add]
    exact hc j hj)]
   simp [List.map_map, Function.comp_def]
  rw [run_bytesToString w ad n cap _ hl]
  have : (ByteArray.empty : ByteArray) = ⟨#[]⟩ := rfl
  rw [this, foldl_push (fun n => UInt8.ofNat n.toNat)]
  simp [std, List.map_map, Function.comp_def]
theorem op_convert (hT : TOk P T) (hR : RelL w0 I0 L I s a w) {src dst : TypeId} {x : Operand} (ho : o.op = .convert src dst x) (hok : (evalOp std T o s).ok) : OpDone P w0 I0 o a w ((evalOp std T o s).st o.dst s) := by
 have hx := ev_rel hR.tmps x
 simp only [evalOp, ho, convA] at hok ⊢
 split at hok
 ·rename_i ds dt hs hd
  have h1 := run_underlying (w := w) (hT src ds hs).1
  have h2 := run_underlying (w := w) (hT dst dt hd).1
  have key : ∀ (e : TypeId) (n sz : Nat) (get : Nat → Nat → AC) (ad : Option Addr) (cap : Nat), ds.und = .slice e → dt.und = .string → a.eval x = .slice ad n cap → (bytesA std T e n sz get).ok →
    (0 < n → ∃ b off, ad = some ⟨b, off, none⟩ ∧ ∀ i, i < n → ∀ j, j < sz → ∃ u, w.cell? ⟨b, off + (i * sz + j), none⟩ = some u ∧ RelC L I w (obj s.o) (get i j) u) →
    OpDone P w0 I0 o a w ((bytesA std T e n sz get).st o.dst s) := by
   intro e n sz get ad cap hse hst hv hk hc
   unfold bytesA at hk ⊢
   split at hk
   ·rename_i ed hed
    split at hk
    ·rename_i hu8
     obtain ⟨rfl, hall⟩ : sz = 1 ∧ ∀ i, i < n → isU8 (get i 0) = true := hk
     have h3 := run_underlying (w := w) (hT e ed hed).1
     rw [hu8] at h3
     rw [hse] at h1
     rw [hst] at h2
     simp only [hed, hu8]
     refine done_give hR (y := .string (std.ofBytes n fun i => byteOf (get i 0))) ?_ ⟨rfl, rfl⟩
     have hb := run_bts (P := P) (w := w) ad n cap (fun i => byteOf (get i 0)) (fun hn => by
      obtain ⟨b, off, hh, hcc⟩ := hc hn
      refine ⟨b, off, hh, fun i hi => ?_⟩
      obtain ⟨u, hu, hr⟩ := hcc i hi 0 (by omega)
      have hi8 := hall i hi
      revert hr hi8
      generalize get i 0 = c
      intro hr hi8
      unfold isU8 at hi8
      split at hi8
      ·rename_i q
       have : u = .int .u8 q := hr.1
       subst this
       simpa [byteOf] using hu
      ·cases hi8)
     simp [execOp, ho, hv, convert, h1, h2, h3, hb]
    ·exact hk.elim
   ·exact hk.elim
  split at hok
  ·rename_i k k' n hu ex
   refine done_give hR (y := .int k (k.wrap n)) ?_ ⟨rfl, rfl⟩
   rw [hu] at h2
   simp [execOp, ho, val_of hx ex, convert, h1, h2, Conv.intToInt]
  ·rename_i b hu ex
   refine done_give hR (y := .string b) ?_ ⟨rfl, rfl⟩
   rw [hu] at h2
   simp [execOp, ho, val_of hx ex, convert, h1, h2]
  ·rename_i n sz get hu ex
   rw [ex] at hx
   obtain ⟨ad, cap, hy, hnc, hc⟩ := hx
   split at hok
   ·rename_i e he
    exact key e n sz get ad cap he hu hy hok (fun hn => by obtain ⟨b, off, hh, _, hcc⟩ := hc hn; exact ⟨b, off, hh, fun i hi j hj => by obtain ⟨u, hu', hr⟩ := hcc i hi j hj; exact ⟨u, hu', RelI.toC _ _ hr⟩⟩)
   ·exact hok.elim
  ·rename_i k off n hu ex
   rw [ex] at hx
   split at hok
   ·rename_i e he
    split at hok
    ·rename_i m rs N sz get hk
     obtain ⟨m', rs', N', sz', get', hk', hh'⟩ := hx
     have hk2 : s.o k = .arr m' rs' N' sz' get' := hk'
     rw [hk] at hk2; injection hk2 with g1 g0 g2 g3 g4; subst g1; subst g0; subst g2; subst g3; subst g4
     rcases hh' with ⟨hL, rfl, rfl, rfl, ⟨ad0, hy⟩, _⟩ | ⟨b, base, cap, hL, hy, h6, h7, _, C, e', hC, h8⟩ | ⟨_, rfl, _, ad0, cap, hy⟩
     ·exact key e 0 sz _ ad0 0 he hu hy hok (fun hn => absurd hn (by omega))
     rotate_left
     ·exact key e 0 sz _ ad0 cap he hu hy hok (fun hn => absurd hn (by omega))
     ·refine key e n sz _ _ cap he hu hy hok (fun hn => ⟨b, base + off * sz, rfl, fun i hi j hj => ?_⟩)
      rcases (hR.heap.arr hk').1 with ⟨h9, _⟩ | ⟨b', base', C', e'', h9, _, hC', _, hcell⟩
      ·rw [hL] at h9; cases h9
      ·rw [hL] at h9; injection h9 with h9; injection h9 with h9 h9'; subst h9; subst h9'
       obtain ⟨u, hu', hr⟩ := hcell (off + i) (by omega) j hj
       refine ⟨u, ?_, hr.toC⟩
       have hcc : ∀ q, w.cell? ⟨b, q, none⟩ = C'[q]? := fun q => by simp [World.cell?, hC']
       rw [hcc, ← hu', Nat.add_mul, Nat.add_assoc, Nat.add_assoc]
    ·exact hok.elim
   ·exact hok.elim
  ·exact hok.elim
 ·exact hok.elim
theorem op_extract (hR : RelL w0 I0 L I s a w) {x : Operand} {i : Nat} (ho : o.op = .extract x i) (hok : (evalOp std T o s).ok) : OpDone P w0 I0 o a w ((evalOp std T o s).st o.dst s) := by
 have hx := ev_rel hR.tmps x
 simp only [evalOp, ho] at hok ⊢
 split at hok
 ·rename_i l ex
  split at hok
  ·rename_i v hv
   rw [ex] at hx
   obtain ⟨ys, hy, hs, hc⟩ := hx
   obtain ⟨u, hu, hr⟩ := hc i v hv
   refine done_give hR (y := u) ?_ hr.toV
   simp [execOp, ho, hy, Instr.extract, hu]
  ·exact hok.elim
 ·exact hok.elim
theorem op_nilCheck (hR : RelL w0 I0 L I s a w) {x : Operand} (ho : o.op = .nilCheck x) (hok : (evalOp std T o s).ok) : OpDone P w0 I0 o a w ((evalOp std T o s).st o.dst s) := by
 have hx := ev_rel hR.tmps x
 simp only [evalOp, ho] at hok ⊢
 split at hok
 ·rename_i k q ex
  rw [ex] at hx
  have hx' := hx
  obtain ⟨l, b, _, _, hy⟩ := hx'
  refine done_give hR (y := a.eval x) ?_ hx
  simp [execOp, ho, hy]
 ·rename_i k q q' ex
  rw [ex] at hx
  have hx' := hx
  obtain ⟨_, _, _, _, _, _, _, _, _, hy⟩ := hx'
  refine done_give hR (y := a.eval x) ?_ hx
  simp [execOp, ho, hy]
 ·rename_i n g ex
  rw [ex] at hx
  have hx' := hx
  obtain ⟨b, off, hy, _⟩ := hx'
  refine done_give hR (y := a.eval x) ?_ hx
  simp [execOp, ho, hy]
 ·exact hok.elim
theorem op_index (hT : TOk P T) (hR : RelL w0 I0 L I s a w) {t : TypeId} {x i : Operand} (ho : o.op = .index t x i) (hok : (evalOp std T o s).ok) : OpDone P w0 I0 o a w ((evalOp std T o s).st o.dst s) := by
 have hx := ev_rel hR.tmps x
 have hi := ev_rel hR.tmps i
 simp only [evalOp, ho] at hok ⊢
 split at hok
 ·rename_i d hd
  have h1 := run_underlying (w := w) (hT t d hd).1
  split at hok
  ·rename_i b k n hu ex ei
   rw [hu] at h1
   have hin : 0 ≤ n ∧ n < (b.size : Int) := hok
   have hlt : n.toNat < b.size := by omega
   refine done_give hR (y := .int .u8 (std.sat b n.toNat)) ?_ ⟨rfl, rfl⟩
   have hg : b[n.toNat]? = some b[n.toNat] := by simp [hlt]
   simp [execOp, ho, val_of hx ex, val_of hi ei, Instr.index, h1, asIntOf, hin.1, std, hg]
  ·exact hok.elim
 ·exact hok.elim
theorem takeC_rel {R : AC → Value → Prop} {d : TD} {l : List AC} {cs : Array Value} (hs : cs.size = l.length) (hc : ∀ (i : Nat) x, l[i]? = some x → ∃ u, cs[i]? = some u ∧ R x u) {off : Nat} (hoff : off + d.size ≤ l.length)
  (hone : aggB d.und = false → 0 < d.size) : ∃ y, RelV R (takeC d l off) y ∧ (if aggB d.und = true then y = .agg (cs.extract off (off + d.size)) else cs[off]? = some y) := by
 unfold takeC
 by_cases hd : aggB d.und = true
 ·rw [if_pos hd]
  refine ⟨.agg (cs.extract off (off + d.size)), ⟨_, rfl, by simp; omega, fun i x hx => ?_⟩, by simp [hd]⟩
  rw [List.getElem?_take] at hx
  split at hx
  ·rename_i hi
   rw [List.getElem?_drop] at hx
   obtain ⟨u, hu, hr⟩ := hc _ x hx
   refine ⟨u, ?_, hr⟩
   rw [Array.getElem?_extract]
   rw [if_pos (by omega)]
   exact hu
  ·cases hx
 ·rw [if_neg hd]
  have hd' : aggB d.und = false := by simpa using hd
  have := hone hd'
  have hlt : off < l.length := by omega
  obtain ⟨u, hu, hr⟩ := hc off l[off] (by simp [hlt])
  refine ⟨u, ?_, by simp [hd', hu]⟩
  simp only [List.getD_eq_getElem?_getD, List.getElem?_eq_getElem hlt, Option.getD_some]
  exact hr
theorem run_isAgg (hT : TOk P T) {t : TypeId} {d : TD} (hd : (T t) = some d) : (isAgg t).run P w = .ok (aggB d.und) w := by
 have h1 := run_underlying (w := w) (hT t d hd).1
 simp [isAgg, h1]
 cases d.und <;> simp [aggB]
theorem run_sizeOf (hT : TOk P T) {t : TypeId} {d : TD} (hd : (T t) = some d) : (Go.sizeOf t).run P w = .ok d.size w := by
 obtain ⟨i, hi, h1, _⟩ := (hT t d hd).2.1
 simp [Go.sizeOf, typeInfo, hi, h1]
end
theorem exO_mem {k0 : Nat} : ∀ (cs : List AC) (q : Nat) (e : Nat × AO), e ∈ exO k0 q cs ↔ ∃ p n sz g, cs[p]? = some (.ow n sz g) ∧ e = (k0 + 2 * (q + p + 1), .arr .rw [] n sz fun i j => (g i j).cp)
 | [], q, e => by simp [exO]
 | x :: r, q, e => by
  have ih := exO_mem (k0 := k0) r (q + 1) e
  have hstep : (∃ p n sz g, (x :: r)[p]? = some (.ow n sz g) ∧ e = (k0 + 2 * (q + p + 1), .arr .rw [] n sz fun i j => (g i j).cp)) ↔
    (∃ n sz g, x = .ow n sz g ∧ e = (k0 + 2 * (q + 1), .arr .rw [] n sz fun i j => (g i j).cp)) ∨ ∃ p n sz g, r[p]? = some (.ow n sz g) ∧ e = (k0 + 2 * (q + 1 + p + 1), .arr .rw [] n sz fun i j => (g i j).cp) := by
   constructor
   ·rintro ⟨p, n, sz, g, h1, h2⟩
    cases p with
    | zero => simp at h1; exact .inl ⟨n, sz, g, h1, h2⟩
    | succ p => exact .inr ⟨p, n, sz, g, by simpa using h1, by rw [h2]; congr 3; omega⟩
   ·rintro (⟨n, sz, g, h1, h2⟩ | ⟨p, n, sz, g, h1, h2⟩)
    ·exact ⟨0, n, sz, g, by simp [h1], h2⟩
    ·exact ⟨p + 1, n, sz, g, by simpa using h1, by rw [h2]; congr 3; omega⟩
  rw [hstep]
  cases x with
  | ow n sz g =>
   simp only [exO, List.mem_cons, ih, AC.ow.injEq]
   constructor
   ·rintro (h | h)
    ·exact .inl ⟨n, sz, g, ⟨rfl, rfl, rfl⟩, h⟩
    ·exact .inr h
   ·rintro (⟨_, _, _, ⟨rfl, rfl, rfl⟩, h⟩ | h)
    ·exact .inl h
    ·exact .inr h
  | _ =>
   simp only [exO, ih]
   constructor
   ·exact .inr
   ·rintro (⟨_, _, _, h, _⟩ | h)
    ·cases h
    ·exact h
def exOne (k0 q : Nat) : AC → AC
 | .ow n _ _ => .os (k0 + 2 * (q + 1)) 0 n
 | x => x
theorem exC_get {k0 : Nat} : ∀ (cs : List AC) (q p : Nat), (exC k0 q cs)[p]? = cs[p]?.map (exOne k0 (q + p))
 | [], q, p => by simp [exC]
 | x :: r, q, p => by
  have ih := exC_get (k0 := k0) r (q + 1)
  cases x <;> (cases p with
   | zero => simp [exC, exOne]
   | succ p => simp only [exC, List.getElem?_cons_succ, ih p]; rw [show q + 1 + p = q + (p + 1) by omega])
theorem updL_other : ∀ (us : List (Nat × AO)) (o : Nat → AO) (k : Nat), k ∉ us.map (·.1) → updL us o k = o k
 | [], o, k, _ => rfl
 | (j, x) :: r, o, k, h => by
  rw [updL, updL_other r _ k (fun hk => h (by simp at hk ⊢; exact .inr hk))]
  have : k ≠ j := by rintro rfl; exact h (by simp)
  simp [updO, this]
theorem updL_in : ∀ (us : List (Nat × AO)) (o o' : Nat → AO) (k : Nat), k ∈ us.map (·.1) → updL us o k = updL us o' k
 | [], o, o', k, h => by simp at h
 | (j, x) :: r, o, o', k, h => by
  rw [updL, updL]
  by_cases hk : k ∈ r.map (·.1)
  ·exact updL_in r _ _ k hk
  ·have : k = j := by
    rw [List.map_cons, List.mem_cons] at h
    rcases h with h | h
    ·exact h
    ·exact absurd h hk
   subst this
   rw [updL_other r _ k hk, updL_other r _ k hk]
   simp [updO]
theorem updL_mem : ∀ (us : List (Nat × AO)) (o : Nat → AO) (k : Nat), k ∈ us.map (·.1) → ∃ p ∈ us, k = p.1 ∧ updL us o k = p.2
 | [], o, k, h => by simp at h
 | (j, x) :: r, o, k, h => by
  rw [updL]
  by_cases hk : k ∈ r.map (·.1)
  ·obtain ⟨p, hp, e0, e⟩ := updL_mem r (updO o j x) k hk
   exact ⟨p, by simp [hp], e0, e⟩
  ·have : k = j := by
    rw [List.map_cons, List.mem_cons] at h
    rcases h with h | h
    ·exact h
    ·exact absurd h hk
   subst this
   rw [updL_other r _ k hk]
   exact ⟨(k, x), by simp, rfl, by simp [updO]⟩
theorem kill_t (s : St) (ks : List Nat) : s.kill ks = ⟨s.t.map (AV.kill ks), killO ks s.o⟩ := by
 cases ks with
 | nil =>
  simp only [St.kill, AV.kill_nil', List.map_id]
  have : killO [] s.o = s.o := by funext k; simp [killO, AO.kill_nil]
  rw [this]
 | cons k r => rfl
theorem cp_ref : ∀ (x : AC), x.cp.ref = x.ref
 | .ow .. => rfl
 | .v _ | .bs .. | .bp .. | .os .. | .ptr .. | .ep .. | .fn .. | .junk => rfl
theorem isOw_cp : ∀ (x : AC), isOw x.cp = false
 | .ow .. => rfl
 | .v _ | .bs .. | .bp .. | .os .. | .ptr .. | .ep .. | .fn .. | .junk => rfl
theorem subO'_not {x : AC} (h : isOw x = false) : subO' x = .gone := by cases x <;> first | rfl | cases h
theorem RelC.cp {L : Lay} {I : Nat → Prop} {w : World} {o : Obs} {x : AC} {y : Value} (h : RelC L I w o x y) : RelC L I w o x.cp y := by
 cases x <;> first | exact h | exact h.one'
theorem inj_back {L L' : Lay} {o o' : Obs} (β : Id → Id) (h : ∀ id id' b x x', o id ≠ .gone → o id' ≠ .gone → L id = some (b, x) → L id' = some (b, x') → id = id')
  (hL : ∀ id, o' id ≠ .gone → L' id = L (β id) ∧ o (β id) ≠ .gone) (hβ : ∀ id id', o' id ≠ .gone → o' id' ≠ .gone → β id = β id' → id = id') :
  ∀ id id' b x x', o' id ≠ .gone → o' id' ≠ .gone → L' id = some (b, x) → L' id' = some (b, x') → id = id' := by
 intro id id' b x x' h1 h2 h3 h4
 rw [(hL id h1).1] at h3
 rw [(hL id' h2).1] at h4
 exact hβ id id' h1 h2 (h _ _ b x x' (hL id h1).2 (hL id' h2).2 h3 h4)
section
variable {P : Program} {T : TT} {w0 w : World} {I0 : Fr} {I : Nat → Prop} {L : Lay} {s : St} {a : Act} {o : Oper} {ob : Obs}
theorem RelL.expose (hR : RelL w0 I0 L I s a w) {k i j dz k0 : Nat} {m : Md} {rs : List Nat} {n sz : Nat} {get : Nat → Nat → AC} (hk : s.o k = .arr m rs n sz get) (hi : i < n) (hj : j + dz ≤ sz) (hm : m.w = true)
  (h0 : k0 % 2 = 0)
  (hids : ∀ q ∈ k :: rs, q ∉ (exO k0 0 ((List.range dz).map fun q => get i (j + q))).map (·.1)) :
  ∃ L', RelL w0 I0 L' I ⟨(s.kill ((exO k0 0 ((List.range dz).map fun q => get i (j + q))).map (·.1))).t,
    updL ((k, .arr m (rs ++ (exO k0 0 ((List.range dz).map fun q => get i (j + q))).map (·.1)) n sz fun a b => if a = i ∧ j ≤ b ∧ b < j + dz then (exC k0 0 ((List.range dz).map fun q => get i (j + q))).getD (b - j) .junk else get a b) :: exO k0 0 ((List.range dz).map fun q => get i (j + q)))
     (s.kill ((exO k0 0 ((List.range dz).map fun q => get i (j + q))).map (·.1))).o⟩ a w ∧
   ∀ p, p < dz → ∀ y, RelX L I w (obj s.o) (.r k) i (j + p) (get i (j + p)) y → RelC L' I w (obj (updL ((k, .arr m (rs ++ (exO k0 0 ((List.range dz).map fun q => get i (j + q))).map (·.1)) n sz fun a b => if a = i ∧ j ≤ b ∧ b < j + dz then (exC k0 0 ((List.range dz).map fun q => get i (j + q))).getD (b - j) .junk else get a b) :: exO k0 0 ((List.range dz).map fun q => get i (j + q)))
     (s.kill ((exO k0 0 ((List.range dz).map fun q => get i (j + q))).map (·.1))).o)) ((exC k0 0 ((List.range dz).map fun q => get i (j + q))).getD p .junk) y := by
 obtain ⟨cs, hcs⟩ : ∃ cs, cs = (List.range dz).map fun q => get i (j + q) := ⟨_, rfl⟩
 have hcsg : ∀ p, p < dz → cs[p]? = some (get i (j + p)) := fun p hp => by rw [hcs, List.getElem?_map, List.getElem?_range hp]; rfl
 have hcsl : ∀ p x, cs[p]? = some x → p < dz ∧ x = get i (j + p) := fun p x h => by
  have hp : p < dz := by have := (List.getElem?_eq_some_iff.1 h).1; rw [hcs] at this; simpa using this
  rw [hcsg p hp] at h; injection h with h; exact ⟨hp, h.symm⟩
 rw [← hcs] at hids ⊢
 obtain ⟨ids, hidse⟩ : ∃ ids, ids = (exO k0 0 cs).map (·.1) := ⟨_, rfl⟩
 rw [← hidse] at hids ⊢
 have hid : ∀ q, q ∈ ids ↔ ∃ p, p < dz ∧ isOw (get i (j + p)) = true ∧ q = k0 + 2 * (p + 1) := by
  intro q
  rw [hidse, List.mem_map]
  constructor
  ·rintro ⟨e, he, rfl⟩
   obtain ⟨p, n', sz', g, h1, rfl⟩ := (exO_mem (k0 := k0) cs 0 e).1 he
   obtain ⟨hp, hx⟩ := hcsl p _ h1
   exact ⟨p, hp, by rw [← hx]; rfl, by simp⟩
  ·rintro ⟨p, hp, hx, rfl⟩
   cases hg : get i (j + p) with
   | ow n' sz' g => exact ⟨_, (exO_mem (k0 := k0) cs 0 _).2 ⟨p, n', sz', g, by rw [hcsg p hp, hg], rfl⟩, by simp⟩
   | _ => rw [hg] at hx; cases hx
 have hkid : k ∉ ids := hids k (by simp)
 have hC : ∀ p, p < dz → (exC k0 0 cs).getD p .junk = exOne k0 p (get i (j + p)) := fun p hp => by
  rw [List.getD_eq_getElem?_getD, exC_get, hcsg p hp]; simp
 obtain ⟨gx, hgx⟩ : ∃ gx : Nat → Nat → AC, gx = fun a b => if a = i ∧ j ≤ b ∧ b < j + dz then (exC k0 0 cs).getD (b - j) .junk else get a b := ⟨_, rfl⟩
 rw [← hgx]
 have hgin : ∀ p, p < dz → gx i (j + p) = exOne k0 p (get i (j + p)) := fun p hp => by
  rw [hgx]; simp only
  rw [if_pos ⟨trivial, by omega, by omega⟩, show j + p - j = p by omega, hC p hp]
 have hgout : ∀ a b, ¬ (a = i ∧ j ≤ b ∧ b < j + dz) → gx a b = get a b := fun a b h => by rw [hgx]; simp only [if_neg h]
 obtain ⟨o', ho'⟩ : ∃ o', o' = updL ((k, .arr m (rs ++ ids) n sz gx) :: exO k0 0 cs) (s.kill ids).o := ⟨_, rfl⟩
 rw [← ho']
 have hko : o' k = .arr m (rs ++ ids) n sz gx := by
  rw [ho', updL, updL_other _ _ k (by rw [← hidse]; exact hkid)]; simp [updO]
 have hio : ∀ p n' sz' g, p < dz → get i (j + p) = .ow n' sz' g → o' (k0 + 2 * (p + 1)) = .arr .rw [] n' sz' fun i j => (g i j).cp := by
  intro p n' sz' g hp hg
  rw [ho', updL]
  obtain ⟨e, he, h1, h2⟩ := updL_mem (exO k0 0 cs) (updO (s.kill ids).o k (.arr m (rs ++ ids) n sz gx)) (k0 + 2 * (p + 1)) (by rw [← hidse]; exact (hid _).2 ⟨p, hp, by rw [hg]; rfl, rfl⟩)
  rw [h2]
  obtain ⟨p', n2, sz2, g2, h3, rfl⟩ := (exO_mem (k0 := k0) cs 0 e).1 he
  have h1 : p = p' := by simp at h1; omega
  subst h1
  rw [hcsg p hp, hg] at h3
  injection h3 with h3; injection h3 with e1 e2 e3; subst e1; subst e2; subst e3; rfl
 have hother : ∀ q, q ≠ k → q ∉ ids → o' q = (s.o q).kill ids := by
  intro q h1 h2
  rw [ho', updL, updL_other _ _ q (by rw [← hidse]; exact h2)]
  simp [updO, h1, kill_t, killO, h2]
 obtain ⟨L', hL'⟩ : ∃ L' : Lay, L' = fun id => match id with
  | .r q => if q ∈ ids then L (.s k i (j + ((q - k0) / 2 - 1))) else L (.r q)
  | .s q a b => L (.s q a b) := ⟨_, rfl⟩
 have hLr : ∀ q, q ∉ ids → L' (.r q) = L (.r q) := fun q h => by rw [hL']; simp [h]
 have hLi : ∀ p, p < dz → isOw (get i (j + p)) = true → L' (.r (k0 + 2 * (p + 1))) = L (.s k i (j + p)) := fun p hp hx => by
  rw [hL']
  have := (hid (k0 + 2 * (p + 1))).2 ⟨p, hp, hx, rfl⟩
  simp only [this, if_true]
  congr 2; omega
 have hLs : ∀ q a b, L' (.s q a b) = L (.s q a b) := fun q a b => by rw [hL']
 have hrsd : ∀ a b, a < n → b < sz → ∀ q ∈ (get a b).ref, q ∈ rs := fun a b ha hb => (hR.heap.arr (id := .r k) hk).2 a ha b hb
 have hfix : ∀ a b, a < n → b < sz → (get a b).kill ids = get a b := fun a b ha hb => AC.kill_id fun q hq => hids q (by simp [hrsd a b ha hb q hq])
 have hsub : ∀ a b, obj o' (.s k a b) = if a = i ∧ j ≤ b ∧ b < j + dz then .gone else obj s.o (.s k a b) := by
  intro a b
  simp only [obj, hko, hk]
  by_cases h : a = i ∧ j ≤ b ∧ b < j + dz
  ·rw [if_pos h]
   obtain ⟨rfl, h1, h2⟩ := h
   have : gx a b = exOne k0 (b - j) (get a (j + (b - j))) := by
    have := hgin (b - j) (by omega)
    rwa [show j + (b - j) = b by omega] at this ⊢
   rw [this]
   have h3 : subO' (exOne k0 (b - j) (get a (j + (b - j)))) = .gone := by cases get a (j + (b - j)) <;> rfl
   rw [h3]
   split <;> rfl
  ·rw [if_neg h, hgout a b h]
 have hidsub : ∀ q a b, q ∈ ids → obj o' (.s q a b) = .gone := by
  intro q a b hq
  obtain ⟨p, hp, hx, rfl⟩ := (hid q).1 hq
  cases hg : get i (j + p) with
  | ow n' sz' g =>
   simp only [obj, hio p n' sz' g hp hg]
   split
   ·exact subO'_not (isOw_cp _)
   ·rfl
  | _ => rw [hg] at hx; cases hx
 have hkids : Keeps ids L I w (obj s.o) L' I w (obj o') := by
  refine ⟨fun b hb => ⟨hb, rfl⟩, fun q hq hg => ?_⟩
  have hq' : q ∉ ids := by simpa using hq
  refine ⟨hLr q hq', ?_, fun b x C e hL hC => ⟨C, hC, rfl⟩⟩
  by_cases hqk : q = k
  ·subst hqk
   show (s.o q).like (o' q)
   rw [hk, hko]; exact ⟨rfl, rfl, fun c h => h⟩
  ·show (s.o q).like (o' q)
   rw [hother q hqk hq']; exact AO.like_map _ _ _ _ hg
 have M := hkids.moves
 have hcell : ∀ p, p < dz → ∀ y, RelX L I w (obj s.o) (.r k) i (j + p) (get i (j + p)) y → RelC L' I w (obj o') (exOne k0 p (get i (j + p))) y := by
  intro p hp y h
  cases hg : get i (j + p) with
  | ow n' sz' g =>
   rw [hg] at h
   refine Hdr.step (id := .s k i (j + p)) (id' := .r (k0 + 2 * (p + 1))) ⟨hLi p hp (by rw [hg]; rfl), ?_, fun b x C e hL hC => ⟨C, hC, rfl⟩⟩ h
   show (obj s.o (.s k i (j + p))).like (o' (k0 + 2 * (p + 1)))
   rw [hio p n' sz' g hp hg]
   simp only [obj, hk, if_pos (show i < n ∧ j + p < sz by omega), hg, subO']
   exact ⟨rfl, rfl, fun c h => h⟩
  | _ =>
   rw [hg] at h
   have h1 := M _ _ h.toC
   have h2 := hfix i (j + p) hi (by omega)
   rw [hg] at h2
   rw [h2] at h1
   exact h1
 refine ⟨L', ?_, fun p hp y h => by rw [hC p hp]; exact hcell p hp y h⟩
 have hβ : ∀ id : Id, obj o' id ≠ .gone → (∃ q, id = .r q ∧ q ∉ ids ∧ L' id = L id ∧ obj s.o id ≠ .gone) ∨ (∃ p, p < dz ∧ id = .r (k0 + 2 * (p + 1)) ∧ L' id = L (.s k i (j + p)) ∧ obj s.o (.s k i (j + p)) ≠ .gone ∧ isOw (get i (j + p)) = true) ∨
   (∃ q a b, id = .s q a b ∧ ¬ (q = k ∧ a = i ∧ j ≤ b ∧ b < j + dz) ∧ L' id = L id ∧ obj s.o id ≠ .gone) := by
  intro id hid'
  cases id with
  | r q =>
   by_cases hq : q ∈ ids
   ·obtain ⟨p, hp, hx, rfl⟩ := (hid q).1 hq
    refine .inr (.inl ⟨p, hp, rfl, hLi p hp hx, ?_, hx⟩)
    cases hg : get i (j + p) with
    | ow n' sz' g => simp only [obj, hk, if_pos (show i < n ∧ j + p < sz by omega), hg, subO']; simp
    | _ => rw [hg] at hx; cases hx
   ·refine .inl ⟨q, rfl, hq, hLr q hq, ?_⟩
    by_cases hqk : q = k
    ·subst hqk; show s.o q ≠ .gone; rw [hk]; simp
    ·have : o' q ≠ .gone := hid'
     rw [hother q hqk hq] at this
     exact AO.map_gone this
  | s q a b =>
   refine .inr (.inr ⟨q, a, b, rfl, ?_, hLs q a b, ?_⟩)
   ·rintro ⟨rfl, rfl, h1, h2⟩
    apply hid'
    rw [hsub, if_pos ⟨rfl, h1, h2⟩]
   ·by_cases hqk : q = k
    ·subst hqk
     rw [hsub] at hid'
     split at hid'
     ·exact (hid' rfl).elim
     ·exact hid'
    ·by_cases hq : q ∈ ids
     ·exact (hid' (hidsub q a b hq)).elim
     ·rw [obj_map (Turn.kill ids) (hother q hqk hq) a b] at hid'
      exact hid'
 have := hR.step (Turn.kill ids) M (fun q => q = k ∨ q ∈ ids) (o' := o') (I' := I)
  (fun q hq => by
   rw [not_or] at hq
   refine .inr ⟨hother q hq.1 hq.2, fun id hr hg => ⟨?_, fun b x hL => ⟨rfl, fun h => h⟩⟩⟩
   cases id with
   | r q' => have e : q' = q := hr; subst e; exact hLr _ hq.2
   | s q' a b => exact hLs _ _ _)
  (fun q hq id hr => by
   cases id with
   | r q' =>
    have e : q' = q := hr
    subst e
    rcases hq with rfl | hq
    ·unfold ObjOk
     rw [show obj o' (.r q') = _ from hko]
     obtain ⟨h1, h2⟩ := hR.heap.arr (id := .r q') hk
     refine ⟨?_, fun a ha b hb q hq => ?_⟩
     ·rcases h1 with ⟨h1, h3, h4⟩ | ⟨b, base, C, e, h1, h3, h4, h5, h6⟩
      ·omega
      ·refine .inr ⟨b, base, C, e, by rw [hLr _ hkid]; exact h1, h3, h4, h5, fun a ha c hc => ?_⟩
       obtain ⟨u, hu, hr⟩ := h6 a ha c hc
       refine ⟨u, hu, ?_⟩
       by_cases hin : a = i ∧ j ≤ c ∧ c < j + dz
       ·obtain ⟨rfl, h7, h8⟩ := hin
        have e : c = j + (c - j) := by omega
        rw [e] at hr ⊢
        rw [hgin _ (by omega)]
        refine RelX.of (hcell _ (by omega) _ hr) ?_
        cases get a (j + (c - j)) <;> rfl
       ·rw [hgout a c hin]
        have h9 := RelX.map (Turn.kill ids) M (id := .r q') (i := a) (j := c) (fun k' hk' hg' => ?_) hr
        ·rw [hfix a c ha hc] at h9; exact h9
        ·injection hk' with hk'; subst hk'
         refine ⟨hLs _ _ _, ?_, fun b x C e hL hC => ⟨C, hC, rfl⟩⟩
         rw [hsub, if_neg hin]
         exact AO.like_refl _ hg'
     ·by_cases hin : a = i ∧ j ≤ b ∧ b < j + dz
      ·obtain ⟨rfl, h7, h8⟩ := hin
       have e : b = j + (b - j) := by omega
       rw [e, hgin _ (by omega)] at hq
       cases hg : get a (j + (b - j)) with
       | ow n' sz' g =>
        rw [hg] at hq
        simp only [exOne, AC.ref, List.mem_singleton] at hq
        subst hq
        exact List.mem_append_right _ ((hid _).2 ⟨b - j, by omega, by rw [hg]; rfl, rfl⟩)
       | _ =>
        rw [hg] at hq
        refine List.mem_append_left _ (hrsd a (j + (b - j)) ha (by omega) q ?_)
        rw [hg]; exact hq
      ·rw [hgout a b hin] at hq
       exact List.mem_append_left _ (h2 a ha b hb q hq)
    ·obtain ⟨p, hp, hx, rfl⟩ := (hid q').1 hq
     cases hg : get i (j + p) with
     | ow n' sz' g =>
      have hsk : obj s.o (.s k i (j + p)) = .arr .rw [] n' sz' fun i j => (g i j).cp := by
       simp only [obj, hk, if_pos (show i < n ∧ j + p < sz by omega), hg, subO']
      obtain ⟨h1, h2⟩ := hR.heap.arr hsk
      unfold ObjOk
      rw [show obj o' (.r _) = _ from hio p n' sz' g hp hg]
      refine ⟨?_, h2⟩
      rcases h1 with ⟨h1, h3⟩ | ⟨b, base, C, e, h1, h3, h4, h5, h6⟩
      ·exact .inl ⟨by rw [hLi p hp hx]; exact h1, h3⟩
      ·refine .inr ⟨b, base, C, e, by rw [hLi p hp hx]; exact h1, h3, h4, h5, fun a ha c hc => ?_⟩
       obtain ⟨u, hu, hr⟩ := h6 a ha c hc
       refine ⟨u, hu, RelX.of ?_ (isOw_cp _)⟩
       have h7 := M _ _ hr.toC
       rw [AC.kill_id (fun q hq => by have := h2 a ha c hc q hq; simp at this)] at h7
       exact h7
     | _ => rw [hg] at hx; cases hx
   | s q' a b =>
    have e : q' = q := hr
    subst e
    rcases hq with rfl | hq
    ·by_cases hin : a = i ∧ j ≤ b ∧ b < j + dz
     ·unfold ObjOk
      rw [hsub, if_pos hin]; trivial
     ·refine (hR.heap.ok (.s q' a b)).map (Turn.kill ids) M ?_ (fun _ => hLs _ _ _) (fun hg b x hL => ⟨rfl, fun h => h⟩) (fun _ _ _ h => by cases h)
      rw [hsub, if_neg hin]
      simp only [obj, hk]
      split
      ·cases get a b <;> rfl
      ·rfl
    ·unfold ObjOk
     rw [hidsub q' a b hq]; trivial)
  (inj_back (fun id => match id with | .r q => if q ∈ ids then .s k i (j + ((q - k0) / 2 - 1)) else .r q | .s q a b => .s q a b) hR.heap.inj
   (fun id hg => by
    rcases hβ id hg with ⟨q, rfl, h1, h2, h3⟩ | ⟨p, hp, rfl, h2, h3, h4⟩ | ⟨q, a, b, rfl, h1, h2, h3⟩
    ·simp only [h1, if_false]; exact ⟨h2, h3⟩
    ·have := (hid (k0 + 2 * (p + 1))).2 ⟨p, hp, h4, rfl⟩
     simp only [this, if_true]
     rw [show j + ((k0 + 2 * (p + 1) - k0) / 2 - 1) = j + p by omega]
     exact ⟨h2, h3⟩
    ·exact ⟨h2, h3⟩)
   (fun id id' hg hg' he => by
    rcases hβ id hg with ⟨q, rfl, h1, h2, h3⟩ | ⟨p, hp, rfl, h2, h3, h4⟩ | ⟨q, a, b, rfl, h1, h2, h3⟩ <;>
    rcases hβ id' hg' with ⟨q', rfl, g1, g2, g3⟩ | ⟨p', hp', rfl, g2, g3, g4⟩ | ⟨q', a', b', rfl, g1, g2, g3⟩
    ·simpa [h1, g1] using he
    ·have := (hid (k0 + 2 * (p' + 1))).2 ⟨p', hp', g4, rfl⟩
     simp [h1, this] at he
    ·simp [h1] at he
    ·have := (hid (k0 + 2 * (p + 1))).2 ⟨p, hp, h4, rfl⟩
     simp [g1, this] at he
    ·have e1 := (hid (k0 + 2 * (p + 1))).2 ⟨p, hp, h4, rfl⟩
     have e2 := (hid (k0 + 2 * (p' + 1))).2 ⟨p', hp', g4, rfl⟩
     simp only [e1, e2, if_true, Id.s.injEq] at he
     congr 1; omega
    ·have e1 := (hid (k0 + 2 * (p + 1))).2 ⟨p, hp, h4, rfl⟩
     simp only [e1, if_true, Id.s.injEq] at he
     exact (g1 ⟨he.1.symm, he.2.1.symm, by omega, by omega⟩).elim
    ·simp [g1] at he
    ·have e1 := (hid (k0 + 2 * (p' + 1))).2 ⟨p', hp', g4, rfl⟩
     simp only [e1, if_true, Id.s.injEq] at he
     exact (h1 ⟨he.1, he.2.1, by omega, by omega⟩).elim
    ·exact he))
  hR.heap.imm hR.heap.glo (fun b hb => hb) hR.only hR.below
  (fun id b x hg hL => by
   rcases hβ id hg with ⟨q, rfl, h1, h2, h3⟩ | ⟨p, hp, rfl, h2, h3, h4⟩ | ⟨q, a, c, rfl, h1, h2, h3⟩
   ·rw [h2] at hL; exact hR.new _ b x h3 hL
   ·rw [h2] at hL; exact hR.new _ b x h3 hL
   ·rw [h2] at hL; exact hR.new _ b x h3 hL)
  (fun q hq hg => by
   have h1 : q ∉ ids := fun h => by obtain ⟨p, _, _, rfl⟩ := (hid q).1 h; omega
   rw [hLr q h1]
   refine hR.kept q hq ?_
   by_cases hqk : q = k
   ·subst hqk; rw [hk]; simp
   ·rw [hother q hqk h1] at hg; exact AO.map_gone hg)
 rw [kill_t]
 exact this
end
section
variable {P : Program} {T : TT} {w0 w : World} {I0 : Fr} {I : Nat → Prop} {L : Lay} {s : St} {a : Act} {o : Oper} {ob : Obs}

theorem fieldsOf_some {d : TD} {f : Nat} {fd : Field} (h : (fieldsOf d.und)[f]? = some fd) : ∃ fs : Array Field, d.und = .struct fs ∧ fs[f]? = some fd := by
 cases hu : d.und <;> simp [hu, fieldsOf] at h
 rename_i fs
 exact ⟨fs, rfl, by simpa using h⟩
theorem op_field (hT : TOk P T) (hR : RelL w0 I0 L I s a w) {t : TypeId} {x : Operand} {f : Nat} (ho : o.op = .field t x f) (hok : (evalOp std T o s).ok) : OpDone P w0 I0 o a w ((evalOp std T o s).st o.dst s) := by
 have hx := ev_rel hR.tmps x
 simp only [evalOp, ho] at hok ⊢
 split at hok
 ·rename_i d l hd ex
  split at hok
  ·rename_i fd hfd
   obtain ⟨fs, hu, hf⟩ := fieldsOf_some hfd
   split at hok
   ·rename_i fdt hfdt
    rw [ex] at hx
    obtain ⟨ys, hy, hs, hc⟩ := hx
    obtain ⟨y, hr, hv⟩ := takeC_rel (d := fdt) hs hc hok.1 (fun _ => hok.2)
    refine done_give hR (y := y) ?_ hr
    have h1 := run_underlying (w := w) (hT t d hd).1
    rw [hu] at h1
    have h2 := run_isAgg (w := w) hT hfdt
    have h3 := run_sizeOf (w := w) hT hfdt
    simp only [execOp, ho, hy]
    simp only [Sem.run_bind, Instr.field, h1, Result.andThen_ok, hf, asAgg, Sem.run_pure, part, h2]
    split at hv
    ·rename_i hag
     simp [hag, h3, hv]
    ·rename_i hag
     simp [hag, hv]
   ·exact hok.elim
  ·exact hok.elim
 ·exact hok.elim
theorem run_fieldPlace (hT : TOk P T) {fd : Field} {fdt : TD} (h : (T (fd.type)) = some fdt) (hs : 0 < fdt.size) (b off : Nat) : (fieldPlace ⟨b, off, none⟩ fd).run P w = .ok ⟨b, off + fd.offset, none⟩ w := by
 have h3 := run_sizeOf (w := w) hT h
 have : ¬ fdt.size = 0 := by omega
 simp [fieldPlace, h3, this, addr_add]
theorem op_fieldAddr (hT : TOk P T) (hR : RelL w0 I0 L I s a w) {t : TypeId} {x : Operand} {f : Nat} (ho : o.op = .fieldAddr t x f) (hok : (evalOp std T o s).ok) : OpDone P w0 I0 o a w ((evalOp std T o s).st o.dst s) := by
 have hx := ev_rel hR.tmps x
 simp only [evalOp, ho] at hok ⊢
 split at hok
 ·rename_i d hd
  split at hok
  ·rename_i fd hfd
   obtain ⟨fs, hu, hf⟩ := fieldsOf_some hfd
   split at hok
   ·rename_i fdt hfdt
    have h1 := run_underlying (w := w) (hT t d hd).1
    rw [hu] at h1
    have key : ∀ (b off : Nat), a.eval x = .pointer (some ⟨b, off, none⟩) → 0 < fdt.size → (execOp a.eval o).run P w = .ok (.value (.pointer (some ⟨b, off + fd.offset, none⟩))) w := by
     intro b off hy hs
     have h3 := run_fieldPlace (w := w) hT hfdt hs b off
     simp only [execOp, ho, hy]
     simp [Instr.fieldAt, h1, hf, Instr.sureAddr, h3]
    split at hok
    ·rename_i k off ex
     rw [ex] at hx
     obtain ⟨l, b, h2, h3, hy⟩ := hx
     exact done_give hR (key b off hy hok) ⟨l, b, h2, h3, rfl⟩
    ·rename_i k i j ex
     rw [ex] at hx
     obtain ⟨m, rs, N, sz, get, b, base, h2, h3, hy⟩ := hx
     exact done_give hR (key b _ hy hok) ⟨m, rs, N, sz, get, b, base, h2, h3, by simp only [Nat.add_assoc]⟩
    ·rename_i n get ex
     rw [ex] at hx
     obtain ⟨b, off, hy, hb, hc⟩ := hx
     refine done_give hR (key b _ hy hok.1) ⟨b, off + fd.offset, rfl, hb, fun j hj => ?_⟩
     obtain ⟨u, hu', hr⟩ := hc (fd.offset + j) (by have := hok.2; omega)
     exact ⟨u, by rw [Nat.add_assoc]; exact hu', hr⟩
    ·exact hok.elim
   ·exact hok.elim
  ·exact hok.elim
 ·exact hok.elim
theorem cell_of {b : Nat} {C : Array Value} {e : TypeId} {fr : Nat × Nat} (h : w.heap[b]? = some (.cells C e fr)) (i : Nat) : w.cell? ⟨b, i, none⟩ = C[i]? := cell_of_row w b i C e fr h
theorem run_loadVar_cells (hT : TOk P T) {t : TypeId} {d : TD} (hd : (T t) = some d) (hpos : 0 < d.size) (b off : Nat) (f : Nat → Value) (h : ∀ j, j < d.size → w.cell? ⟨b, off + j, none⟩ = some (f j)) :
  (loadVar t ⟨b, off, none⟩).run P w = .ok (if aggB d.und = true then .agg ((List.range d.size).map f).toArray else f 0) w := by
 have h2 := run_isAgg (w := w) hT hd
 have h3 := run_sizeOf (w := w) hT hd
 simp only [loadVar, Sem.run_bind, h2, Result.andThen_ok]
 by_cases hag : aggB d.und = true
 ·have hl := run_loadCells_list (P := P) w ⟨b, off, none⟩ ((List.range d.size).map f) (fun j v hv => by
   rw [List.getElem?_map] at hv
   simp only [Option.map_eq_some_iff] at hv
   obtain ⟨q, hq, rfl⟩ := hv
   have hi : j < d.size := by
    by_cases hjj : j < d.size
    ·exact hjj
    ·exfalso; rw [List.getElem?_eq_none (by simp; omega)] at hq; cases hq
   rw [List.getElem?_range hi] at hq
   simp only [Option.some.injEq] at hq; subst hq
   rw [addr_add]
   exact h _ hi)
  simp only [List.length_map, List.length_range] at hl
  simp [hag, h3, hl]
 ·have h0 := h 0 hpos
  simp only [Nat.add_zero] at h0
  simp [hag, h0]
theorem fnC_rel {R : AC → Value → Prop} {d : TD} {g : Nat → AC} {f : Nat → Value} (hpos : 0 < d.size) (h : ∀ j, j < d.size → R (g j) (f j)) : RelV R (fnC d g) (if aggB d.und = true then .agg ((List.range d.size).map f).toArray else f 0) := by
 unfold fnC
 by_cases hd : aggB d.und = true
 ·rw [if_pos hd, if_pos hd]
  refine ⟨_, rfl, by simp, fun i x hx => ?_⟩
  rw [List.getElem?_map] at hx
  simp only [Option.map_eq_some_iff] at hx
  obtain ⟨q, hq, rfl⟩ := hx
  have hi : i < d.size := by
   by_cases hjj : i < d.size
   ·exact hjj
   ·exfalso; rw [List.getElem?_eq_none (by simp; omega)] at hq; cases hq
  rw [List.getElem?_range hi] at hq
  simp only [Option.some.injEq] at hq; subst hq
  exact ⟨f i, by simp [hi], h i hi⟩
 ·rw [if_neg hd, if_neg hd]
  exact h 0 hpos
theorem choose_cells {R : AC → Value → Prop} {n : Nat} {g : Nat → AC} {c : Nat → Option Value} (h : ∀ j, j < n → ∃ u, c j = some u ∧ R (g j) u) : ∃ f : Nat → Value, ∀ j, j < n → c j = some (f j) ∧ R (g j) (f j) :=
 ⟨fun j => (c j).getD undef, fun j hj => by obtain ⟨u, hu, hr⟩ := h j hj; simp only [hu, Option.getD_some]; exact ⟨trivial, hr⟩⟩
theorem op_load (hT : TOk P T) (hR : RelL w0 I0 L I s a w) {t : TypeId} {x : Operand} (ho : o.op = .load t x) (hok : (evalOp std T o s).ok) : OpDone P w0 I0 o a w ((evalOp std T o s).st o.dst s) := by
 have hx := ev_rel hR.tmps x
 simp only [evalOp, ho] at hok ⊢
 split at hok
 ·rename_i d hd
  have hrun : ∀ (b off : Nat) (f : Nat → Value), a.eval x = .pointer (some ⟨b, off, none⟩) → 0 < d.size → (∀ j, j < d.size → w.cell? ⟨b, off + j, none⟩ = some (f j)) →
    (execOp a.eval o).run P w = .ok (.value (if aggB d.und = true then .agg ((List.range d.size).map f).toArray else f 0)) w := by
   intro b off f hy hpos hf
   have := run_loadVar_cells (w := w) hT hd hpos b off f hf
   simp only [execOp, ho, hy]
   simp [Instr.loadAt, Instr.sureAddr, this]
  have key : ∀ (b off : Nat) (g : Nat → AC), a.eval x = .pointer (some ⟨b, off, none⟩) → 0 < d.size → (∀ j, j < d.size → ∃ u, w.cell? ⟨b, off + j, none⟩ = some u ∧ RelC L I w (obj s.o) (g j) u) → OpDone P w0 I0 o a w (AM.put s o.dst (fnC d g)) := by
   intro b off g hy hpos hc
   obtain ⟨f, hf⟩ := choose_cells hc
   exact done_give hR (hrun b off f hy hpos fun j hj => (hf j hj).1) (fnC_rel hpos fun j hj => (hf j hj).2)
  split at hok
  ·rename_i k off ex
   rw [ex] at hx
   obtain ⟨l, b, h2, h3, hy⟩ := hx
   have h2' : s.o k = .var l := h2
   rw [h2'] at hok ⊢
   obtain ⟨b', C, e, h4, h5, h6, h7, h8⟩ := hR.heap.var h2
   rw [h3] at h4; injection h4 with h4; injection h4 with h4; subst h4
   have e1 : takeC d l off = fnC d fun j => l.getD (off + j) .junk := by
    have h9 : off + d.size ≤ l.length := hok.1
    unfold takeC fnC
    split
    ·congr 1
     apply List.ext_getElem?
     intro i
     rw [List.getElem?_take, List.getElem?_map]
     by_cases hi : i < d.size
     ·rw [if_pos hi, List.getElem?_drop, List.getElem?_range hi]
      simp [List.getD_eq_getElem?_getD, List.getElem?_eq_getElem (show off + i < l.length by omega)]
     ·rw [if_neg hi, List.getElem?_eq_none (by simp; omega)]
      rfl
    ·rfl
   have h9 : off + d.size ≤ l.length := hok.1
   simp only [e1]
   change OpDone P w0 I0 o a w (AM.put s o.dst (fnC d fun j => l.getD (off + j) .junk))
   refine key b off _ hy hok.2 fun j hj => ?_
   have hlt : off + j < l.length := by omega
   obtain ⟨u, hu, hr⟩ := h8 (off + j) l[off + j] (by simp [hlt])
   refine ⟨u, by rw [cell_of h6]; exact hu, ?_⟩
   simp only [List.getD_eq_getElem?_getD, List.getElem?_eq_getElem hlt, Option.getD_some]
   exact hr
  ·rename_i k i j ex
   rw [ex] at hx
   obtain ⟨m, rs, N, sz, get, b, base, h2, h3, hy⟩ := hx
   have h2' : s.o k = .arr m rs N sz get := h2
   rw [h2'] at hok ⊢
   simp only [loadE] at hok ⊢
   rcases (hR.heap.arr h2).1 with ⟨h4, _⟩ | ⟨b', base', C, e, h4, h5, h6, h7, h8⟩
   ·rw [h3] at h4; cases h4
   ·rw [h3] at h4; injection h4 with h4; injection h4 with h4 h4'; subst h4; subst h4'
    split at hok
    ·have h9 : j + d.size ≤ sz := hok.2.1
     change OpDone P w0 I0 o a w (AM.put s o.dst (fnC d fun q => get i (j + q)))
     refine key b _ _ hy hok.2.2 fun q hq => ?_
     obtain ⟨u, hu, hr⟩ := h8 i hok.1 (j + q) (by omega)
     exact ⟨u, by rw [cell_of h6]; rw [show base + (i * sz + j) + q = base + (i * sz + (j + q)) by omega]; exact hu, hr.toC⟩
    ·obtain ⟨g1, g2, g3, g4, g5⟩ := hok
     have g5' : ∀ q ∈ k :: rs, q ∉ (exO (site o.dst) 0 ((List.range d.size).map fun q => get i (j + q))).map (·.1) := fun q hq => by
      have := List.all_eq_true.1 g5 q hq
      simpa using this
     obtain ⟨L', hR', hcell⟩ := hR.expose h2' g1 g2 g4 (by unfold site; omega) g5'
     have hall : ∀ q, q < d.size → ∃ u, w.cell? ⟨b, base + (i * sz + j) + q, none⟩ = some u ∧ RelX L I w (obj s.o) (.r k) i (j + q) (get i (j + q)) u := fun q hq => by
      obtain ⟨u, hu, hr⟩ := h8 i g1 (j + q) (by omega)
      exact ⟨u, by rw [cell_of h6]; rw [show base + (i * sz + j) + q = base + (i * sz + (j + q)) by omega]; exact hu, hr⟩
     obtain ⟨f, hf⟩ : ∃ f : Nat → Value, ∀ q, q < d.size → w.cell? ⟨b, base + (i * sz + j) + q, none⟩ = some (f q) ∧ RelX L I w (obj s.o) (.r k) i (j + q) (get i (j + q)) (f q) :=
      ⟨fun q => (w.cell? ⟨b, base + (i * sz + j) + q, none⟩).getD undef, fun q hq => by obtain ⟨u, hu, hr⟩ := hall q hq; simp only [hu, Option.getD_some]; exact ⟨trivial, hr⟩⟩
     exact ⟨_, _, w, hrun b _ f hy g3 fun q hq => (hf q hq).1, .inl rfl, L', I, hR'.put o.dst (fnC_rel g3 fun q hq => hcell q hq _ (hf q hq).2)⟩
  ·rename_i n get ex
   rw [ex] at hx
   obtain ⟨b, off, hy, hb, hc⟩ := hx
   have h9 : d.size ≤ n := hok.1
   change OpDone P w0 I0 o a w (AM.put s o.dst (fnC d get))
   refine key b off _ hy hok.2 fun j hj => ?_
   obtain ⟨u, hu, hr⟩ := hc j (by omega)
   exact ⟨u, hu, RelI.toC _ _ hr⟩
  ·exact hok.elim
 ·exact hok.elim
end
end Go.Proofs.YtpobpihakgegbaaGreat.AM
