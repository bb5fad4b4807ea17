/-
  What the functions that the law reaches compute, and that they do. No condition.
-/
import Derived.Test.YtlenieingkfjaaaAmT
import Derived.Test.YtlenieingkfjaaaAmE
namespace Go.Proofs.Ytlenieingkfjaaa.AM
open Go Go.Proofs Go.RowKit
set_option linter.unusedVariables false
set_option linter.unusedSimpArgs false
set_option maxRecDepth 100000

theorem mixed : Try.prog.follows .mixedOrders = true := by kernel_rfl
structure TRect where
 fX0 : Int
 fY0 : Int
 fX1 : Int
 fY1 : Int
instance : Inhabited TRect := ⟨⟨default, default, default, default⟩⟩
def encRect (x : TRect) : Nat → AC := fun j => match j with
 | 0 => .v (.int .i64 x.fX0)
 | 1 => .v (.int .i64 x.fY0)
 | 2 => .v (.int .i64 x.fX1)
 | _ => .v (.int .i64 x.fY1)
theorem pl_encRect : ∀ (x : TRect) (j : Nat), plainC (encRect x j) = true := by
 intro x j
 unfold encRect
 split <;> rfl
theorem vl_encRect : ∀ (x : TRect) (j : Nat), valC (encRect x j) = true := by
 intro x j
 unfold encRect
 split <;> rfl
structure TShape where
 fLayer : Int
 fBox : TRect
instance : Inhabited TShape := ⟨⟨default, default⟩⟩
def encShape (x : TShape) : Nat → AC := fun j => match j with
 | 0 => .v (.int .i64 x.fLayer)
 | 1 => .v (.int .i64 x.fBox.fX0)
 | 2 => .v (.int .i64 x.fBox.fY0)
 | 3 => .v (.int .i64 x.fBox.fX1)
 | _ => .v (.int .i64 x.fBox.fY1)
theorem pl_encShape : ∀ (x : TShape) (j : Nat), plainC (encShape x j) = true := by
 intro x j
 unfold encShape
 split <;> rfl
theorem vl_encShape : ∀ (x : TShape) (j : Nat), valC (encShape x j) = true := by
 intro x j
 unfold encShape
 split <;> rfl
structure TPoint where
 fX : Int
 fY : Int
instance : Inhabited TPoint := ⟨⟨default, default⟩⟩
def encPoint (x : TPoint) : Nat → AC := fun j => match j with
 | 0 => .v (.int .i64 x.fX)
 | _ => .v (.int .i64 x.fY)
theorem pl_encPoint : ∀ (x : TPoint) (j : Nat), plainC (encPoint x j) = true := by
 intro x j
 unfold encPoint
 split <;> rfl
theorem vl_encPoint : ∀ (x : TPoint) (j : Nat), valC (encPoint x j) = true := by
 intro x j
 unfold encPoint
 split <;> rfl
structure TLabel where
 fLayer : Int
 fAt : TPoint
 fName : ByteArray
instance : Inhabited TLabel := ⟨⟨default, default, default⟩⟩
def encLabel (x : TLabel) : Nat → AC := fun j => match j with
 | 0 => .v (.int .i64 x.fLayer)
 | 1 => .v (.int .i64 x.fAt.fX)
 | 2 => .v (.int .i64 x.fAt.fY)
 | _ => .v (.string x.fName)
theorem pl_encLabel : ∀ (x : TLabel) (j : Nat), plainC (encLabel x j) = true := by
 intro x j
 unfold encLabel
 split <;> rfl
theorem vl_encLabel : ∀ (x : TLabel) (j : Nat), valC (encLabel x j) = true := by
 intro x j
 unfold encLabel
 split <;> rfl
structure TTransform where
 fOrientation : Int
 fX : Int
 fY : Int
instance : Inhabited TTransform := ⟨⟨default, default, default⟩⟩
def encTransform (x : TTransform) : Nat → AC := fun j => match j with
 | 0 => .v (.int .i64 x.fOrientation)
 | 1 => .v (.int .i64 x.fX)
 | _ => .v (.int .i64 x.fY)
theorem pl_encTransform : ∀ (x : TTransform) (j : Nat), plainC (encTransform x j) = true := by
 intro x j
 unfold encTransform
 split <;> rfl
theorem vl_encTransform : ∀ (x : TTransform) (j : Nat), valC (encTransform x j) = true := by
 intro x j
 unfold encTransform
 split <;> rfl
structure TInstance where
 fCell : Int
 fPlace : TTransform
 fColumns : Int
 fRows : Int
 fStepX : Int
 fStepY : Int
instance : Inhabited TInstance := ⟨⟨default, default, default, default, default, default⟩⟩
def encInstance (x : TInstance) : Nat → AC := fun j => match j with
 | 0 => .v (.int .i64 x.fCell)
 | 1 => .v (.int .i64 x.fPlace.fOrientation)
 | 2 => .v (.int .i64 x.fPlace.fX)
 | 3 => .v (.int .i64 x.fPlace.fY)
 | 4 => .v (.int .i64 x.fColumns)
 | 5 => .v (.int .i64 x.fRows)
 | 6 => .v (.int .i64 x.fStepX)
 | _ => .v (.int .i64 x.fStepY)
theorem pl_encInstance : ∀ (x : TInstance) (j : Nat), plainC (encInstance x j) = true := by
 intro x j
 unfold encInstance
 split <;> rfl
theorem vl_encInstance : ∀ (x : TInstance) (j : Nat), valC (encInstance x j) = true := by
 intro x j
 unfold encInstance
 split <;> rfl
structure TCell where
 fName : ByteArray
 fShapes : List TShape
 fLabels : List TLabel
 fInstances : List TInstance
instance : Inhabited TCell := ⟨⟨default, default, default, default⟩⟩
def encCell (LEN : {α : Type} → List α → Nat) (GD : {α : Type} → [Inhabited α] → List α → Nat → α) (x : TCell) : Nat → AC := fun j => match j with
 | 0 => .v (.string x.fName)
 | 1 => .bs (LEN x.fShapes) 5 (row GD (encShape) x.fShapes)
 | 2 => .bs (LEN x.fLabels) 4 (row GD (encLabel) x.fLabels)
 | _ => .bs (LEN x.fInstances) 8 (row GD (encInstance) x.fInstances)
theorem pl_encCell {LEN : {α : Type} → List α → Nat} {GD : {α : Type} → [Inhabited α] → List α → Nat → α} : ∀ (x : TCell) (j : Nat), plainC (encCell LEN GD x j) = true := by
 intro x j
 unfold encCell
 split <;> rfl
def oncCell (LEN : {α : Type} → List α → Nat) (GD : {α : Type} → [Inhabited α] → List α → Nat → α) (x : TCell) : Nat → AC := fun j => match j with
 | 0 => .v (.string x.fName)
 | 1 => .ow (LEN x.fShapes) 5 (row GD (encShape) x.fShapes)
 | 2 => .ow (LEN x.fLabels) 4 (row GD (encLabel) x.fLabels)
 | _ => .ow (LEN x.fInstances) 8 (row GD (encInstance) x.fInstances)
theorem rf_oncCell {LEN : {α : Type} → List α → Nat} {GD : {α : Type} → [Inhabited α] → List α → Nat → α} : ∀ (x : TCell) (j : Nat), (oncCell LEN GD x j).ref = [] := by
 intro x j
 unfold oncCell
 split <;> rfl
theorem ln_oncCell {LEN : {α : Type} → List α → Nat} {GD : {α : Type} → [Inhabited α] → List α → Nat → α} : ∀ (x : TCell) (j : Nat), (oncCell LEN GD x j).lentIn = encCell LEN GD x j := by
 intro x j
 unfold oncCell encCell
 split <;> rfl
theorem fl_oncCell {LEN : {α : Type} → List α → Nat} {GD : {α : Type} → [Inhabited α] → List α → Nat → α} : ∀ (x : TCell) (j : Nat), (oncCell LEN GD x j).flat := by
 intro x j
 unfold oncCell
 split <;> first | trivial | (exact fun i _ j _ => val_v (vl_encShape _ _)) | (exact fun i _ j _ => val_v (vl_encLabel _ _)) | (exact fun i _ j _ => val_v (vl_encInstance _ _))
structure TLibrary where
 fCells : List TCell
instance : Inhabited TLibrary := ⟨⟨default⟩⟩
def encLibrary (LEN : {α : Type} → List α → Nat) (GD : {α : Type} → [Inhabited α] → List α → Nat → α) (x : TLibrary) : Nat → AC := fun j => match j with
 | _ => .bs (LEN x.fCells) 4 (row GD (encCell LEN GD) x.fCells)
theorem pl_encLibrary {LEN : {α : Type} → List α → Nat} {GD : {α : Type} → [Inhabited α] → List α → Nat → α} : ∀ (x : TLibrary) (j : Nat), plainC (encLibrary LEN GD x j) = true := by
 intro x j
 unfold encLibrary
 split <;> rfl
structure Tl14State where
 gwant : Int
 gdone : TLibrary
 gopen : Bool
 gcell : TCell
 gkind : Int
 gended : Bool
instance : Inhabited Tl14State := ⟨⟨default, default, default, default, default, default⟩⟩
def encl14State (LEN : {α : Type} → List α → Nat) (GD : {α : Type} → [Inhabited α] → List α → Nat → α) (x : Tl14State) : Nat → AC := fun j => match j with
 | 0 => .v (.int .i64 x.gwant)
 | 1 => .bs (LEN x.gdone.fCells) 4 (row GD (encCell LEN GD) x.gdone.fCells)
 | 2 => .v (.bool x.gopen)
 | 3 => .v (.string x.gcell.fName)
 | 4 => .bs (LEN x.gcell.fShapes) 5 (row GD (encShape) x.gcell.fShapes)
 | 5 => .bs (LEN x.gcell.fLabels) 4 (row GD (encLabel) x.gcell.fLabels)
 | 6 => .bs (LEN x.gcell.fInstances) 8 (row GD (encInstance) x.gcell.fInstances)
 | 7 => .v (.int .i64 x.gkind)
 | _ => .v (.bool x.gended)
theorem pl_encl14State {LEN : {α : Type} → List α → Nat} {GD : {α : Type} → [Inhabited α] → List α → Nat → α} : ∀ (x : Tl14State) (j : Nat), plainC (encl14State LEN GD x j) = true := by
 intro x j
 unfold encl14State
 split <;> rfl
structure Tl13Reader where
 gs : ByteArray
 gat : Int
 gbad : Bool
instance : Inhabited Tl13Reader := ⟨⟨default, default, default⟩⟩
def encl13Reader (x : Tl13Reader) : Nat → AC := fun j => match j with
 | 0 => .v (.string x.gs)
 | 1 => .v (.int .i64 x.gat)
 | _ => .v (.bool x.gbad)
theorem pl_encl13Reader : ∀ (x : Tl13Reader) (j : Nat), plainC (encl13Reader x j) = true := by
 intro x j
 unfold encl13Reader
 split <;> rfl
theorem vl_encl13Reader : ∀ (x : Tl13Reader) (j : Nat), valC (encl13Reader x j) = true := by
 intro x j
 unfold encl13Reader
 split <;> rfl
structure TstreamReader where
 gbegun : Bool
 gdone : Bool
 gcells : Int
 ginside : Bool
 gcell : TCell
 glib : TLibrary
instance : Inhabited TstreamReader := ⟨⟨default, default, default, default, default, default⟩⟩
def encstreamReader (LEN : {α : Type} → List α → Nat) (GD : {α : Type} → [Inhabited α] → List α → Nat → α) (x : TstreamReader) : Nat → AC := fun j => match j with
 | 0 => .v (.bool x.gbegun)
 | 1 => .v (.bool x.gdone)
 | 2 => .v (.int .i64 x.gcells)
 | 3 => .v (.bool x.ginside)
 | 4 => .v (.string x.gcell.fName)
 | 5 => .bs (LEN x.gcell.fShapes) 5 (row GD (encShape) x.gcell.fShapes)
 | 6 => .bs (LEN x.gcell.fLabels) 4 (row GD (encLabel) x.gcell.fLabels)
 | 7 => .bs (LEN x.gcell.fInstances) 8 (row GD (encInstance) x.gcell.fInstances)
 | _ => .bs (LEN x.glib.fCells) 4 (row GD (encCell LEN GD) x.glib.fCells)
theorem pl_encstreamReader {LEN : {α : Type} → List α → Nat} {GD : {α : Type} → [Inhabited α] → List α → Nat → α} : ∀ (x : TstreamReader) (j : Nat), plainC (encstreamReader LEN GD x j) = true := by
 intro x j
 unfold encstreamReader
 split <;> rfl
structure TbyteReader where
 gs : ByteArray
 gbad : Bool
instance : Inhabited TbyteReader := ⟨⟨default, default⟩⟩
def encbyteReader (x : TbyteReader) : Nat → AC := fun j => match j with
 | 0 => .v (.string x.gs)
 | _ => .v (.bool x.gbad)
theorem pl_encbyteReader : ∀ (x : TbyteReader) (j : Nat), plainC (encbyteReader x j) = true := by
 intro x j
 unfold encbyteReader
 split <;> rfl
theorem vl_encbyteReader : ∀ (x : TbyteReader) (j : Nat), valC (encbyteReader x j) = true := by
 intro x j
 unfold encbyteReader
 split <;> rfl
/-- spec.l09In -/
noncomputable def F_spec_l09In (a0 : Int) (a1 : Int) (a2 : Int) : Option (Bool) :=
 ((
    br (std.le a1 a0)
    (some (std.le a0 a2))
    (some false)
  ) : Option (Bool)).bind fun y1 =>
 letO y1 fun w7 =>
 some w7
set_option maxHeartbeats 4000000 in
theorem run_spec_l09In (a0 : Int) (a1 : Int) (a2 : Int) (r : Bool) (h : F_spec_l09In a0 a1 a2 = some r) : Fun Try.prog 138 [.c (.v (.int .i64 a0)), .c (.v (.int .i64 a1)), .c (.v (.int .i64 a2))] [] (.c (.v (.bool r))) [] true := by
 refine Fun.of_wp (oneOf [1]) tok mixed Try.func138 (by kernel_rfl) rfl Try.ntmps138 rfl trivial (fun _ => ⟨trivial, trivial⟩) ?_
 unfold F_spec_l09In at h
 generalize hLEN : @len = LEN at *
 generalize hGD : @gd = GD at *
 generalize hA : std = A at *
 generalize hP : Try.prog = P at *
 cbv
 replace h := of_bind h
 obtain ⟨y1, hy2, h⟩ := h
 obtain ⟨S5, hS6⟩ : ∃ S, S = (sparse 15 [(6, .c (.v (.bool y1)))] []) := ⟨_, rfl⟩
 refine ⟨S5, ?_, ?_⟩
 ·clear h
  have h := hy2
  clear hy2
  cbv
  refine fork (fun b8 => ?_) (fun b8 => ?_)
  ·replace h := of_br_t b8 h
   cbv
   injection h with h
   subst h
   subst hS6
   show St.le _ _
   exact le_sparse rfl ⟨lR _, trivial⟩ trivial rfl
  ·replace h := of_br_f b8 h
   cbv
   injection h with h
   subst h
   subst hS6
   show St.le _ _
   exact le_sparse rfl ⟨lR _, trivial⟩ trivial rfl
 ·clear hy2
  subst hS6
  replace h := of_let h
  obtain ⟨w7, hw7, h⟩ := h
  have hw7 : w7 = y1 := hw7
  subst hw7
  cbv
  injection h with h
  subst h
  refine ⟨(sparse 15 [(6, .c (.v (.bool w7)))] []), ?_, ?_⟩
  ·exact le_sparse rfl ⟨lR _, trivial⟩ trivial rfl
  ·exact ⟨lR _, trivial, rfl⟩

noncomputable def L_spec_Checksum16_x3 (a0 : ByteArray) : (Int × Int) → Option ((Int × Int) ⊕ ((Int))) := fun x3 =>
 letO x3.1 fun v1 =>
 letO x3.2 fun v2 =>
 br (std.lt v2 (std.ofN (std.slen a0)))
 (req (std.inR v2 (std.slen a0)) <|
 req (std.nz 65521) <|
 some (.inl (std.rem (std.add .i64 (std.add .i64 (std.mul .i64 31 v1) (std.conv .i64 (std.sat a0 (std.toN v2)))) 1) 65521, std.add .i64 v2 1)))
 (some (.inr v1))
/-- spec.Checksum16 -/
noncomputable def F_spec_Checksum16 (a0 : ByteArray) : Option (Int) :=
 (whileP (σ := Int × Int) (ρ := (Int)) (L_spec_Checksum16_x3 a0) (1, 0)).bind fun y4 =>
 letO y4 fun y4k0 =>
 letO y4k0 fun w18 =>
 some w18
set_option maxHeartbeats 4000000 in
theorem run_spec_Checksum16 (a0 : ByteArray) (r : Int) (h : F_spec_Checksum16 a0 = some r) : Fun Try.prog 105 [.c (.v (.string a0))] [] (.c (.v (.int .i64 r))) [] true := by
 refine Fun.of_wp (oneOf []) tok mixed Try.func105 (by kernel_rfl) rfl Try.ntmps105 rfl trivial (fun _ => ⟨trivial, trivial⟩) ?_
 unfold F_spec_Checksum16 at h
 unfold L_spec_Checksum16_x3 at h
 generalize hLEN : @len = LEN at *
 generalize hGD : @gd = GD at *
 generalize hA : std = A at *
 generalize hP : Try.prog = P at *
 cbv
 replace h := of_bind h
 obtain ⟨y4, hr5, hN6⟩ := h
 refine loop_cut hr5 (fun x => (sparse 21 [(0, .c (.v (.string a0))), (3, .c (.v (.int .i64 x.1))), (4, .c (.v (.int .i64 x.2)))] [])) ?_ (fun y e s => (fun (w : Int) => e = .exit 0 ∧ s.le (sparse 21 [(3, .c (.v (.int .i64 w)))] [])) y) ?_ ?_
 ·clear hr5 hN6
  show St.le _ _
  exact le_sparse rfl ⟨lR _, lR _, lR _, trivial⟩ trivial rfl
 ·clear hr5 hN6
  intro x z10 h K8 hK9 hY7
  obtain ⟨x0_, x1_⟩ := x
  replace h := of_let h
  obtain ⟨v1, hv1, h⟩ := h
  have hv1 : v1 = x0_ := hv1
  subst hv1
  replace h := of_let h
  obtain ⟨v2, hv2, h⟩ := h
  have hv2 : v2 = x1_ := hv2
  subst hv2
  cbv
  refine fork (fun b17 => ?_) (fun b17 => ?_)
  ·replace h := of_br_t b17 h
   cbv
   replace h := of_req h
   obtain ⟨c15, h⟩ := h
   refine ⟨c15, ?_⟩
   replace h := of_req h
   obtain ⟨c16, h⟩ := h
   refine ⟨c16, ?_⟩
   injection h with h
   refine hK9 _ h.symm _ ?_
   exact le_sparse rfl ⟨lR _, lR _, lR _, trivial⟩ trivial rfl
  ·replace h := of_br_f b17 h
   cbv
   injection h with h
   refine hY7 _ h.symm _ _ (And.intro rfl ?_) (by intro hh; cases hh)
   exact le_sparse rfl ⟨lR _, trivial⟩ trivial rfl
 ·clear hr5
  have h := hN6
  clear hN6
  intro e13 s14 q12 hne
  replace h := of_let h
  obtain ⟨y4k0, hyk, h⟩ := h
  have hyk : y4k0 = y4 := hyk
  subst hyk
  obtain ⟨rfl, q12⟩ := q12
  replace h := of_let h
  obtain ⟨w18, hw18, h⟩ := h
  have hw18 : w18 = y4k0 := hw18
  subst hw18
  cbv
  refine ⟨_, q12, ?_⟩
  cbv
  injection h with h
  subst h
  refine ⟨(sparse 21 [(2, .c (.v (.int .i64 w18)))] []), ?_, ?_⟩
  ·exact le_sparse rfl ⟨lR _, trivial⟩ trivial rfl
  ·exact ⟨lR _, trivial, rfl⟩

/-- spec.l13Two -/
noncomputable def F_spec_l13Two (a0 : Int) : Option (ByteArray) :=
 req (std.nneg 8) <|
 letO ([std.conv .u8 (std.shr .i64 a0 8), std.conv .u8 a0] : List Int) fun l2 =>
 some (std.ofBytes (len l2) (fun i => gd l2 (0 + i)))
set_option maxHeartbeats 4000000 in
theorem run_spec_l13Two (a0 : Int) (r : ByteArray) (h : F_spec_l13Two a0 = some r) : Fun Try.prog 104 [.c (.v (.int .i64 a0))] [] (.c (.v (.string r))) [] true := by
 refine Fun.of_wp (oneOf []) tok mixed Try.func104 (by kernel_rfl) rfl Try.ntmps104 rfl trivial (fun _ => ⟨trivial, trivial⟩) ?_
 unfold F_spec_l13Two at h
 generalize hLEN : @len = LEN at *
 generalize hGD : @gd = GD at *
 generalize hA : std = A at *
 generalize hP : Try.prog = P at *
 cbv
 replace h := of_req h
 obtain ⟨c1, h⟩ := h
 refine ⟨c1, ?_⟩
 replace h := of_let h
 obtain ⟨l2, hl2, h⟩ := h
 have e3 : 2 = LEN l2 := by subst hl2 hLEN; rfl
 refine ⟨_, congrArg (fun n => AV.c (AC.os 512 0 n)) e3, _, row GD (encI .u8) l2, e3, wkOf ?_, ?_⟩
 ·intro i hi j hj
  rw [← e3] at hi
  subst hl2
  subst hGD
  obtain rfl | rfl : i = 0 ∨ i = 1 := (by omega)
  all_goals obtain rfl : j = 0 := by omega
  all_goals rfl
 cbv
 refine ⟨fun _ _ => rfl, ?_⟩
 injection h with h
 subst h
 refine ⟨(sparse 10 [(2, .c (.v (.string (A.ofBytes (LEN l2) (fun i => GD l2 (0 + i))))))] []), ?_, ?_⟩
 ·exact le_sparse rfl ⟨lR _, trivial⟩ trivial rfl
 ·exact ⟨lR _, trivial, rfl⟩

/-- spec.SplitRecord -/
noncomputable def F_spec_SplitRecord (a0 : ByteArray) (a1 : Int) : Option (Int × ByteArray × Int × Int) :=
 (F_spec_l09In a1 0 (std.ofN (std.slen a0))).bind fun y1 =>
 br (!(y1))
 (some ((0 : Int), (ByteArray.mk #[]), (0 : Int), (2 : Int)))
 (req (std.upTo a1 (std.slen a0)) <|
 br (std.lt (std.ofN (std.slen (std.ssub a0 (std.toN a1) (std.slen a0)))) 2)
 (some ((0 : Int), (ByteArray.mk #[]), (0 : Int), (7 : Int)))
 (req (std.inR 0 (std.slen (std.ssub a0 (std.toN a1) (std.slen a0)))) <|
 req (std.inR 1 (std.slen (std.ssub a0 (std.toN a1) (std.slen a0)))) <|
 br (std.lt (std.add .i64 (std.mul .i64 256 (std.conv .i64 (std.sat (std.ssub a0 (std.toN a1) (std.slen a0)) (std.toN 0)))) (std.conv .i64 (std.sat (std.ssub a0 (std.toN a1) (std.slen a0)) (std.toN 1)))) 5)
 (some ((0 : Int), (ByteArray.mk #[]), (0 : Int), (4 : Int)))
 (br (std.lt (std.ofN (std.slen (std.ssub a0 (std.toN a1) (std.slen a0)))) (std.add .i64 (std.mul .i64 256 (std.conv .i64 (std.sat (std.ssub a0 (std.toN a1) (std.slen a0)) (std.toN 0)))) (std.conv .i64 (std.sat (std.ssub a0 (std.toN a1) (std.slen a0)) (std.toN 1)))))
 (some ((0 : Int), (ByteArray.mk #[]), (0 : Int), (7 : Int)))
 (req (std.upTo (std.sub .i64 (std.add .i64 (std.mul .i64 256 (std.conv .i64 (std.sat (std.ssub a0 (std.toN a1) (std.slen a0)) (std.toN 0)))) (std.conv .i64 (std.sat (std.ssub a0 (std.toN a1) (std.slen a0)) (std.toN 1)))) 2) (std.slen (std.ssub a0 (std.toN a1) (std.slen a0)))) <|
 (F_spec_Checksum16 (std.ssub (std.ssub a0 (std.toN a1) (std.slen a0)) 0 (std.toN (std.sub .i64 (std.add .i64 (std.mul .i64 256 (std.conv .i64 (std.sat (std.ssub a0 (std.toN a1) (std.slen a0)) (std.toN 0)))) (std.conv .i64 (std.sat (std.ssub a0 (std.toN a1) (std.slen a0)) (std.toN 1)))) 2)))).bind fun y7 =>
 (F_spec_l13Two y7).bind fun y9 =>
 req (std.upTo (std.add .i64 (std.mul .i64 256 (std.conv .i64 (std.sat (std.ssub a0 (std.toN a1) (std.slen a0)) (std.toN 0)))) (std.conv .i64 (std.sat (std.ssub a0 (std.toN a1) (std.slen a0)) (std.toN 1)))) (std.slen (std.ssub a0 (std.toN a1) (std.slen a0)))) <|
 req (std.upTo (std.sub .i64 (std.add .i64 (std.mul .i64 256 (std.conv .i64 (std.sat (std.ssub a0 (std.toN a1) (std.slen a0)) (std.toN 0)))) (std.conv .i64 (std.sat (std.ssub a0 (std.toN a1) (std.slen a0)) (std.toN 1)))) 2) (std.toN (std.add .i64 (std.mul .i64 256 (std.conv .i64 (std.sat (std.ssub a0 (std.toN a1) (std.slen a0)) (std.toN 0)))) (std.conv .i64 (std.sat (std.ssub a0 (std.toN a1) (std.slen a0)) (std.toN 1)))))) <|
 br (std.not (std.seq y9 (std.ssub (std.ssub a0 (std.toN a1) (std.slen a0)) (std.toN (std.sub .i64 (std.add .i64 (std.mul .i64 256 (std.conv .i64 (std.sat (std.ssub a0 (std.toN a1) (std.slen a0)) (std.toN 0)))) (std.conv .i64 (std.sat (std.ssub a0 (std.toN a1) (std.slen a0)) (std.toN 1)))) 2)) (std.toN (std.add .i64 (std.mul .i64 256 (std.conv .i64 (std.sat (std.ssub a0 (std.toN a1) (std.slen a0)) (std.toN 0)))) (std.conv .i64 (std.sat (std.ssub a0 (std.toN a1) (std.slen a0)) (std.toN 1))))))))
 (some ((0 : Int), (ByteArray.mk #[]), (0 : Int), (8 : Int)))
 (((
    req (std.inR 2 (std.slen (std.ssub a0 (std.toN a1) (std.slen a0)))) <|
    (F_spec_l09In (std.conv .i64 (std.sat (std.ssub a0 (std.toN a1) (std.slen a0)) (std.toN 2))) 1 7).bind fun y21 =>
    br (!(y21))
    (some true)
    (some (std.lt 200 (std.sub .i64 (std.add .i64 (std.mul .i64 256 (std.conv .i64 (std.sat (std.ssub a0 (std.toN a1) (std.slen a0)) (std.toN 0)))) (std.conv .i64 (std.sat (std.ssub a0 (std.toN a1) (std.slen a0)) (std.toN 1)))) 5)))
  ) : Option (Bool)).bind fun y13 =>
 letO y13 fun w19 =>
 br w19
 (some ((0 : Int), (ByteArray.mk #[]), (0 : Int), (4 : Int)))
 (req (std.inR 2 (std.slen (std.ssub a0 (std.toN a1) (std.slen a0)))) <|
 req (std.upTo (std.sub .i64 (std.add .i64 (std.mul .i64 256 (std.conv .i64 (std.sat (std.ssub a0 (std.toN a1) (std.slen a0)) (std.toN 0)))) (std.conv .i64 (std.sat (std.ssub a0 (std.toN a1) (std.slen a0)) (std.toN 1)))) 2) (std.slen (std.ssub a0 (std.toN a1) (std.slen a0)))) <|
 req (std.upTo 3 (std.toN (std.sub .i64 (std.add .i64 (std.mul .i64 256 (std.conv .i64 (std.sat (std.ssub a0 (std.toN a1) (std.slen a0)) (std.toN 0)))) (std.conv .i64 (std.sat (std.ssub a0 (std.toN a1) (std.slen a0)) (std.toN 1)))) 2))) <|
 some (std.conv .i64 (std.sat (std.ssub a0 (std.toN a1) (std.slen a0)) (std.toN 2)), std.ssub (std.ssub a0 (std.toN a1) (std.slen a0)) (std.toN 3) (std.toN (std.sub .i64 (std.add .i64 (std.mul .i64 256 (std.conv .i64 (std.sat (std.ssub a0 (std.toN a1) (std.slen a0)) (std.toN 0)))) (std.conv .i64 (std.sat (std.ssub a0 (std.toN a1) (std.slen a0)) (std.toN 1)))) 2)), std.add .i64 a1 (std.add .i64 (std.mul .i64 256 (std.conv .i64 (std.sat (std.ssub a0 (std.toN a1) (std.slen a0)) (std.toN 0)))) (std.conv .i64 (std.sat (std.ssub a0 (std.toN a1) (std.slen a0)) (std.toN 1)))), (0 : Int))))))))
set_option maxHeartbeats 4000000 in
theorem run_spec_SplitRecord (a0 : ByteArray) (a1 : Int) (r : Int × ByteArray × Int × Int) (h : F_spec_SplitRecord a0 a1 = some r) : Fun Try.prog 163 [.c (.v (.string a0)), .c (.v (.int .i64 a1))] [] (.tup [.c (.v (.int .i64 r.1)), .c (.v (.string r.2.1)), .c (.v (.int .i64 r.2.2.1)), .c (.v (.int .i64 r.2.2.2))]) [] true := by
 refine Fun.of_wp (oneOf [13]) tok mixed Try.func163 (by kernel_rfl) rfl Try.ntmps163 rfl trivial (fun _ => ⟨(by simp [AV.flat, AV.flat1, AC.flat]), trivial⟩) ?_
 unfold F_spec_SplitRecord at h
 have hf_spec_Checksum16 := @run_spec_Checksum16
 have hf_spec_l09In := @run_spec_l09In
 have hf_spec_l13Two := @run_spec_l13Two
 generalize hLEN : @len = LEN at *
 generalize hGD : @gd = GD at *
 generalize hA : std = A at *
 generalize hP : Try.prog = P at *
 cbv
 replace h := of_bind h
 obtain ⟨y1, hy2, h⟩ := h
 refine ⟨{ args := [.c (.v (.int .i64 a1)), .c (.v (.int .i64 0)), .c (.v (.int .i64 (A.ofN (A.slen a0))))], o0 := [], r := .c (.v (.bool y1)), o1 := [], fl := true, σ := [], τ := [] }, hf_spec_l09In _ _ _ _ hy2, ⟨les_cons (lR _) (les_cons (lR _) (les_cons (lR _) (les_nil))), trivial, rfl, rfl, rfl, rfl, trivial, rfl⟩, ?_⟩
 cbv
 refine fork (fun b32 => ?_) (fun b32 => ?_)
 ·replace h := of_br_t b32 h
  cbv
  injection h with h
  subst h
  refine ⟨(sparse 71 [(4, .c (.v (.int .i64 0))), (5, .c (.v (.string (ByteArray.mk #[])))), (6, .c (.v (.int .i64 0))), (7, .c (.v (.int .i64 2)))] []), ?_, ?_⟩
  ·exact le_sparse rfl ⟨lR _, lR _, lR _, lR _, trivial⟩ trivial rfl
  ·exact ⟨lR _, trivial, rfl⟩
 ·replace h := of_br_f b32 h
  cbv
  replace h := of_req h
  obtain ⟨c3, h⟩ := h
  refine ⟨c3, ?_⟩
  refine fork (fun b31 => ?_) (fun b31 => ?_)
  ·replace h := of_br_t b31 h
   cbv
   injection h with h
   subst h
   refine ⟨(sparse 71 [(4, .c (.v (.int .i64 0))), (5, .c (.v (.string (ByteArray.mk #[])))), (6, .c (.v (.int .i64 0))), (7, .c (.v (.int .i64 7)))] []), ?_, ?_⟩
   ·exact le_sparse rfl ⟨lR _, lR _, lR _, lR _, trivial⟩ trivial rfl
   ·exact ⟨lR _, trivial, rfl⟩
  ·replace h := of_br_f b31 h
   cbv
   replace h := of_req h
   obtain ⟨c4, h⟩ := h
   refine ⟨c4, ?_⟩
   replace h := of_req h
   obtain ⟨c5, h⟩ := h
   refine ⟨c5, ?_⟩
   refine fork (fun b30 => ?_) (fun b30 => ?_)
   ·replace h := of_br_t b30 h
    cbv
    injection h with h
    subst h
    refine ⟨(sparse 71 [(4, .c (.v (.int .i64 0))), (5, .c (.v (.string (ByteArray.mk #[])))), (6, .c (.v (.int .i64 0))), (7, .c (.v (.int .i64 4)))] []), ?_, ?_⟩
    ·exact le_sparse rfl ⟨lR _, lR _, lR _, lR _, trivial⟩ trivial rfl
    ·exact ⟨lR _, trivial, rfl⟩
   ·replace h := of_br_f b30 h
    cbv
    refine fork (fun b29 => ?_) (fun b29 => ?_)
    ·replace h := of_br_t b29 h
     cbv
     injection h with h
     subst h
     refine ⟨(sparse 71 [(4, .c (.v (.int .i64 0))), (5, .c (.v (.string (ByteArray.mk #[])))), (6, .c (.v (.int .i64 0))), (7, .c (.v (.int .i64 7)))] []), ?_, ?_⟩
     ·exact le_sparse rfl ⟨lR _, lR _, lR _, lR _, trivial⟩ trivial rfl
     ·exact ⟨lR _, trivial, rfl⟩
    ·replace h := of_br_f b29 h
     cbv
     replace h := of_req h
     obtain ⟨c6, h⟩ := h
     refine ⟨c6, ?_⟩
     replace h := of_bind h
     obtain ⟨y7, hy8, h⟩ := h
     refine ⟨{ args := [.c (.v (.string (A.ssub (A.ssub a0 (A.toN a1) (A.slen a0)) 0 (A.toN (A.sub .i64 (A.add .i64 (A.mul .i64 256 (A.conv .i64 (A.sat (A.ssub a0 (A.toN a1) (A.slen a0)) (A.toN 0)))) (A.conv .i64 (A.sat (A.ssub a0 (A.toN a1) (A.slen a0)) (A.toN 1)))) 2)))))], o0 := [], r := .c (.v (.int .i64 y7)), o1 := [], fl := true, σ := [], τ := [] }, hf_spec_Checksum16 _ _ hy8, ⟨les_cons (lR _) (les_nil), trivial, rfl, rfl, rfl, rfl, trivial, rfl⟩, ?_⟩
     cbv
     replace h := of_bind h
     obtain ⟨y9, hy10, h⟩ := h
     refine ⟨{ args := [.c (.v (.int .i64 y7))], o0 := [], r := .c (.v (.string y9)), o1 := [], fl := true, σ := [], τ := [] }, hf_spec_l13Two _ _ hy10, ⟨les_cons (lR _) (les_nil), trivial, rfl, rfl, rfl, rfl, trivial, rfl⟩, ?_⟩
     cbv
     replace h := of_req h
     obtain ⟨c11, h⟩ := h
     replace h := of_req h
     obtain ⟨c12, h⟩ := h
     refine ⟨⟨c11, c12⟩, ?_⟩
     refine fork (fun b28 => ?_) (fun b28 => ?_)
     ·replace h := of_br_t b28 h
      cbv
      injection h with h
      subst h
      refine ⟨(sparse 71 [(4, .c (.v (.int .i64 0))), (5, .c (.v (.string (ByteArray.mk #[])))), (6, .c (.v (.int .i64 0))), (7, .c (.v (.int .i64 8)))] []), ?_, ?_⟩
      ·exact le_sparse rfl ⟨lR _, lR _, lR _, lR _, trivial⟩ trivial rfl
      ·exact ⟨lR _, trivial, rfl⟩
     ·replace h := of_br_f b28 h
      cbv
      replace h := of_bind h
      obtain ⟨y13, hy14, h⟩ := h
      obtain ⟨S17, hS18⟩ : ∃ S, S = (sparse 71 [(1, .c (.v (.int .i64 a1))), (8, .c (.v (.string (A.ssub a0 (A.toN a1) (A.slen a0))))), (9, .c (.v (.int .i64 (A.add .i64 (A.mul .i64 256 (A.conv .i64 (A.sat (A.ssub a0 (A.toN a1) (A.slen a0)) (A.toN 0)))) (A.conv .i64 (A.sat (A.ssub a0 (A.toN a1) (A.slen a0)) (A.toN 1))))))), (50, .c (.v (.bool y13)))] []) := ⟨_, rfl⟩
      refine ⟨S17, ?_, ?_⟩
      ·clear h
       have h := hy14
       clear hy14
       cbv
       replace h := of_req h
       obtain ⟨c20, h⟩ := h
       refine ⟨c20, ?_⟩
       replace h := of_bind h
       obtain ⟨y21, hy22, h⟩ := h
       refine ⟨{ args := [.c (.v (.int .i64 (A.conv .i64 (A.sat (A.ssub a0 (A.toN a1) (A.slen a0)) (A.toN 2))))), .c (.v (.int .i64 1)), .c (.v (.int .i64 7))], o0 := [], r := .c (.v (.bool y21)), o1 := [], fl := true, σ := [], τ := [] }, hf_spec_l09In _ _ _ _ hy22, ⟨les_cons (lR _) (les_cons (lR _) (les_cons (lR _) (les_nil))), trivial, rfl, rfl, rfl, rfl, trivial, rfl⟩, ?_⟩
       cbv
       refine fork (fun b23 => ?_) (fun b23 => ?_)
       ·replace h := of_br_t b23 h
        cbv
        injection h with h
        subst h
        subst hS18
        show St.le _ _
        exact le_sparse rfl ⟨lR _, lR _, lR _, lR _, trivial⟩ trivial rfl
       ·replace h := of_br_f b23 h
        cbv
        injection h with h
        subst h
        subst hS18
        show St.le _ _
        exact le_sparse rfl ⟨lR _, lR _, lR _, lR _, trivial⟩ trivial rfl
      ·clear hy14
       subst hS18
       replace h := of_let h
       obtain ⟨w19, hw19, h⟩ := h
       have hw19 : w19 = y13 := hw19
       subst hw19
       cbv
       refine fork (fun b27 => ?_) (fun b27 => ?_)
       ·replace h := of_br_t b27 h
        cbv
        injection h with h
        subst h
        refine ⟨(sparse 71 [(4, .c (.v (.int .i64 0))), (5, .c (.v (.string (ByteArray.mk #[])))), (6, .c (.v (.int .i64 0))), (7, .c (.v (.int .i64 4)))] []), ?_, ?_⟩
        ·exact le_sparse rfl ⟨lR _, lR _, lR _, lR _, trivial⟩ trivial rfl
        ·exact ⟨lR _, trivial, rfl⟩
       ·replace h := of_br_f b27 h
        cbv
        replace h := of_req h
        obtain ⟨c24, h⟩ := h
        refine ⟨c24, ?_⟩
        replace h := of_req h
        obtain ⟨c25, h⟩ := h
        replace h := of_req h
        obtain ⟨c26, h⟩ := h
        refine ⟨⟨c25, c26⟩, ?_⟩
        injection h with h
        subst h
        refine ⟨(sparse 71 [(4, .c (.v (.int .i64 (A.conv .i64 (A.sat (A.ssub a0 (A.toN a1) (A.slen a0)) (A.toN 2)))))), (5, .c (.v (.string (A.ssub (A.ssub a0 (A.toN a1) (A.slen a0)) (A.toN 3) (A.toN (A.sub .i64 (A.add .i64 (A.mul .i64 256 (A.conv .i64 (A.sat (A.ssub a0 (A.toN a1) (A.slen a0)) (A.toN 0)))) (A.conv .i64 (A.sat (A.ssub a0 (A.toN a1) (A.slen a0)) (A.toN 1)))) 2)))))), (6, .c (.v (.int .i64 (A.add .i64 a1 (A.add .i64 (A.mul .i64 256 (A.conv .i64 (A.sat (A.ssub a0 (A.toN a1) (A.slen a0)) (A.toN 0)))) (A.conv .i64 (A.sat (A.ssub a0 (A.toN a1) (A.slen a0)) (A.toN 1)))))))), (7, .c (.v (.int .i64 0)))] []), ?_, ?_⟩
        ·exact le_sparse rfl ⟨lR _, lR _, lR _, lR _, trivial⟩ trivial rfl
        ·exact ⟨lR _, trivial, rfl⟩

/-- spec.l14Possible -/
noncomputable def F_spec_l14Possible_mpb (a0 : Tl14State) (a1 : Int) : Option (Bool) :=
 br (std.lt a0.gwant 0)
 (some (std.eq a1 1))
 (br a0.gopen
 ((F_spec_l09In a1 (std.imax a0.gkind 3) 6).bind fun y1 =>
 some y1)
 (br (std.lt (std.ofN (len a0.gdone.fCells)) a0.gwant)
 (some (std.eq a1 2))
 (some (std.eq a1 7))))
set_option maxHeartbeats 4000000 in
theorem run_spec_l14Possible_mpb (a0 : Tl14State) (a1 : Int) (r : Bool) (h : F_spec_l14Possible_mpb a0 a1 = some r) : Fun Try.prog 224 [.c (.bp 9 (encl14State len gd a0)), .c (.v (.int .i64 a1))] [] (.c (.v (.bool r))) [] true := by
 refine Fun.of_wp (oneOf []) tok mixed Try.func224 (by kernel_rfl) rfl Try.ntmps224 rfl trivial (fun _ => ⟨trivial, trivial⟩) ?_
 unfold F_spec_l14Possible_mpb at h
 have hf_spec_l09In := @run_spec_l09In
 generalize hLEN : @len = LEN at *
 generalize hGD : @gd = GD at *
 generalize hA : std = A at *
 generalize hP : Try.prog = P at *
 cbv
 refine fork (fun b5 => ?_) (fun b5 => ?_)
 ·replace h := of_br_t b5 h
  cbv
  injection h with h
  subst h
  refine ⟨(sparse 41 [(4, .c (.v (.bool (A.eq a1 1))))] []), ?_, ?_⟩
  ·exact le_sparse rfl ⟨lR _, trivial⟩ trivial rfl
  ·exact ⟨lR _, trivial, rfl⟩
 ·replace h := of_br_f b5 h
  cbv
  refine fork (fun b4 => ?_) (fun b4 => ?_)
  ·replace h := of_br_t b4 h
   cbv
   replace h := of_bind h
   obtain ⟨y1, hy2, h⟩ := h
   refine ⟨{ args := [.c (.v (.int .i64 a1)), .c (.v (.int .i64 (A.imax a0.gkind 3))), .c (.v (.int .i64 6))], o0 := [], r := .c (.v (.bool y1)), o1 := [], fl := true, σ := [], τ := [] }, hf_spec_l09In _ _ _ _ hy2, ⟨les_cons (lR _) (les_cons (lR _) (les_cons (lR _) (les_nil))), trivial, rfl, rfl, rfl, rfl, trivial, rfl⟩, ?_⟩
   cbv
   injection h with h
   subst h
   refine ⟨(sparse 41 [(4, .c (.v (.bool y1)))] []), ?_, ?_⟩
   ·exact le_sparse rfl ⟨lR _, trivial⟩ trivial rfl
   ·exact ⟨lR _, trivial, rfl⟩
  ·replace h := of_br_f b4 h
   cbv
   refine fork (fun b3 => ?_) (fun b3 => ?_)
   ·replace h := of_br_t b3 h
    cbv
    injection h with h
    subst h
    refine ⟨(sparse 41 [(4, .c (.v (.bool (A.eq a1 2))))] []), ?_, ?_⟩
    ·exact le_sparse rfl ⟨lR _, trivial⟩ trivial rfl
    ·exact ⟨lR _, trivial, rfl⟩
   ·replace h := of_br_f b3 h
    cbv
    injection h with h
    subst h
    refine ⟨(sparse 41 [(4, .c (.v (.bool (A.eq a1 7))))] []), ?_, ?_⟩
    ·exact le_sparse rfl ⟨lR _, trivial⟩ trivial rfl
    ·exact ⟨lR _, trivial, rfl⟩

/-- spec.l13Get -/
noncomputable def F_spec_l13Get_mPb (a0 : Tl13Reader) : Option (Int × Tl13Reader) :=
 br (std.le (std.ofN (std.slen a0.gs)) a0.gat)
 (some ((0 : Int), (Tl13Reader.mk a0.gs a0.gat true)))
 (req (std.inR (std.sub .i64 (std.add .i64 a0.gat 1) 1) (std.slen a0.gs)) <|
 some (std.conv .i64 (std.sat a0.gs (std.toN (std.sub .i64 (std.add .i64 a0.gat 1) 1))), (Tl13Reader.mk a0.gs (std.add .i64 a0.gat 1) a0.gbad)))
set_option maxHeartbeats 4000000 in
theorem run_spec_l13Get_mPb (a0 : Tl13Reader) (r : Int × Tl13Reader) (h : F_spec_l13Get_mPb a0 = some r) : Fun Try.prog 254 [.c (.ptr 5 0)] [(5, .var [.v (.string a0.gs), .v (.int .i64 a0.gat), .v (.bool a0.gbad)])] (.c (.v (.int .i64 r.1))) [(5, .var [.v (.string r.2.gs), .v (.int .i64 r.2.gat), .v (.bool r.2.gbad)])] true := by
 refine Fun.of_wp (oneOf []) tok mixed Try.func254 (by kernel_rfl) rfl Try.ntmps254 rfl trivial (fun _ => ⟨trivial, ⟨(by simp [AO.flat, AC.flat]), trivial⟩⟩) ?_
 unfold F_spec_l13Get_mPb at h
 generalize hLEN : @len = LEN at *
 generalize hGD : @gd = GD at *
 generalize hA : std = A at *
 generalize hP : Try.prog = P at *
 cbv
 refine fork (fun b2 => ?_) (fun b2 => ?_)
 ·replace h := of_br_t b2 h
  cbv
  injection h with h
  subst h
  refine ⟨(sparse 34 [(2, .c (.v (.int .i64 0)))] [(5, .var [.v (.string a0.gs), .v (.int .i64 a0.gat), .v (.bool true)])]), ?_, ?_⟩
  ·exact le_sparse rfl ⟨lR _, trivial⟩ ⟨rfl, trivial⟩ rfl
  ·exact ⟨lR _, ⟨rfl, trivial⟩, rfl⟩
 ·replace h := of_br_f b2 h
  cbv
  replace h := of_req h
  obtain ⟨c1, h⟩ := h
  refine ⟨c1, ?_⟩
  injection h with h
  subst h
  refine ⟨(sparse 34 [(2, .c (.v (.int .i64 (A.conv .i64 (A.sat a0.gs (A.toN (A.sub .i64 (A.add .i64 a0.gat 1) 1)))))))] [(5, .var [.v (.string a0.gs), .v (.int .i64 (A.add .i64 a0.gat 1)), .v (.bool a0.gbad)])]), ?_, ?_⟩
  ·exact le_sparse rfl ⟨lR _, trivial⟩ ⟨rfl, trivial⟩ rfl
  ·exact ⟨lR _, ⟨rfl, trivial⟩, rfl⟩
/-- spec.l13GetName -/
noncomputable def F_spec_l13GetName_mPb (a0 : Tl13Reader) : Option (ByteArray × Tl13Reader) :=
 (F_spec_l13Get_mPb a0).bind fun y1 =>
 br (std.lt (std.ofN (std.slen y1.2.gs)) (std.add .i64 y1.2.gat y1.1))
 (some ((ByteArray.mk #[]), (Tl13Reader.mk y1.2.gs y1.2.gat true)))
 (req (std.upTo (std.add .i64 y1.2.gat y1.1) (std.slen y1.2.gs)) <|
 req (std.upTo (std.sub .i64 (std.add .i64 y1.2.gat y1.1) y1.1) (std.toN (std.add .i64 y1.2.gat y1.1))) <|
 some (std.ssub y1.2.gs (std.toN (std.sub .i64 (std.add .i64 y1.2.gat y1.1) y1.1)) (std.toN (std.add .i64 y1.2.gat y1.1)), (Tl13Reader.mk y1.2.gs (std.add .i64 y1.2.gat y1.1) y1.2.gbad)))
set_option maxHeartbeats 4000000 in
theorem run_spec_l13GetName_mPb (a0 : Tl13Reader) (r : ByteArray × Tl13Reader) (h : F_spec_l13GetName_mPb a0 = some r) : Fun Try.prog 225 [.c (.ptr 5 0)] [(5, .var [.v (.string a0.gs), .v (.int .i64 a0.gat), .v (.bool a0.gbad)])] (.c (.v (.string r.1))) [(5, .var [.v (.string r.2.gs), .v (.int .i64 r.2.gat), .v (.bool r.2.gbad)])] true := by
 refine Fun.of_wp (oneOf []) tok mixed Try.func225 (by kernel_rfl) rfl Try.ntmps225 rfl trivial (fun _ => ⟨trivial, ⟨(by simp [AO.flat, AC.flat]), trivial⟩⟩) ?_
 unfold F_spec_l13GetName_mPb at h
 have hf_spec_l13Get_mPb := @run_spec_l13Get_mPb
 generalize hLEN : @len = LEN at *
 generalize hGD : @gd = GD at *
 generalize hA : std = A at *
 generalize hP : Try.prog = P at *
 cbv
 replace h := of_bind h
 obtain ⟨y1, hy2, h⟩ := h
 refine ⟨{ args := [.c (.ptr 5 0)], o0 := [(5, .var [.v (.string a0.gs), .v (.int .i64 a0.gat), .v (.bool a0.gbad)])], r := .c (.v (.int .i64 y1.1)), o1 := [(5, .var [.v (.string y1.2.gs), .v (.int .i64 y1.2.gat), .v (.bool y1.2.gbad)])], fl := true, σ := [(5, 5)], τ := [(5, 5)] }, hf_spec_l13Get_mPb _ _ hy2, ⟨les_cons (lR _) (les_nil), ⟨rfl, trivial⟩, rfl, rfl, rfl, rfl, ⟨fun _ => rfl, trivial⟩, rfl⟩, ?_⟩
 cbv
 refine fork (fun b5 => ?_) (fun b5 => ?_)
 ·replace h := of_br_t b5 h
  cbv
  injection h with h
  subst h
  refine ⟨(sparse 45 [(2, .c (.v (.string (ByteArray.mk #[]))))] [(5, .var [.v (.string y1.2.gs), .v (.int .i64 y1.2.gat), .v (.bool true)])]), ?_, ?_⟩
  ·exact le_sparse rfl ⟨lR _, trivial⟩ ⟨rfl, trivial⟩ rfl
  ·exact ⟨lR _, ⟨rfl, trivial⟩, rfl⟩
 ·replace h := of_br_f b5 h
  cbv
  replace h := of_req h
  obtain ⟨c3, h⟩ := h
  replace h := of_req h
  obtain ⟨c4, h⟩ := h
  refine ⟨⟨c3, c4⟩, ?_⟩
  injection h with h
  subst h
  refine ⟨(sparse 45 [(2, .c (.v (.string (A.ssub y1.2.gs (A.toN (A.sub .i64 (A.add .i64 y1.2.gat y1.1) y1.1)) (A.toN (A.add .i64 y1.2.gat y1.1))))))] [(5, .var [.v (.string y1.2.gs), .v (.int .i64 (A.add .i64 y1.2.gat y1.1)), .v (.bool y1.2.gbad)])]), ?_, ?_⟩
  ·exact le_sparse rfl ⟨lR _, trivial⟩ ⟨rfl, trivial⟩ rfl
  ·exact ⟨lR _, ⟨rfl, trivial⟩, rfl⟩

noncomputable def L_spec_IsName_x2 (a0 : ByteArray) : (Int) → Option ((Int) ⊕ ((Unit) ⊕ (Unit))) := fun x2 =>
 letO x2 fun v1 =>
 br (std.lt v1 (std.ofN (std.slen a0)))
 (((
    req (std.inR v1 (std.slen a0)) <|
    br (std.le 97 (std.sat a0 (std.toN v1)))
    (req (std.inR v1 (std.slen a0)) <|
    br (std.le (std.sat a0 (std.toN v1)) 122)
    (some false)
    (req (std.inR v1 (std.slen a0)) <|
    br (std.le 48 (std.sat a0 (std.toN v1)))
    (req (std.inR v1 (std.slen a0)) <|
    some (!(std.le (std.sat a0 (std.toN v1)) 57)))
    (some true)))
    (req (std.inR v1 (std.slen a0)) <|
    br (std.le 48 (std.sat a0 (std.toN v1)))
    (req (std.inR v1 (std.slen a0)) <|
    some (!(std.le (std.sat a0 (std.toN v1)) 57)))
    (some true))
  ) : Option (Bool)).bind fun y14 =>
 letO y14 fun w20 =>
 br w20
 (some (.inr (.inl ())))
 (some (.inl (std.add .i64 v1 1))))
 (some (.inr (.inr ())))
/-- spec.IsName -/
noncomputable def F_spec_IsName (a0 : ByteArray) : Option (Bool) :=
 (whileP (σ := Int) (ρ := (Unit) ⊕ (Unit)) (L_spec_IsName_x2 a0) 0).bind fun y3 =>
 (match y3 with
  | .inl y3k0 => (
    some false)
  | .inr y3m0 =>
    ((
       br (std.le 1 (std.ofN (std.slen a0)))
       (some (std.le (std.ofN (std.slen a0)) 8))
       (some false)
     ) : Option (Bool)).bind fun y33 =>
    letO y33 fun w39 =>
    some w39)
set_option maxHeartbeats 4000000 in
theorem run_spec_IsName (a0 : ByteArray) (r : Bool) (h : F_spec_IsName a0 = some r) : Fun Try.prog 150 [.c (.v (.string a0))] [] (.c (.v (.bool r))) [] true := by
 refine Fun.of_wp (oneOf [4, 6]) tok mixed Try.func150 (by kernel_rfl) rfl Try.ntmps150 rfl trivial (fun _ => ⟨trivial, trivial⟩) ?_
 unfold F_spec_IsName at h
 unfold L_spec_IsName_x2 at h
 generalize hLEN : @len = LEN at *
 generalize hGD : @gd = GD at *
 generalize hA : std = A at *
 generalize hP : Try.prog = P at *
 cbv
 replace h := of_bind h
 obtain ⟨y3, hr4, hN5⟩ := h
 refine loop_cut hr4 (fun x => (sparse 41 [(0, .c (.v (.string a0))), (3, .c (.v (.int .i64 x)))] [])) ?_ (fun y e s => (match y with | .inl w => e = .ret ∧ s.le (sparse 41 [(2, .c (.v (.bool false)))] []) | .inr w0 => (fun (w : Unit) => e = .exit 0 ∧ s.le (sparse 41 [(0, .c (.v (.string a0)))] [])) w0)) ?_ ?_
 ·clear hr4 hN5
  show St.le _ _
  exact le_sparse rfl ⟨lR _, lR _, trivial⟩ trivial rfl
 ·clear hr4 hN5
  intro x z9 h K7 hK8 hY6
  replace h := of_let h
  obtain ⟨v1, hv1, h⟩ := h
  have hv1 : v1 = x := hv1
  subst hv1
  cbv
  refine fork (fun b32 => ?_) (fun b32 => ?_)
  ·replace h := of_br_t b32 h
   cbv
   replace h := of_bind h
   obtain ⟨y14, hy15, h⟩ := h
   obtain ⟨S18, hS19⟩ : ∃ S, S = (sparse 41 [(0, .c (.v (.string a0))), (3, .c (.v (.int .i64 v1))), (32, .c (.v (.bool y14)))] []) := ⟨_, rfl⟩
   refine ⟨S18, ?_, ?_⟩
   ·clear h
    have h := hy15
    clear hy15
    cbv
    replace h := of_req h
    obtain ⟨c21, h⟩ := h
    refine ⟨c21, ?_⟩
    refine fork (fun b30 => ?_) (fun b30 => ?_)
    ·replace h := of_br_t b30 h
     cbv
     replace h := of_req h
     obtain ⟨c22, h⟩ := h
     refine ⟨c22, ?_⟩
     refine fork (fun b26 => ?_) (fun b26 => ?_)
     ·replace h := of_br_t b26 h
      cbv
      injection h with h
      subst h
      subst hS19
      show St.le _ _
      exact le_sparse rfl ⟨lR _, lR _, lR _, trivial⟩ trivial rfl
     ·replace h := of_br_f b26 h
      cbv
      replace h := of_req h
      obtain ⟨c23, h⟩ := h
      refine ⟨c23, ?_⟩
      refine fork (fun b25 => ?_) (fun b25 => ?_)
      ·replace h := of_br_t b25 h
       cbv
       replace h := of_req h
       obtain ⟨c24, h⟩ := h
       refine ⟨c24, ?_⟩
       injection h with h
       subst h
       subst hS19
       show St.le _ _
       exact le_sparse rfl ⟨lR _, lR _, lR _, trivial⟩ trivial rfl
      ·replace h := of_br_f b25 h
       cbv
       injection h with h
       subst h
       subst hS19
       show St.le _ _
       exact le_sparse rfl ⟨lR _, lR _, lR _, trivial⟩ trivial rfl
    ·replace h := of_br_f b30 h
     cbv
     replace h := of_req h
     obtain ⟨c27, h⟩ := h
     refine ⟨c27, ?_⟩
     refine fork (fun b29 => ?_) (fun b29 => ?_)
     ·replace h := of_br_t b29 h
      cbv
      replace h := of_req h
      obtain ⟨c28, h⟩ := h
      refine ⟨c28, ?_⟩
      injection h with h
      subst h
      subst hS19
      show St.le _ _
      exact le_sparse rfl ⟨lR _, lR _, lR _, trivial⟩ trivial rfl
     ·replace h := of_br_f b29 h
      cbv
      injection h with h
      subst h
      subst hS19
      show St.le _ _
      exact le_sparse rfl ⟨lR _, lR _, lR _, trivial⟩ trivial rfl
   ·clear hy15
    subst hS19
    replace h := of_let h
    obtain ⟨w20, hw20, h⟩ := h
    have hw20 : w20 = y14 := hw20
    subst hw20
    cbv
    refine fork (fun b31 => ?_) (fun b31 => ?_)
    ·replace h := of_br_t b31 h
     cbv
     injection h with h
     refine hY6 _ h.symm _ _ (And.intro rfl ?_) (by intro hh; cases hh)
     exact le_sparse rfl ⟨lR _, trivial⟩ trivial rfl
    ·replace h := of_br_f b31 h
     cbv
     injection h with h
     refine hK8 _ h.symm _ ?_
     exact le_sparse rfl ⟨lR _, lR _, trivial⟩ trivial rfl
  ·replace h := of_br_f b32 h
   cbv
   injection h with h
   refine hY6 _ h.symm _ _ (And.intro rfl ?_) (by intro hh; cases hh)
   exact le_sparse rfl ⟨lR _, trivial⟩ trivial rfl
 ·clear hr4
  have h := hN5
  clear hN5
  intro e12 s13 q11 hne
  rcases y3 with y3k0 | y3m0
  ·replace h := h
   obtain ⟨rfl, q11⟩ := q11
   cbv
   injection h with h
   subst h
   refine ⟨(sparse 41 [(2, .c (.v (.bool false)))] []), ?_, ?_⟩
   ·refine St.le_trans q11 ?_
    exact le_sparse rfl ⟨lR _, trivial⟩ trivial rfl
   ·exact ⟨lR _, trivial, rfl⟩
  ·obtain ⟨rfl, q11⟩ := q11
   cbv
   refine ⟨_, q11, ?_⟩
   cbv
   replace h := of_bind h
   obtain ⟨y33, hy34, h⟩ := h
   obtain ⟨S37, hS38⟩ : ∃ S, S = (sparse 41 [(2, .c (.v (.bool y33)))] []) := ⟨_, rfl⟩
   refine ⟨S37, ?_, ?_⟩
   ·clear h
    have h := hy34
    clear hy34
    cbv
    refine fork (fun b40 => ?_) (fun b40 => ?_)
    ·replace h := of_br_t b40 h
     cbv
     injection h with h
     subst h
     subst hS38
     show St.le _ _
     exact le_sparse rfl ⟨lR _, trivial⟩ trivial rfl
    ·replace h := of_br_f b40 h
     cbv
     injection h with h
     subst h
     subst hS38
     show St.le _ _
     exact le_sparse rfl ⟨lR _, trivial⟩ trivial rfl
   ·clear hy34
    subst hS38
    replace h := of_let h
    obtain ⟨w39, hw39, h⟩ := h
    have hw39 : w39 = y33 := hw39
    subst hw39
    cbv
    injection h with h
    subst h
    refine ⟨(sparse 41 [(2, .c (.v (.bool w39)))] []), ?_, ?_⟩
    ·exact le_sparse rfl ⟨lR _, trivial⟩ trivial rfl
    ·exact ⟨lR _, trivial, rfl⟩

noncomputable def L_spec_l14Known_mpb_x2 (a0 : Tl14State) (a1 : ByteArray) : (Int) → Option ((Int) ⊕ ((Int) ⊕ (Unit))) := fun x2 =>
 letO x2 fun v1 =>
 br (std.lt v1 (std.ofN (len a0.gdone.fCells)))
 (req (std.inR v1 (len a0.gdone.fCells)) <|
 br (std.seq (gd a0.gdone.fCells (std.toN v1)).fName a1)
 (some (.inr (.inl v1)))
 (some (.inl (std.add .i64 v1 1))))
 (some (.inr (.inr ())))
/-- spec.l14Known -/
noncomputable def F_spec_l14Known_mpb (a0 : Tl14State) (a1 : ByteArray) : Option (Int) :=
 (whileP (σ := Int) (ρ := (Int) ⊕ (Unit)) (L_spec_l14Known_mpb_x2 a0 a1) 0).bind fun y3 =>
 (match y3 with
  | .inl y3k0 => (
    letO y3k0 fun w17 =>
    some w17)
  | .inr y3m0 =>
    some (-1))
set_option maxHeartbeats 4000000 in
theorem run_spec_l14Known_mpb (a0 : Tl14State) (a1 : ByteArray) (r : Int) (h : F_spec_l14Known_mpb a0 a1 = some r) : Fun Try.prog 226 [.c (.bp 9 (encl14State len gd a0)), .c (.v (.string a1))] [] (.c (.v (.int .i64 r))) [] true := by
 refine Fun.of_wp (oneOf []) tok mixed Try.func226 (by kernel_rfl) rfl Try.ntmps226 rfl trivial (fun _ => ⟨trivial, trivial⟩) ?_
 unfold F_spec_l14Known_mpb at h
 unfold L_spec_l14Known_mpb_x2 at h
 generalize hLEN : @len = LEN at *
 generalize hGD : @gd = GD at *
 generalize hA : std = A at *
 generalize hP : Try.prog = P at *
 cbv
 replace h := of_bind h
 obtain ⟨y3, hr4, hN5⟩ := h
 refine loop_cut hr4 (fun x => (sparse 28 [(0, .c (.bp 9 (encl14State LEN GD a0))), (1, .c (.v (.string a1))), (5, .c (.v (.int .i64 x)))] [])) ?_ (fun y e s => (match y with | .inl w => e = .ret ∧ s.le (sparse 28 [(4, .c (.v (.int .i64 w)))] []) | .inr w0 => (fun (w : Unit) => e = .exit 0 ∧ s.le (sparse 28 [] [])) w0)) ?_ ?_
 ·clear hr4 hN5
  show St.le _ _
  exact le_sparse rfl ⟨lR _, lR _, lR _, trivial⟩ trivial rfl
 ·clear hr4 hN5
  intro x z9 h K7 hK8 hY6
  replace h := of_let h
  obtain ⟨v1, hv1, h⟩ := h
  have hv1 : v1 = x := hv1
  subst hv1
  cbv
  refine fork (fun b16 => ?_) (fun b16 => ?_)
  ·replace h := of_br_t b16 h
   cbv
   replace h := of_req h
   obtain ⟨c14, h⟩ := h
   refine ⟨⟨c14, trivial⟩, ?_⟩
   refine fork (fun b15 => ?_) (fun b15 => ?_)
   ·replace h := of_br_t b15 h
    cbv
    injection h with h
    refine hY6 _ h.symm _ _ (And.intro rfl ?_) (by intro hh; cases hh)
    exact le_sparse rfl ⟨lR _, trivial⟩ trivial rfl
   ·replace h := of_br_f b15 h
    cbv
    injection h with h
    refine hK8 _ h.symm _ ?_
    exact le_sparse rfl ⟨lR _, lR _, lR _, trivial⟩ trivial rfl
  ·replace h := of_br_f b16 h
   cbv
   injection h with h
   refine hY6 _ h.symm _ _ (And.intro rfl ?_) (by intro hh; cases hh)
   exact le_sparse rfl trivial trivial rfl
 ·clear hr4
  have h := hN5
  clear hN5
  intro e12 s13 q11 hne
  rcases y3 with y3k0 | y3m0
  ·replace h := h
   obtain ⟨rfl, q11⟩ := q11
   replace h := of_let h
   obtain ⟨w17, hw17, h⟩ := h
   have hw17 : w17 = y3k0 := hw17
   subst hw17
   cbv
   injection h with h
   subst h
   refine ⟨(sparse 28 [(4, .c (.v (.int .i64 w17)))] []), ?_, ?_⟩
   ·refine St.le_trans q11 ?_
    exact le_sparse rfl ⟨lR _, trivial⟩ trivial rfl
   ·exact ⟨lR _, trivial, rfl⟩
  ·obtain ⟨rfl, q11⟩ := q11
   cbv
   refine ⟨_, q11, ?_⟩
   cbv
   injection h with h
   subst h
   refine ⟨(sparse 28 [(4, .c (.v (.int .i64 (-1))))] []), ?_, ?_⟩
   ·exact le_sparse rfl ⟨lR _, trivial⟩ trivial rfl
   ·exact ⟨lR _, trivial, rfl⟩

/-- spec.l13GetTwo -/
noncomputable def F_spec_l13GetTwo_mPb (a0 : Tl13Reader) : Option (Int × Tl13Reader) :=
 (F_spec_l13Get_mPb a0).bind fun y1 =>
 (F_spec_l13Get_mPb y1.2).bind fun y3 =>
 some (std.add .i64 (std.mul .i64 256 y1.1) y3.1, y3.2)
set_option maxHeartbeats 4000000 in
theorem run_spec_l13GetTwo_mPb (a0 : Tl13Reader) (r : Int × Tl13Reader) (h : F_spec_l13GetTwo_mPb a0 = some r) : Fun Try.prog 265 [.c (.ptr 5 0)] [(5, .var [.v (.string a0.gs), .v (.int .i64 a0.gat), .v (.bool a0.gbad)])] (.c (.v (.int .i64 r.1))) [(5, .var [.v (.string r.2.gs), .v (.int .i64 r.2.gat), .v (.bool r.2.gbad)])] true := by
 refine Fun.of_wp (oneOf []) tok mixed Try.func265 (by kernel_rfl) rfl Try.ntmps265 rfl trivial (fun _ => ⟨trivial, ⟨(by simp [AO.flat, AC.flat]), trivial⟩⟩) ?_
 unfold F_spec_l13GetTwo_mPb at h
 have hf_spec_l13Get_mPb := @run_spec_l13Get_mPb
 generalize hLEN : @len = LEN at *
 generalize hGD : @gd = GD at *
 generalize hA : std = A at *
 generalize hP : Try.prog = P at *
 cbv
 replace h := of_bind h
 obtain ⟨y1, hy2, h⟩ := h
 refine ⟨{ args := [.c (.ptr 5 0)], o0 := [(5, .var [.v (.string a0.gs), .v (.int .i64 a0.gat), .v (.bool a0.gbad)])], r := .c (.v (.int .i64 y1.1)), o1 := [(5, .var [.v (.string y1.2.gs), .v (.int .i64 y1.2.gat), .v (.bool y1.2.gbad)])], fl := true, σ := [(5, 5)], τ := [(5, 5)] }, hf_spec_l13Get_mPb _ _ hy2, ⟨les_cons (lR _) (les_nil), ⟨rfl, trivial⟩, rfl, rfl, rfl, rfl, ⟨fun _ => rfl, trivial⟩, rfl⟩, ?_⟩
 cbv
 replace h := of_bind h
 obtain ⟨y3, hy4, h⟩ := h
 refine ⟨{ args := [.c (.ptr 5 0)], o0 := [(5, .var [.v (.string y1.2.gs), .v (.int .i64 y1.2.gat), .v (.bool y1.2.gbad)])], r := .c (.v (.int .i64 y3.1)), o1 := [(5, .var [.v (.string y3.2.gs), .v (.int .i64 y3.2.gat), .v (.bool y3.2.gbad)])], fl := true, σ := [(5, 5)], τ := [(5, 5)] }, hf_spec_l13Get_mPb _ _ hy4, ⟨les_cons (lR _) (les_nil), ⟨rfl, trivial⟩, rfl, rfl, rfl, rfl, ⟨fun _ => rfl, trivial⟩, rfl⟩, ?_⟩
 cbv
 injection h with h
 subst h
 refine ⟨(sparse 11 [(2, .c (.v (.int .i64 (A.add .i64 (A.mul .i64 256 y1.1) y3.1))))] [(5, .var [.v (.string y3.2.gs), .v (.int .i64 y3.2.gat), .v (.bool y3.2.gbad)])]), ?_, ?_⟩
 ·exact le_sparse rfl ⟨lR _, trivial⟩ ⟨rfl, trivial⟩ rfl
 ·exact ⟨lR _, ⟨rfl, trivial⟩, rfl⟩

/-- spec.l13GetCoordinate -/
noncomputable def F_spec_l13GetCoordinate_mPb (a0 : Tl13Reader) : Option (Int × Tl13Reader) :=
 (F_spec_l13GetTwo_mPb a0).bind fun y1 =>
 some (std.sub .i64 y1.1 32768, y1.2)
set_option maxHeartbeats 4000000 in
theorem run_spec_l13GetCoordinate_mPb (a0 : Tl13Reader) (r : Int × Tl13Reader) (h : F_spec_l13GetCoordinate_mPb a0 = some r) : Fun Try.prog 255 [.c (.ptr 5 0)] [(5, .var [.v (.string a0.gs), .v (.int .i64 a0.gat), .v (.bool a0.gbad)])] (.c (.v (.int .i64 r.1))) [(5, .var [.v (.string r.2.gs), .v (.int .i64 r.2.gat), .v (.bool r.2.gbad)])] true := by
 refine Fun.of_wp (oneOf []) tok mixed Try.func255 (by kernel_rfl) rfl Try.ntmps255 rfl trivial (fun _ => ⟨trivial, ⟨(by simp [AO.flat, AC.flat]), trivial⟩⟩) ?_
 unfold F_spec_l13GetCoordinate_mPb at h
 have hf_spec_l13GetTwo_mPb := @run_spec_l13GetTwo_mPb
 generalize hLEN : @len = LEN at *
 generalize hGD : @gd = GD at *
 generalize hA : std = A at *
 generalize hP : Try.prog = P at *
 cbv
 replace h := of_bind h
 obtain ⟨y1, hy2, h⟩ := h
 refine ⟨{ args := [.c (.ptr 5 0)], o0 := [(5, .var [.v (.string a0.gs), .v (.int .i64 a0.gat), .v (.bool a0.gbad)])], r := .c (.v (.int .i64 y1.1)), o1 := [(5, .var [.v (.string y1.2.gs), .v (.int .i64 y1.2.gat), .v (.bool y1.2.gbad)])], fl := true, σ := [(5, 5)], τ := [(5, 5)] }, hf_spec_l13GetTwo_mPb _ _ hy2, ⟨les_cons (lR _) (les_nil), ⟨rfl, trivial⟩, rfl, rfl, rfl, rfl, ⟨fun _ => rfl, trivial⟩, rfl⟩, ?_⟩
 cbv
 injection h with h
 subst h
 refine ⟨(sparse 6 [(2, .c (.v (.int .i64 (A.sub .i64 y1.1 32768))))] [(5, .var [.v (.string y1.2.gs), .v (.int .i64 y1.2.gat), .v (.bool y1.2.gbad)])]), ?_, ?_⟩
 ·exact le_sparse rfl ⟨lR _, trivial⟩ ⟨rfl, trivial⟩ rfl
 ·exact ⟨lR _, ⟨rfl, trivial⟩, rfl⟩

/-- spec.l13GetShape -/
noncomputable def F_spec_l13GetShape_mPb (a0 : Tl13Reader) : Option (TShape × Tl13Reader) :=
 (F_spec_l13Get_mPb a0).bind fun y1 =>
 (F_spec_l13GetCoordinate_mPb y1.2).bind fun y3 =>
 (F_spec_l13GetCoordinate_mPb y3.2).bind fun y5 =>
 (F_spec_l13GetCoordinate_mPb y5.2).bind fun y7 =>
 (F_spec_l13GetCoordinate_mPb y7.2).bind fun y9 =>
 some ((TShape.mk y1.1 (TRect.mk y3.1 y5.1 y7.1 y9.1)), y9.2)
set_option maxHeartbeats 4000000 in
theorem run_spec_l13GetShape_mPb (a0 : Tl13Reader) (r : TShape × Tl13Reader) (h : F_spec_l13GetShape_mPb a0 = some r) : Fun Try.prog 227 [.c (.ptr 5 0)] [(5, .var [.v (.string a0.gs), .v (.int .i64 a0.gat), .v (.bool a0.gbad)])] (.agg [.v (.int .i64 r.1.fLayer), .v (.int .i64 r.1.fBox.fX0), .v (.int .i64 r.1.fBox.fY0), .v (.int .i64 r.1.fBox.fX1), .v (.int .i64 r.1.fBox.fY1)]) [(5, .var [.v (.string r.2.gs), .v (.int .i64 r.2.gat), .v (.bool r.2.gbad)])] true := by
 refine Fun.of_wp (oneOf []) tok mixed Try.func227 (by kernel_rfl) rfl Try.ntmps227 rfl trivial (fun _ => ⟨(by simp [AV.flat, AV.flat1, AC.flat]), ⟨(by simp [AO.flat, AC.flat]), trivial⟩⟩) ?_
 unfold F_spec_l13GetShape_mPb at h
 have hf_spec_l13GetCoordinate_mPb := @run_spec_l13GetCoordinate_mPb
 have hf_spec_l13Get_mPb := @run_spec_l13Get_mPb
 generalize hLEN : @len = LEN at *
 generalize hGD : @gd = GD at *
 generalize hA : std = A at *
 generalize hP : Try.prog = P at *
 cbv
 replace h := of_bind h
 obtain ⟨y1, hy2, h⟩ := h
 refine ⟨{ args := [.c (.ptr 5 0)], o0 := [(5, .var [.v (.string a0.gs), .v (.int .i64 a0.gat), .v (.bool a0.gbad)])], r := .c (.v (.int .i64 y1.1)), o1 := [(5, .var [.v (.string y1.2.gs), .v (.int .i64 y1.2.gat), .v (.bool y1.2.gbad)])], fl := true, σ := [(5, 5)], τ := [(5, 5)] }, hf_spec_l13Get_mPb _ _ hy2, ⟨les_cons (lR _) (les_nil), ⟨rfl, trivial⟩, rfl, rfl, rfl, rfl, ⟨fun _ => rfl, trivial⟩, rfl⟩, ?_⟩
 cbv
 replace h := of_bind h
 obtain ⟨y3, hy4, h⟩ := h
 refine ⟨{ args := [.c (.ptr 5 0)], o0 := [(5, .var [.v (.string y1.2.gs), .v (.int .i64 y1.2.gat), .v (.bool y1.2.gbad)])], r := .c (.v (.int .i64 y3.1)), o1 := [(5, .var [.v (.string y3.2.gs), .v (.int .i64 y3.2.gat), .v (.bool y3.2.gbad)])], fl := true, σ := [(5, 5)], τ := [(5, 5)] }, hf_spec_l13GetCoordinate_mPb _ _ hy4, ⟨les_cons (lR _) (les_nil), ⟨rfl, trivial⟩, rfl, rfl, rfl, rfl, ⟨fun _ => rfl, trivial⟩, rfl⟩, ?_⟩
 cbv
 replace h := of_bind h
 obtain ⟨y5, hy6, h⟩ := h
 refine ⟨{ args := [.c (.ptr 5 0)], o0 := [(5, .var [.v (.string y3.2.gs), .v (.int .i64 y3.2.gat), .v (.bool y3.2.gbad)])], r := .c (.v (.int .i64 y5.1)), o1 := [(5, .var [.v (.string y5.2.gs), .v (.int .i64 y5.2.gat), .v (.bool y5.2.gbad)])], fl := true, σ := [(5, 5)], τ := [(5, 5)] }, hf_spec_l13GetCoordinate_mPb _ _ hy6, ⟨les_cons (lR _) (les_nil), ⟨rfl, trivial⟩, rfl, rfl, rfl, rfl, ⟨fun _ => rfl, trivial⟩, rfl⟩, ?_⟩
 cbv
 replace h := of_bind h
 obtain ⟨y7, hy8, h⟩ := h
 refine ⟨{ args := [.c (.ptr 5 0)], o0 := [(5, .var [.v (.string y5.2.gs), .v (.int .i64 y5.2.gat), .v (.bool y5.2.gbad)])], r := .c (.v (.int .i64 y7.1)), o1 := [(5, .var [.v (.string y7.2.gs), .v (.int .i64 y7.2.gat), .v (.bool y7.2.gbad)])], fl := true, σ := [(5, 5)], τ := [(5, 5)] }, hf_spec_l13GetCoordinate_mPb _ _ hy8, ⟨les_cons (lR _) (les_nil), ⟨rfl, trivial⟩, rfl, rfl, rfl, rfl, ⟨fun _ => rfl, trivial⟩, rfl⟩, ?_⟩
 cbv
 replace h := of_bind h
 obtain ⟨y9, hy10, h⟩ := h
 refine ⟨{ args := [.c (.ptr 5 0)], o0 := [(5, .var [.v (.string y7.2.gs), .v (.int .i64 y7.2.gat), .v (.bool y7.2.gbad)])], r := .c (.v (.int .i64 y9.1)), o1 := [(5, .var [.v (.string y9.2.gs), .v (.int .i64 y9.2.gat), .v (.bool y9.2.gbad)])], fl := true, σ := [(5, 5)], τ := [(5, 5)] }, hf_spec_l13GetCoordinate_mPb _ _ hy10, ⟨les_cons (lR _) (les_nil), ⟨rfl, trivial⟩, rfl, rfl, rfl, rfl, ⟨fun _ => rfl, trivial⟩, rfl⟩, ?_⟩
 cbv
 injection h with h
 subst h
 refine ⟨(sparse 24 [(2, .c (.ptr 128 0))] [(128, .var [.v (.int .i64 y1.1), .v (.int .i64 y3.1), .v (.int .i64 y5.1), .v (.int .i64 y7.1), .v (.int .i64 y9.1)]), (5, .var [.v (.string y9.2.gs), .v (.int .i64 y9.2.gat), .v (.bool y9.2.gbad)])]), ?_, ?_⟩
 ·exact le_sparse rfl ⟨lR _, trivial⟩ ⟨rfl, rfl, trivial⟩ rfl
 ·exact ⟨lR _, ⟨rfl, trivial⟩, rfl⟩
/-- spec.l09Layer -/
noncomputable def F_spec_l09Layer (a0 : Int) : Option (Bool) :=
 (F_spec_l09In a0 0 7).bind fun y1 =>
 some y1
set_option maxHeartbeats 4000000 in
theorem run_spec_l09Layer (a0 : Int) (r : Bool) (h : F_spec_l09Layer a0 = some r) : Fun Try.prog 211 [.c (.v (.int .i64 a0))] [] (.c (.v (.bool r))) [] true := by
 refine Fun.of_wp (oneOf []) tok mixed Try.func211 (by kernel_rfl) rfl Try.ntmps211 rfl trivial (fun _ => ⟨trivial, trivial⟩) ?_
 unfold F_spec_l09Layer at h
 have hf_spec_l09In := @run_spec_l09In
 generalize hLEN : @len = LEN at *
 generalize hGD : @gd = GD at *
 generalize hA : std = A at *
 generalize hP : Try.prog = P at *
 cbv
 replace h := of_bind h
 obtain ⟨y1, hy2, h⟩ := h
 refine ⟨{ args := [.c (.v (.int .i64 a0)), .c (.v (.int .i64 0)), .c (.v (.int .i64 7))], o0 := [], r := .c (.v (.bool y1)), o1 := [], fl := true, σ := [], τ := [] }, hf_spec_l09In _ _ _ _ hy2, ⟨les_cons (lR _) (les_cons (lR _) (les_cons (lR _) (les_nil))), trivial, rfl, rfl, rfl, rfl, trivial, rfl⟩, ?_⟩
 cbv
 injection h with h
 subst h
 refine ⟨(sparse 5 [(2, .c (.v (.bool y1)))] []), ?_, ?_⟩
 ·exact le_sparse rfl ⟨lR _, trivial⟩ trivial rfl
 ·exact ⟨lR _, trivial, rfl⟩

/-- spec.l09Rect -/
noncomputable def F_spec_l09Rect (a0 : TRect) : Option (Bool) :=
 ((
    br (std.le (-40) a0.fX0)
    (br (std.lt a0.fX0 a0.fX1)
    (br (std.le a0.fX1 40)
    (br (std.le (-40) a0.fY0)
    (br (std.lt a0.fY0 a0.fY1)
    (some (std.le a0.fY1 40))
    (some false))
    (some false))
    (some false))
    (some false))
    (some false)
  ) : Option (Bool)).bind fun y1 =>
 letO y1 fun w7 =>
 some w7
set_option maxHeartbeats 4000000 in
theorem run_spec_l09Rect (a0 : TRect) (r : Bool) (h : F_spec_l09Rect a0 = some r) : Fun Try.prog 88 [.agg [.v (.int .i64 a0.fX0), .v (.int .i64 a0.fY0), .v (.int .i64 a0.fX1), .v (.int .i64 a0.fY1)]] [] (.c (.v (.bool r))) [] true := by
 refine Fun.of_wp (oneOf [1]) tok mixed Try.func88 (by kernel_rfl) rfl Try.ntmps88 rfl trivial (fun _ => ⟨trivial, trivial⟩) ?_
 unfold F_spec_l09Rect at h
 generalize hLEN : @len = LEN at *
 generalize hGD : @gd = GD at *
 generalize hA : std = A at *
 generalize hP : Try.prog = P at *
 cbv
 replace h := of_bind h
 obtain ⟨y1, hy2, h⟩ := h
 obtain ⟨S5, hS6⟩ : ∃ S, S = (sparse 35 [(2, .c (.v (.bool y1)))] []) := ⟨_, rfl⟩
 refine ⟨S5, ?_, ?_⟩
 ·clear h
  have h := hy2
  clear hy2
  cbv
  refine fork (fun b12 => ?_) (fun b12 => ?_)
  ·replace h := of_br_t b12 h
   cbv
   refine fork (fun b11 => ?_) (fun b11 => ?_)
   ·replace h := of_br_t b11 h
    cbv
    refine fork (fun b10 => ?_) (fun b10 => ?_)
    ·replace h := of_br_t b10 h
     cbv
     refine fork (fun b9 => ?_) (fun b9 => ?_)
     ·replace h := of_br_t b9 h
      cbv
      refine fork (fun b8 => ?_) (fun b8 => ?_)
      ·replace h := of_br_t b8 h
       cbv
       injection h with h
       subst h
       subst hS6
       show St.le _ _
       exact le_sparse rfl ⟨lR _, trivial⟩ trivial rfl
      ·replace h := of_br_f b8 h
       cbv
       injection h with h
       subst h
       subst hS6
       show St.le _ _
       exact le_sparse rfl ⟨lR _, trivial⟩ trivial rfl
     ·replace h := of_br_f b9 h
      cbv
      injection h with h
      subst h
      subst hS6
      show St.le _ _
      exact le_sparse rfl ⟨lR _, trivial⟩ trivial rfl
    ·replace h := of_br_f b10 h
     cbv
     injection h with h
     subst h
     subst hS6
     show St.le _ _
     exact le_sparse rfl ⟨lR _, trivial⟩ trivial rfl
   ·replace h := of_br_f b11 h
    cbv
    injection h with h
    subst h
    subst hS6
    show St.le _ _
    exact le_sparse rfl ⟨lR _, trivial⟩ trivial rfl
  ·replace h := of_br_f b12 h
   cbv
   injection h with h
   subst h
   subst hS6
   show St.le _ _
   exact le_sparse rfl ⟨lR _, trivial⟩ trivial rfl
 ·clear hy2
  subst hS6
  replace h := of_let h
  obtain ⟨w7, hw7, h⟩ := h
  have hw7 : w7 = y1 := hw7
  subst hw7
  cbv
  injection h with h
  subst h
  refine ⟨(sparse 35 [(2, .c (.v (.bool w7)))] []), ?_, ?_⟩
  ·exact le_sparse rfl ⟨lR _, trivial⟩ trivial rfl
  ·exact ⟨lR _, trivial, rfl⟩

/-- spec.l09Shape -/
noncomputable def F_spec_l09Shape (a0 : TShape) : Option (Bool) :=
 ((
    (F_spec_l09Layer a0.fLayer).bind fun y8 =>
    br y8
    ((F_spec_l09Rect a0.fBox).bind fun y10 =>
    some y10)
    (some false)
  ) : Option (Bool)).bind fun y1 =>
 letO y1 fun w7 =>
 some w7
set_option maxHeartbeats 4000000 in
theorem run_spec_l09Shape (a0 : TShape) (r : Bool) (h : F_spec_l09Shape a0 = some r) : Fun Try.prog 151 [.agg [.v (.int .i64 a0.fLayer), .v (.int .i64 a0.fBox.fX0), .v (.int .i64 a0.fBox.fY0), .v (.int .i64 a0.fBox.fX1), .v (.int .i64 a0.fBox.fY1)]] [] (.c (.v (.bool r))) [] true := by
 refine Fun.of_wp (oneOf [1]) tok mixed Try.func151 (by kernel_rfl) rfl Try.ntmps151 rfl trivial (fun _ => ⟨trivial, trivial⟩) ?_
 unfold F_spec_l09Shape at h
 have hf_spec_l09Layer := @run_spec_l09Layer
 have hf_spec_l09Rect := @run_spec_l09Rect
 generalize hLEN : @len = LEN at *
 generalize hGD : @gd = GD at *
 generalize hA : std = A at *
 generalize hP : Try.prog = P at *
 cbv
 replace h := of_bind h
 obtain ⟨y1, hy2, h⟩ := h
 obtain ⟨S5, hS6⟩ : ∃ S, S = (sparse 11 [(2, .c (.v (.bool y1)))] []) := ⟨_, rfl⟩
 refine ⟨S5, ?_, ?_⟩
 ·clear h
  have h := hy2
  clear hy2
  cbv
  replace h := of_bind h
  obtain ⟨y8, hy9, h⟩ := h
  refine ⟨{ args := [.c (.v (.int .i64 a0.fLayer))], o0 := [], r := .c (.v (.bool y8)), o1 := [], fl := true, σ := [], τ := [] }, hf_spec_l09Layer _ _ hy9, ⟨les_cons (lR _) (les_nil), trivial, rfl, rfl, rfl, rfl, trivial, rfl⟩, ?_⟩
  cbv
  refine fork (fun b12 => ?_) (fun b12 => ?_)
  ·replace h := of_br_t b12 h
   cbv
   replace h := of_bind h
   obtain ⟨y10, hy11, h⟩ := h
   refine ⟨{ args := [.agg [.v (.int .i64 a0.fBox.fX0), .v (.int .i64 a0.fBox.fY0), .v (.int .i64 a0.fBox.fX1), .v (.int .i64 a0.fBox.fY1)]], o0 := [], r := .c (.v (.bool y10)), o1 := [], fl := true, σ := [], τ := [] }, hf_spec_l09Rect _ _ hy11, ⟨les_cons (lR _) (les_nil), trivial, rfl, rfl, rfl, rfl, trivial, rfl⟩, ?_⟩
   cbv
   injection h with h
   subst h
   subst hS6
   show St.le _ _
   exact le_sparse rfl ⟨lR _, trivial⟩ trivial rfl
  ·replace h := of_br_f b12 h
   cbv
   injection h with h
   subst h
   subst hS6
   show St.le _ _
   exact le_sparse rfl ⟨lR _, trivial⟩ trivial rfl
 ·clear hy2
  subst hS6
  replace h := of_let h
  obtain ⟨w7, hw7, h⟩ := h
  have hw7 : w7 = y1 := hw7
  subst hw7
  cbv
  injection h with h
  subst h
  refine ⟨(sparse 11 [(2, .c (.v (.bool w7)))] []), ?_, ?_⟩
  ·exact le_sparse rfl ⟨lR _, trivial⟩ trivial rfl
  ·exact ⟨lR _, trivial, rfl⟩

/-- spec.l13GetLabel -/
noncomputable def F_spec_l13GetLabel_mPb (a0 : Tl13Reader) : Option (TLabel × Tl13Reader) :=
 (F_spec_l13Get_mPb a0).bind fun y1 =>
 (F_spec_l13GetCoordinate_mPb y1.2).bind fun y3 =>
 (F_spec_l13GetCoordinate_mPb y3.2).bind fun y5 =>
 (F_spec_l13GetName_mPb y5.2).bind fun y7 =>
 some ((TLabel.mk y1.1 (TPoint.mk y3.1 y5.1) y7.1), y7.2)
set_option maxHeartbeats 4000000 in
theorem run_spec_l13GetLabel_mPb (a0 : Tl13Reader) (r : TLabel × Tl13Reader) (h : F_spec_l13GetLabel_mPb a0 = some r) : Fun Try.prog 228 [.c (.ptr 5 0)] [(5, .var [.v (.string a0.gs), .v (.int .i64 a0.gat), .v (.bool a0.gbad)])] (.agg [.v (.int .i64 r.1.fLayer), .v (.int .i64 r.1.fAt.fX), .v (.int .i64 r.1.fAt.fY), .v (.string r.1.fName)]) [(5, .var [.v (.string r.2.gs), .v (.int .i64 r.2.gat), .v (.bool r.2.gbad)])] true := by
 refine Fun.of_wp (oneOf []) tok mixed Try.func228 (by kernel_rfl) rfl Try.ntmps228 rfl trivial (fun _ => ⟨(by simp [AV.flat, AV.flat1, AC.flat]), ⟨(by simp [AO.flat, AC.flat]), trivial⟩⟩) ?_
 unfold F_spec_l13GetLabel_mPb at h
 have hf_spec_l13GetCoordinate_mPb := @run_spec_l13GetCoordinate_mPb
 have hf_spec_l13GetName_mPb := @run_spec_l13GetName_mPb
 have hf_spec_l13Get_mPb := @run_spec_l13Get_mPb
 generalize hLEN : @len = LEN at *
 generalize hGD : @gd = GD at *
 generalize hA : std = A at *
 generalize hP : Try.prog = P at *
 cbv
 replace h := of_bind h
 obtain ⟨y1, hy2, h⟩ := h
 refine ⟨{ args := [.c (.ptr 5 0)], o0 := [(5, .var [.v (.string a0.gs), .v (.int .i64 a0.gat), .v (.bool a0.gbad)])], r := .c (.v (.int .i64 y1.1)), o1 := [(5, .var [.v (.string y1.2.gs), .v (.int .i64 y1.2.gat), .v (.bool y1.2.gbad)])], fl := true, σ := [(5, 5)], τ := [(5, 5)] }, hf_spec_l13Get_mPb _ _ hy2, ⟨les_cons (lR _) (les_nil), ⟨rfl, trivial⟩, rfl, rfl, rfl, rfl, ⟨fun _ => rfl, trivial⟩, rfl⟩, ?_⟩
 cbv
 replace h := of_bind h
 obtain ⟨y3, hy4, h⟩ := h
 refine ⟨{ args := [.c (.ptr 5 0)], o0 := [(5, .var [.v (.string y1.2.gs), .v (.int .i64 y1.2.gat), .v (.bool y1.2.gbad)])], r := .c (.v (.int .i64 y3.1)), o1 := [(5, .var [.v (.string y3.2.gs), .v (.int .i64 y3.2.gat), .v (.bool y3.2.gbad)])], fl := true, σ := [(5, 5)], τ := [(5, 5)] }, hf_spec_l13GetCoordinate_mPb _ _ hy4, ⟨les_cons (lR _) (les_nil), ⟨rfl, trivial⟩, rfl, rfl, rfl, rfl, ⟨fun _ => rfl, trivial⟩, rfl⟩, ?_⟩
 cbv
 replace h := of_bind h
 obtain ⟨y5, hy6, h⟩ := h
 refine ⟨{ args := [.c (.ptr 5 0)], o0 := [(5, .var [.v (.string y3.2.gs), .v (.int .i64 y3.2.gat), .v (.bool y3.2.gbad)])], r := .c (.v (.int .i64 y5.1)), o1 := [(5, .var [.v (.string y5.2.gs), .v (.int .i64 y5.2.gat), .v (.bool y5.2.gbad)])], fl := true, σ := [(5, 5)], τ := [(5, 5)] }, hf_spec_l13GetCoordinate_mPb _ _ hy6, ⟨les_cons (lR _) (les_nil), ⟨rfl, trivial⟩, rfl, rfl, rfl, rfl, ⟨fun _ => rfl, trivial⟩, rfl⟩, ?_⟩
 cbv
 replace h := of_bind h
 obtain ⟨y7, hy8, h⟩ := h
 refine ⟨{ args := [.c (.ptr 5 0)], o0 := [(5, .var [.v (.string y5.2.gs), .v (.int .i64 y5.2.gat), .v (.bool y5.2.gbad)])], r := .c (.v (.string y7.1)), o1 := [(5, .var [.v (.string y7.2.gs), .v (.int .i64 y7.2.gat), .v (.bool y7.2.gbad)])], fl := true, σ := [(5, 5)], τ := [(5, 5)] }, hf_spec_l13GetName_mPb _ _ hy8, ⟨les_cons (lR _) (les_nil), ⟨rfl, trivial⟩, rfl, rfl, rfl, rfl, ⟨fun _ => rfl, trivial⟩, rfl⟩, ?_⟩
 cbv
 injection h with h
 subst h
 refine ⟨(sparse 19 [(2, .c (.ptr 128 0))] [(128, .var [.v (.int .i64 y1.1), .v (.int .i64 y3.1), .v (.int .i64 y5.1), .v (.string y7.1)]), (5, .var [.v (.string y7.2.gs), .v (.int .i64 y7.2.gat), .v (.bool y7.2.gbad)])]), ?_, ?_⟩
 ·exact le_sparse rfl ⟨lR _, trivial⟩ ⟨rfl, rfl, trivial⟩ rfl
 ·exact ⟨lR _, ⟨rfl, trivial⟩, rfl⟩

/-- spec.l09Unit -/
noncomputable def F_spec_l09Unit (a0 : TPoint) : Option (Bool) :=
 ((
    (F_spec_l09In a0.fX (-40) 39).bind fun y8 =>
    br y8
    ((F_spec_l09In a0.fY (-40) 39).bind fun y10 =>
    some y10)
    (some false)
  ) : Option (Bool)).bind fun y1 =>
 letO y1 fun w7 =>
 some w7
set_option maxHeartbeats 4000000 in
theorem run_spec_l09Unit (a0 : TPoint) (r : Bool) (h : F_spec_l09Unit a0 = some r) : Fun Try.prog 212 [.agg [.v (.int .i64 a0.fX), .v (.int .i64 a0.fY)]] [] (.c (.v (.bool r))) [] true := by
 refine Fun.of_wp (oneOf [1]) tok mixed Try.func212 (by kernel_rfl) rfl Try.ntmps212 rfl trivial (fun _ => ⟨trivial, trivial⟩) ?_
 unfold F_spec_l09Unit at h
 have hf_spec_l09In := @run_spec_l09In
 generalize hLEN : @len = LEN at *
 generalize hGD : @gd = GD at *
 generalize hA : std = A at *
 generalize hP : Try.prog = P at *
 cbv
 replace h := of_bind h
 obtain ⟨y1, hy2, h⟩ := h
 obtain ⟨S5, hS6⟩ : ∃ S, S = (sparse 11 [(2, .c (.v (.bool y1)))] []) := ⟨_, rfl⟩
 refine ⟨S5, ?_, ?_⟩
 ·clear h
  have h := hy2
  clear hy2
  cbv
  replace h := of_bind h
  obtain ⟨y8, hy9, h⟩ := h
  refine ⟨{ args := [.c (.v (.int .i64 a0.fX)), .c (.v (.int .i64 (-40))), .c (.v (.int .i64 39))], o0 := [], r := .c (.v (.bool y8)), o1 := [], fl := true, σ := [], τ := [] }, hf_spec_l09In _ _ _ _ hy9, ⟨les_cons (lR _) (les_cons (lR _) (les_cons (lR _) (les_nil))), trivial, rfl, rfl, rfl, rfl, trivial, rfl⟩, ?_⟩
  cbv
  refine fork (fun b12 => ?_) (fun b12 => ?_)
  ·replace h := of_br_t b12 h
   cbv
   replace h := of_bind h
   obtain ⟨y10, hy11, h⟩ := h
   refine ⟨{ args := [.c (.v (.int .i64 a0.fY)), .c (.v (.int .i64 (-40))), .c (.v (.int .i64 39))], o0 := [], r := .c (.v (.bool y10)), o1 := [], fl := true, σ := [], τ := [] }, hf_spec_l09In _ _ _ _ hy11, ⟨les_cons (lR _) (les_cons (lR _) (les_cons (lR _) (les_nil))), trivial, rfl, rfl, rfl, rfl, trivial, rfl⟩, ?_⟩
   cbv
   injection h with h
   subst h
   subst hS6
   show St.le _ _
   exact le_sparse rfl ⟨lR _, trivial⟩ trivial rfl
  ·replace h := of_br_f b12 h
   cbv
   injection h with h
   subst h
   subst hS6
   show St.le _ _
   exact le_sparse rfl ⟨lR _, trivial⟩ trivial rfl
 ·clear hy2
  subst hS6
  replace h := of_let h
  obtain ⟨w7, hw7, h⟩ := h
  have hw7 : w7 = y1 := hw7
  subst hw7
  cbv
  injection h with h
  subst h
  refine ⟨(sparse 11 [(2, .c (.v (.bool w7)))] []), ?_, ?_⟩
  ·exact le_sparse rfl ⟨lR _, trivial⟩ trivial rfl
  ·exact ⟨lR _, trivial, rfl⟩

/-- spec.l09Label -/
noncomputable def F_spec_l09Label (a0 : TLabel) : Option (Bool) :=
 ((
    (F_spec_l09Layer a0.fLayer).bind fun y8 =>
    br y8
    ((F_spec_l09Unit a0.fAt).bind fun y10 =>
    br y10
    ((F_spec_IsName a0.fName).bind fun y12 =>
    some y12)
    (some false))
    (some false)
  ) : Option (Bool)).bind fun y1 =>
 letO y1 fun w7 =>
 some w7
set_option maxHeartbeats 4000000 in
theorem run_spec_l09Label (a0 : TLabel) (r : Bool) (h : F_spec_l09Label a0 = some r) : Fun Try.prog 152 [.agg [.v (.int .i64 a0.fLayer), .v (.int .i64 a0.fAt.fX), .v (.int .i64 a0.fAt.fY), .v (.string a0.fName)]] [] (.c (.v (.bool r))) [] true := by
 refine Fun.of_wp (oneOf [1]) tok mixed Try.func152 (by kernel_rfl) rfl Try.ntmps152 rfl trivial (fun _ => ⟨trivial, trivial⟩) ?_
 unfold F_spec_l09Label at h
 have hf_spec_IsName := @run_spec_IsName
 have hf_spec_l09Layer := @run_spec_l09Layer
 have hf_spec_l09Unit := @run_spec_l09Unit
 generalize hLEN : @len = LEN at *
 generalize hGD : @gd = GD at *
 generalize hA : std = A at *
 generalize hP : Try.prog = P at *
 cbv
 replace h := of_bind h
 obtain ⟨y1, hy2, h⟩ := h
 obtain ⟨S5, hS6⟩ : ∃ S, S = (sparse 16 [(2, .c (.v (.bool y1)))] []) := ⟨_, rfl⟩
 refine ⟨S5, ?_, ?_⟩
 ·clear h
  have h := hy2
  clear hy2
  cbv
  replace h := of_bind h
  obtain ⟨y8, hy9, h⟩ := h
  refine ⟨{ args := [.c (.v (.int .i64 a0.fLayer))], o0 := [], r := .c (.v (.bool y8)), o1 := [], fl := true, σ := [], τ := [] }, hf_spec_l09Layer _ _ hy9, ⟨les_cons (lR _) (les_nil), trivial, rfl, rfl, rfl, rfl, trivial, rfl⟩, ?_⟩
  cbv
  refine fork (fun b15 => ?_) (fun b15 => ?_)
  ·replace h := of_br_t b15 h
   cbv
   replace h := of_bind h
   obtain ⟨y10, hy11, h⟩ := h
   refine ⟨{ args := [.agg [.v (.int .i64 a0.fAt.fX), .v (.int .i64 a0.fAt.fY)]], o0 := [], r := .c (.v (.bool y10)), o1 := [], fl := true, σ := [], τ := [] }, hf_spec_l09Unit _ _ hy11, ⟨les_cons (lR _) (les_nil), trivial, rfl, rfl, rfl, rfl, trivial, rfl⟩, ?_⟩
   cbv
   refine fork (fun b14 => ?_) (fun b14 => ?_)
   ·replace h := of_br_t b14 h
    cbv
    replace h := of_bind h
    obtain ⟨y12, hy13, h⟩ := h
    refine ⟨{ args := [.c (.v (.string a0.fName))], o0 := [], r := .c (.v (.bool y12)), o1 := [], fl := true, σ := [], τ := [] }, hf_spec_IsName _ _ hy13, ⟨les_cons (lR _) (les_nil), trivial, rfl, rfl, rfl, rfl, trivial, rfl⟩, ?_⟩
    cbv
    injection h with h
    subst h
    subst hS6
    show St.le _ _
    exact le_sparse rfl ⟨lR _, trivial⟩ trivial rfl
   ·replace h := of_br_f b14 h
    cbv
    injection h with h
    subst h
    subst hS6
    show St.le _ _
    exact le_sparse rfl ⟨lR _, trivial⟩ trivial rfl
  ·replace h := of_br_f b15 h
   cbv
   injection h with h
   subst h
   subst hS6
   show St.le _ _
   exact le_sparse rfl ⟨lR _, trivial⟩ trivial rfl
 ·clear hy2
  subst hS6
  replace h := of_let h
  obtain ⟨w7, hw7, h⟩ := h
  have hw7 : w7 = y1 := hw7
  subst hw7
  cbv
  injection h with h
  subst h
  refine ⟨(sparse 16 [(2, .c (.v (.bool w7)))] []), ?_, ?_⟩
  ·exact le_sparse rfl ⟨lR _, trivial⟩ trivial rfl
  ·exact ⟨lR _, trivial, rfl⟩
/-- spec.l13Byte -/
noncomputable def F_spec_l13Byte (a0 : Int) : Option (ByteArray) :=
 letO ([std.conv .u8 a0] : List Int) fun l1 =>
 some (std.ofBytes (len l1) (fun i => gd l1 (0 + i)))
set_option maxHeartbeats 4000000 in
theorem run_spec_l13Byte (a0 : Int) (r : ByteArray) (h : F_spec_l13Byte a0 = some r) : Fun Try.prog 102 [.c (.v (.int .i64 a0))] [] (.c (.v (.string r))) [] true := by
 refine Fun.of_wp (oneOf []) tok mixed Try.func102 (by kernel_rfl) rfl Try.ntmps102 rfl trivial (fun _ => ⟨trivial, trivial⟩) ?_
 unfold F_spec_l13Byte at h
 generalize hLEN : @len = LEN at *
 generalize hGD : @gd = GD at *
 generalize hA : std = A at *
 generalize hP : Try.prog = P at *
 cbv
 replace h := of_let h
 obtain ⟨l1, hl1, h⟩ := h
 have e2 : 1 = LEN l1 := by subst hl1 hLEN; rfl
 refine ⟨_, congrArg (fun n => AV.c (AC.os 320 0 n)) e2, _, row GD (encI .u8) l1, e2, wkOf ?_, ?_⟩
 ·intro i hi j hj
  rw [← e2] at hi
  subst hl1
  subst hGD
  obtain rfl : i = 0 := (by omega)
  all_goals obtain rfl : j = 0 := by omega
  all_goals rfl
 cbv
 refine ⟨fun _ _ => rfl, ?_⟩
 injection h with h
 subst h
 refine ⟨(sparse 7 [(2, .c (.v (.string (A.ofBytes (LEN l1) (fun i => GD l1 (0 + i))))))] []), ?_, ?_⟩
 ·exact le_sparse rfl ⟨lR _, trivial⟩ trivial rfl
 ·exact ⟨lR _, trivial, rfl⟩

/-- spec.l13GetInstance -/
noncomputable def F_spec_l13GetInstance_mPb (a0 : Tl13Reader) : Option (TInstance × Tl13Reader) :=
 (F_spec_l13Get_mPb a0).bind fun y1 =>
 (F_spec_l13Get_mPb y1.2).bind fun y3 =>
 (F_spec_l13GetCoordinate_mPb y3.2).bind fun y5 =>
 (F_spec_l13GetCoordinate_mPb y5.2).bind fun y7 =>
 (F_spec_l13Get_mPb y7.2).bind fun y9 =>
 (F_spec_l13Get_mPb y9.2).bind fun y11 =>
 (F_spec_l13GetCoordinate_mPb y11.2).bind fun y13 =>
 (F_spec_l13GetCoordinate_mPb y13.2).bind fun y15 =>
 some ((TInstance.mk y1.1 (TTransform.mk y3.1 y5.1 y7.1) y9.1 y11.1 y13.1 y15.1), y15.2)
set_option maxHeartbeats 4000000 in
theorem run_spec_l13GetInstance_mPb (a0 : Tl13Reader) (r : TInstance × Tl13Reader) (h : F_spec_l13GetInstance_mPb a0 = some r) : Fun Try.prog 229 [.c (.ptr 5 0)] [(5, .var [.v (.string a0.gs), .v (.int .i64 a0.gat), .v (.bool a0.gbad)])] (.agg [.v (.int .i64 r.1.fCell), .v (.int .i64 r.1.fPlace.fOrientation), .v (.int .i64 r.1.fPlace.fX), .v (.int .i64 r.1.fPlace.fY), .v (.int .i64 r.1.fColumns), .v (.int .i64 r.1.fRows), .v (.int .i64 r.1.fStepX), .v (.int .i64 r.1.fStepY)]) [(5, .var [.v (.string r.2.gs), .v (.int .i64 r.2.gat), .v (.bool r.2.gbad)])] true := by
 refine Fun.of_wp (oneOf []) tok mixed Try.func229 (by kernel_rfl) rfl Try.ntmps229 rfl trivial (fun _ => ⟨(by simp [AV.flat, AV.flat1, AC.flat]), ⟨(by simp [AO.flat, AC.flat]), trivial⟩⟩) ?_
 unfold F_spec_l13GetInstance_mPb at h
 have hf_spec_l13GetCoordinate_mPb := @run_spec_l13GetCoordinate_mPb
 have hf_spec_l13Get_mPb := @run_spec_l13Get_mPb
 generalize hLEN : @len = LEN at *
 generalize hGD : @gd = GD at *
 generalize hA : std = A at *
 generalize hP : Try.prog = P at *
 cbv
 replace h := of_bind h
 obtain ⟨y1, hy2, h⟩ := h
 refine ⟨{ args := [.c (.ptr 5 0)], o0 := [(5, .var [.v (.string a0.gs), .v (.int .i64 a0.gat), .v (.bool a0.gbad)])], r := .c (.v (.int .i64 y1.1)), o1 := [(5, .var [.v (.string y1.2.gs), .v (.int .i64 y1.2.gat), .v (.bool y1.2.gbad)])], fl := true, σ := [(5, 5)], τ := [(5, 5)] }, hf_spec_l13Get_mPb _ _ hy2, ⟨les_cons (lR _) (les_nil), ⟨rfl, trivial⟩, rfl, rfl, rfl, rfl, ⟨fun _ => rfl, trivial⟩, rfl⟩, ?_⟩
 cbv
 replace h := of_bind h
 obtain ⟨y3, hy4, h⟩ := h
 refine ⟨{ args := [.c (.ptr 5 0)], o0 := [(5, .var [.v (.string y1.2.gs), .v (.int .i64 y1.2.gat), .v (.bool y1.2.gbad)])], r := .c (.v (.int .i64 y3.1)), o1 := [(5, .var [.v (.string y3.2.gs), .v (.int .i64 y3.2.gat), .v (.bool y3.2.gbad)])], fl := true, σ := [(5, 5)], τ := [(5, 5)] }, hf_spec_l13Get_mPb _ _ hy4, ⟨les_cons (lR _) (les_nil), ⟨rfl, trivial⟩, rfl, rfl, rfl, rfl, ⟨fun _ => rfl, trivial⟩, rfl⟩, ?_⟩
 cbv
 replace h := of_bind h
 obtain ⟨y5, hy6, h⟩ := h
 refine ⟨{ args := [.c (.ptr 5 0)], o0 := [(5, .var [.v (.string y3.2.gs), .v (.int .i64 y3.2.gat), .v (.bool y3.2.gbad)])], r := .c (.v (.int .i64 y5.1)), o1 := [(5, .var [.v (.string y5.2.gs), .v (.int .i64 y5.2.gat), .v (.bool y5.2.gbad)])], fl := true, σ := [(5, 5)], τ := [(5, 5)] }, hf_spec_l13GetCoordinate_mPb _ _ hy6, ⟨les_cons (lR _) (les_nil), ⟨rfl, trivial⟩, rfl, rfl, rfl, rfl, ⟨fun _ => rfl, trivial⟩, rfl⟩, ?_⟩
 cbv
 replace h := of_bind h
 obtain ⟨y7, hy8, h⟩ := h
 refine ⟨{ args := [.c (.ptr 5 0)], o0 := [(5, .var [.v (.string y5.2.gs), .v (.int .i64 y5.2.gat), .v (.bool y5.2.gbad)])], r := .c (.v (.int .i64 y7.1)), o1 := [(5, .var [.v (.string y7.2.gs), .v (.int .i64 y7.2.gat), .v (.bool y7.2.gbad)])], fl := true, σ := [(5, 5)], τ := [(5, 5)] }, hf_spec_l13GetCoordinate_mPb _ _ hy8, ⟨les_cons (lR _) (les_nil), ⟨rfl, trivial⟩, rfl, rfl, rfl, rfl, ⟨fun _ => rfl, trivial⟩, rfl⟩, ?_⟩
 cbv
 replace h := of_bind h
 obtain ⟨y9, hy10, h⟩ := h
 refine ⟨{ args := [.c (.ptr 5 0)], o0 := [(5, .var [.v (.string y7.2.gs), .v (.int .i64 y7.2.gat), .v (.bool y7.2.gbad)])], r := .c (.v (.int .i64 y9.1)), o1 := [(5, .var [.v (.string y9.2.gs), .v (.int .i64 y9.2.gat), .v (.bool y9.2.gbad)])], fl := true, σ := [(5, 5)], τ := [(5, 5)] }, hf_spec_l13Get_mPb _ _ hy10, ⟨les_cons (lR _) (les_nil), ⟨rfl, trivial⟩, rfl, rfl, rfl, rfl, ⟨fun _ => rfl, trivial⟩, rfl⟩, ?_⟩
 cbv
 replace h := of_bind h
 obtain ⟨y11, hy12, h⟩ := h
 refine ⟨{ args := [.c (.ptr 5 0)], o0 := [(5, .var [.v (.string y9.2.gs), .v (.int .i64 y9.2.gat), .v (.bool y9.2.gbad)])], r := .c (.v (.int .i64 y11.1)), o1 := [(5, .var [.v (.string y11.2.gs), .v (.int .i64 y11.2.gat), .v (.bool y11.2.gbad)])], fl := true, σ := [(5, 5)], τ := [(5, 5)] }, hf_spec_l13Get_mPb _ _ hy12, ⟨les_cons (lR _) (les_nil), ⟨rfl, trivial⟩, rfl, rfl, rfl, rfl, ⟨fun _ => rfl, trivial⟩, rfl⟩, ?_⟩
 cbv
 replace h := of_bind h
 obtain ⟨y13, hy14, h⟩ := h
 refine ⟨{ args := [.c (.ptr 5 0)], o0 := [(5, .var [.v (.string y11.2.gs), .v (.int .i64 y11.2.gat), .v (.bool y11.2.gbad)])], r := .c (.v (.int .i64 y13.1)), o1 := [(5, .var [.v (.string y13.2.gs), .v (.int .i64 y13.2.gat), .v (.bool y13.2.gbad)])], fl := true, σ := [(5, 5)], τ := [(5, 5)] }, hf_spec_l13GetCoordinate_mPb _ _ hy14, ⟨les_cons (lR _) (les_nil), ⟨rfl, trivial⟩, rfl, rfl, rfl, rfl, ⟨fun _ => rfl, trivial⟩, rfl⟩, ?_⟩
 cbv
 replace h := of_bind h
 obtain ⟨y15, hy16, h⟩ := h
 refine ⟨{ args := [.c (.ptr 5 0)], o0 := [(5, .var [.v (.string y13.2.gs), .v (.int .i64 y13.2.gat), .v (.bool y13.2.gbad)])], r := .c (.v (.int .i64 y15.1)), o1 := [(5, .var [.v (.string y15.2.gs), .v (.int .i64 y15.2.gat), .v (.bool y15.2.gbad)])], fl := true, σ := [(5, 5)], τ := [(5, 5)] }, hf_spec_l13GetCoordinate_mPb _ _ hy16, ⟨les_cons (lR _) (les_nil), ⟨rfl, trivial⟩, rfl, rfl, rfl, rfl, ⟨fun _ => rfl, trivial⟩, rfl⟩, ?_⟩
 cbv
 injection h with h
 subst h
 refine ⟨(sparse 32 [(2, .c (.ptr 128 0))] [(128, .var [.v (.int .i64 y1.1), .v (.int .i64 y3.1), .v (.int .i64 y5.1), .v (.int .i64 y7.1), .v (.int .i64 y9.1), .v (.int .i64 y11.1), .v (.int .i64 y13.1), .v (.int .i64 y15.1)]), (5, .var [.v (.string y15.2.gs), .v (.int .i64 y15.2.gat), .v (.bool y15.2.gbad)])]), ?_, ?_⟩
 ·exact le_sparse rfl ⟨lR _, trivial⟩ ⟨rfl, rfl, trivial⟩ rfl
 ·exact ⟨lR _, ⟨rfl, trivial⟩, rfl⟩

/-- spec.l09Transform -/
noncomputable def F_spec_l09Transform (a0 : TTransform) : Option (Bool) :=
 ((
    (F_spec_l09In a0.fOrientation 0 7).bind fun y8 =>
    br y8
    ((F_spec_l09In a0.fX (-80) 80).bind fun y10 =>
    br y10
    ((F_spec_l09In a0.fY (-80) 80).bind fun y12 =>
    some y12)
    (some false))
    (some false)
  ) : Option (Bool)).bind fun y1 =>
 letO y1 fun w7 =>
 some w7
set_option maxHeartbeats 4000000 in
theorem run_spec_l09Transform (a0 : TTransform) (r : Bool) (h : F_spec_l09Transform a0 = some r) : Fun Try.prog 213 [.agg [.v (.int .i64 a0.fOrientation), .v (.int .i64 a0.fX), .v (.int .i64 a0.fY)]] [] (.c (.v (.bool r))) [] true := by
 refine Fun.of_wp (oneOf [1]) tok mixed Try.func213 (by kernel_rfl) rfl Try.ntmps213 rfl trivial (fun _ => ⟨trivial, trivial⟩) ?_
 unfold F_spec_l09Transform at h
 have hf_spec_l09In := @run_spec_l09In
 generalize hLEN : @len = LEN at *
 generalize hGD : @gd = GD at *
 generalize hA : std = A at *
 generalize hP : Try.prog = P at *
 cbv
 replace h := of_bind h
 obtain ⟨y1, hy2, h⟩ := h
 obtain ⟨S5, hS6⟩ : ∃ S, S = (sparse 16 [(2, .c (.v (.bool y1)))] []) := ⟨_, rfl⟩
 refine ⟨S5, ?_, ?_⟩
 ·clear h
  have h := hy2
  clear hy2
  cbv
  replace h := of_bind h
  obtain ⟨y8, hy9, h⟩ := h
  refine ⟨{ args := [.c (.v (.int .i64 a0.fOrientation)), .c (.v (.int .i64 0)), .c (.v (.int .i64 7))], o0 := [], r := .c (.v (.bool y8)), o1 := [], fl := true, σ := [], τ := [] }, hf_spec_l09In _ _ _ _ hy9, ⟨les_cons (lR _) (les_cons (lR _) (les_cons (lR _) (les_nil))), trivial, rfl, rfl, rfl, rfl, trivial, rfl⟩, ?_⟩
  cbv
  refine fork (fun b15 => ?_) (fun b15 => ?_)
  ·replace h := of_br_t b15 h
   cbv
   replace h := of_bind h
   obtain ⟨y10, hy11, h⟩ := h
   refine ⟨{ args := [.c (.v (.int .i64 a0.fX)), .c (.v (.int .i64 (-80))), .c (.v (.int .i64 80))], o0 := [], r := .c (.v (.bool y10)), o1 := [], fl := true, σ := [], τ := [] }, hf_spec_l09In _ _ _ _ hy11, ⟨les_cons (lR _) (les_cons (lR _) (les_cons (lR _) (les_nil))), trivial, rfl, rfl, rfl, rfl, trivial, rfl⟩, ?_⟩
   cbv
   refine fork (fun b14 => ?_) (fun b14 => ?_)
   ·replace h := of_br_t b14 h
    cbv
    replace h := of_bind h
    obtain ⟨y12, hy13, h⟩ := h
    refine ⟨{ args := [.c (.v (.int .i64 a0.fY)), .c (.v (.int .i64 (-80))), .c (.v (.int .i64 80))], o0 := [], r := .c (.v (.bool y12)), o1 := [], fl := true, σ := [], τ := [] }, hf_spec_l09In _ _ _ _ hy13, ⟨les_cons (lR _) (les_cons (lR _) (les_cons (lR _) (les_nil))), trivial, rfl, rfl, rfl, rfl, trivial, rfl⟩, ?_⟩
    cbv
    injection h with h
    subst h
    subst hS6
    show St.le _ _
    exact le_sparse rfl ⟨lR _, trivial⟩ trivial rfl
   ·replace h := of_br_f b14 h
    cbv
    injection h with h
    subst h
    subst hS6
    show St.le _ _
    exact le_sparse rfl ⟨lR _, trivial⟩ trivial rfl
  ·replace h := of_br_f b15 h
   cbv
   injection h with h
   subst h
   subst hS6
   show St.le _ _
   exact le_sparse rfl ⟨lR _, trivial⟩ trivial rfl
 ·clear hy2
  subst hS6
  replace h := of_let h
  obtain ⟨w7, hw7, h⟩ := h
  have hw7 : w7 = y1 := hw7
  subst hw7
  cbv
  injection h with h
  subst h
  refine ⟨(sparse 16 [(2, .c (.v (.bool w7)))] []), ?_, ?_⟩
  ·exact le_sparse rfl ⟨lR _, trivial⟩ trivial rfl
  ·exact ⟨lR _, trivial, rfl⟩

/-- spec.l09Instance -/
noncomputable def F_spec_l09Instance (a0 : TInstance) (a1 : Int) : Option (Bool) :=
 ((
    (F_spec_l09In a0.fCell 0 (std.sub .i64 a1 1)).bind fun y8 =>
    br (!(y8))
    (some true)
    ((F_spec_l09Transform a0.fPlace).bind fun y10 =>
    br (!(y10))
    (some true)
    ((F_spec_l09In a0.fColumns 1 4).bind fun y12 =>
    br (!(y12))
    (some true)
    ((F_spec_l09In a0.fRows 1 4).bind fun y14 =>
    some (!(y14)))))
  ) : Option (Bool)).bind fun y1 =>
 letO y1 fun w7 =>
 br w7
 (some false)
 (((
    (F_spec_l09In a0.fStepX (-80) 80).bind fun y26 =>
    br (!(y26))
    (some true)
    ((F_spec_l09In a0.fStepY (-80) 80).bind fun y28 =>
    some (!(y28)))
  ) : Option (Bool)).bind fun y19 =>
 letO y19 fun w25 =>
 br w25
 (some false)
 (((
    br (std.lt 1 a0.fColumns)
    (br (std.lt 1 a0.fRows)
    (some true)
    (some (std.eq a0.fStepY 0)))
    (br (std.eq a0.fStepX 0)
    (br (std.lt 1 a0.fRows)
    (some true)
    (some (std.eq a0.fStepY 0)))
    (some false))
  ) : Option (Bool)).bind fun y31 =>
 letO y31 fun w37 =>
 some w37))
set_option maxHeartbeats 4000000 in
theorem run_spec_l09Instance (a0 : TInstance) (a1 : Int) (r : Bool) (h : F_spec_l09Instance a0 a1 = some r) : Fun Try.prog 153 [.agg [.v (.int .i64 a0.fCell), .v (.int .i64 a0.fPlace.fOrientation), .v (.int .i64 a0.fPlace.fX), .v (.int .i64 a0.fPlace.fY), .v (.int .i64 a0.fColumns), .v (.int .i64 a0.fRows), .v (.int .i64 a0.fStepX), .v (.int .i64 a0.fStepY)], .c (.v (.int .i64 a1))] [] (.c (.v (.bool r))) [] true := by
 refine Fun.of_wp (oneOf [1, 3, 5]) tok mixed Try.func153 (by kernel_rfl) rfl Try.ntmps153 rfl trivial (fun _ => ⟨trivial, trivial⟩) ?_
 unfold F_spec_l09Instance at h
 have hf_spec_l09In := @run_spec_l09In
 have hf_spec_l09Transform := @run_spec_l09Transform
 generalize hLEN : @len = LEN at *
 generalize hGD : @gd = GD at *
 generalize hA : std = A at *
 generalize hP : Try.prog = P at *
 cbv
 replace h := of_bind h
 obtain ⟨y1, hy2, h⟩ := h
 obtain ⟨S5, hS6⟩ : ∃ S, S = (sparse 57 [(2, .c (.ptr 128 0)), (28, .c (.v (.bool y1)))] [(128, .var [.v (.int .i64 a0.fCell), .v (.int .i64 a0.fPlace.fOrientation), .v (.int .i64 a0.fPlace.fX), .v (.int .i64 a0.fPlace.fY), .v (.int .i64 a0.fColumns), .v (.int .i64 a0.fRows), .v (.int .i64 a0.fStepX), .v (.int .i64 a0.fStepY)])]) := ⟨_, rfl⟩
 refine ⟨S5, ?_, ?_⟩
 ·clear h
  have h := hy2
  clear hy2
  cbv
  replace h := of_bind h
  obtain ⟨y8, hy9, h⟩ := h
  refine ⟨{ args := [.c (.v (.int .i64 a0.fCell)), .c (.v (.int .i64 0)), .c (.v (.int .i64 (A.sub .i64 a1 1)))], o0 := [], r := .c (.v (.bool y8)), o1 := [], fl := true, σ := [], τ := [] }, hf_spec_l09In _ _ _ _ hy9, ⟨les_cons (lR _) (les_cons (lR _) (les_cons (lR _) (les_nil))), trivial, rfl, rfl, rfl, rfl, trivial, rfl⟩, ?_⟩
  cbv
  refine fork (fun b18 => ?_) (fun b18 => ?_)
  ·replace h := of_br_t b18 h
   cbv
   injection h with h
   subst h
   subst hS6
   show St.le _ _
   exact le_sparse rfl ⟨lR _, lR _, trivial⟩ ⟨rfl, trivial⟩ rfl
  ·replace h := of_br_f b18 h
   cbv
   replace h := of_bind h
   obtain ⟨y10, hy11, h⟩ := h
   refine ⟨{ args := [.agg [.v (.int .i64 a0.fPlace.fOrientation), .v (.int .i64 a0.fPlace.fX), .v (.int .i64 a0.fPlace.fY)]], o0 := [], r := .c (.v (.bool y10)), o1 := [], fl := true, σ := [], τ := [] }, hf_spec_l09Transform _ _ hy11, ⟨les_cons (lR _) (les_nil), trivial, rfl, rfl, rfl, rfl, trivial, rfl⟩, ?_⟩
   cbv
   refine fork (fun b17 => ?_) (fun b17 => ?_)
   ·replace h := of_br_t b17 h
    cbv
    injection h with h
    subst h
    subst hS6
    show St.le _ _
    exact le_sparse rfl ⟨lR _, lR _, trivial⟩ ⟨rfl, trivial⟩ rfl
   ·replace h := of_br_f b17 h
    cbv
    replace h := of_bind h
    obtain ⟨y12, hy13, h⟩ := h
    refine ⟨{ args := [.c (.v (.int .i64 a0.fColumns)), .c (.v (.int .i64 1)), .c (.v (.int .i64 4))], o0 := [], r := .c (.v (.bool y12)), o1 := [], fl := true, σ := [], τ := [] }, hf_spec_l09In _ _ _ _ hy13, ⟨les_cons (lR _) (les_cons (lR _) (les_cons (lR _) (les_nil))), trivial, rfl, rfl, rfl, rfl, trivial, rfl⟩, ?_⟩
    cbv
    refine fork (fun b16 => ?_) (fun b16 => ?_)
    ·replace h := of_br_t b16 h
     cbv
     injection h with h
     subst h
     subst hS6
     show St.le _ _
     exact le_sparse rfl ⟨lR _, lR _, trivial⟩ ⟨rfl, trivial⟩ rfl
    ·replace h := of_br_f b16 h
     cbv
     replace h := of_bind h
     obtain ⟨y14, hy15, h⟩ := h
     refine ⟨{ args := [.c (.v (.int .i64 a0.fRows)), .c (.v (.int .i64 1)), .c (.v (.int .i64 4))], o0 := [], r := .c (.v (.bool y14)), o1 := [], fl := true, σ := [], τ := [] }, hf_spec_l09In _ _ _ _ hy15, ⟨les_cons (lR _) (les_cons (lR _) (les_cons (lR _) (les_nil))), trivial, rfl, rfl, rfl, rfl, trivial, rfl⟩, ?_⟩
     cbv
     injection h with h
     subst h
     subst hS6
     show St.le _ _
     exact le_sparse rfl ⟨lR _, lR _, trivial⟩ ⟨rfl, trivial⟩ rfl
 ·clear hy2
  subst hS6
  replace h := of_let h
  obtain ⟨w7, hw7, h⟩ := h
  have hw7 : w7 = y1 := hw7
  subst hw7
  cbv
  refine fork (fun b43 => ?_) (fun b43 => ?_)
  ·replace h := of_br_t b43 h
   cbv
   injection h with h
   subst h
   refine ⟨(sparse 57 [(4, .c (.v (.bool false)))] []), ?_, ?_⟩
   ·exact le_sparse rfl ⟨lR _, trivial⟩ trivial rfl
   ·exact ⟨lR _, trivial, rfl⟩
  ·replace h := of_br_f b43 h
   cbv
   replace h := of_bind h
   obtain ⟨y19, hy20, h⟩ := h
   obtain ⟨S23, hS24⟩ : ∃ S, S = (sparse 57 [(2, .c (.ptr 128 0)), (38, .c (.v (.bool y19)))] [(128, .var [.v (.int .i64 a0.fCell), .v (.int .i64 a0.fPlace.fOrientation), .v (.int .i64 a0.fPlace.fX), .v (.int .i64 a0.fPlace.fY), .v (.int .i64 a0.fColumns), .v (.int .i64 a0.fRows), .v (.int .i64 a0.fStepX), .v (.int .i64 a0.fStepY)])]) := ⟨_, rfl⟩
   refine ⟨S23, ?_, ?_⟩
   ·clear h
    have h := hy20
    clear hy20
    cbv
    replace h := of_bind h
    obtain ⟨y26, hy27, h⟩ := h
    refine ⟨{ args := [.c (.v (.int .i64 a0.fStepX)), .c (.v (.int .i64 (-80))), .c (.v (.int .i64 80))], o0 := [], r := .c (.v (.bool y26)), o1 := [], fl := true, σ := [], τ := [] }, hf_spec_l09In _ _ _ _ hy27, ⟨les_cons (lR _) (les_cons (lR _) (les_cons (lR _) (les_nil))), trivial, rfl, rfl, rfl, rfl, trivial, rfl⟩, ?_⟩
    cbv
    refine fork (fun b30 => ?_) (fun b30 => ?_)
    ·replace h := of_br_t b30 h
     cbv
     injection h with h
     subst h
     subst hS24
     show St.le _ _
     exact le_sparse rfl ⟨lR _, lR _, trivial⟩ ⟨rfl, trivial⟩ rfl
    ·replace h := of_br_f b30 h
     cbv
     replace h := of_bind h
     obtain ⟨y28, hy29, h⟩ := h
     refine ⟨{ args := [.c (.v (.int .i64 a0.fStepY)), .c (.v (.int .i64 (-80))), .c (.v (.int .i64 80))], o0 := [], r := .c (.v (.bool y28)), o1 := [], fl := true, σ := [], τ := [] }, hf_spec_l09In _ _ _ _ hy29, ⟨les_cons (lR _) (les_cons (lR _) (les_cons (lR _) (les_nil))), trivial, rfl, rfl, rfl, rfl, trivial, rfl⟩, ?_⟩
     cbv
     injection h with h
     subst h
     subst hS24
     show St.le _ _
     exact le_sparse rfl ⟨lR _, lR _, trivial⟩ ⟨rfl, trivial⟩ rfl
   ·clear hy20
    subst hS24
    replace h := of_let h
    obtain ⟨w25, hw25, h⟩ := h
    have hw25 : w25 = y19 := hw25
    subst hw25
    cbv
    refine fork (fun b42 => ?_) (fun b42 => ?_)
    ·replace h := of_br_t b42 h
     cbv
     injection h with h
     subst h
     refine ⟨(sparse 57 [(4, .c (.v (.bool false)))] []), ?_, ?_⟩
     ·exact le_sparse rfl ⟨lR _, trivial⟩ trivial rfl
     ·exact ⟨lR _, trivial, rfl⟩
    ·replace h := of_br_f b42 h
     cbv
     replace h := of_bind h
     obtain ⟨y31, hy32, h⟩ := h
     obtain ⟨S35, hS36⟩ : ∃ S, S = (sparse 57 [(4, .c (.v (.bool y31)))] []) := ⟨_, rfl⟩
     refine ⟨S35, ?_, ?_⟩
     ·clear h
      have h := hy32
      clear hy32
      cbv
      refine fork (fun b41 => ?_) (fun b41 => ?_)
      ·replace h := of_br_t b41 h
       cbv
       refine fork (fun b40 => ?_) (fun b40 => ?_)
       ·replace h := of_br_t b40 h
        cbv
        injection h with h
        subst h
        subst hS36
        show St.le _ _
        exact le_sparse rfl ⟨lR _, trivial⟩ trivial rfl
       ·replace h := of_br_f b40 h
        cbv
        injection h with h
        subst h
        subst hS36
        show St.le _ _
        exact le_sparse rfl ⟨lR _, trivial⟩ trivial rfl
      ·replace h := of_br_f b41 h
       cbv
       refine fork (fun b39 => ?_) (fun b39 => ?_)
       ·replace h := of_br_t b39 h
        cbv
        refine fork (fun b38 => ?_) (fun b38 => ?_)
        ·replace h := of_br_t b38 h
         cbv
         injection h with h
         subst h
         subst hS36
         show St.le _ _
         exact le_sparse rfl ⟨lR _, trivial⟩ trivial rfl
        ·replace h := of_br_f b38 h
         cbv
         injection h with h
         subst h
         subst hS36
         show St.le _ _
         exact le_sparse rfl ⟨lR _, trivial⟩ trivial rfl
       ·replace h := of_br_f b39 h
        cbv
        injection h with h
        subst h
        subst hS36
        show St.le _ _
        exact le_sparse rfl ⟨lR _, trivial⟩ trivial rfl
     ·clear hy32
      subst hS36
      replace h := of_let h
      obtain ⟨w37, hw37, h⟩ := h
      have hw37 : w37 = y31 := hw37
      subst hw37
      cbv
      injection h with h
      subst h
      refine ⟨(sparse 57 [(4, .c (.v (.bool w37)))] []), ?_, ?_⟩
      ·exact le_sparse rfl ⟨lR _, trivial⟩ trivial rfl
      ·exact ⟨lR _, trivial, rfl⟩

/-- spec.l14Take -/
noncomputable def F_spec_l14Take_mPbbbb (a0 : Tl14State) (a1 : Int) (a2 : ByteArray) (a3 : ByteArray) : Option (Int × Tl14State) :=
 (F_spec_l14Possible_mpb a0 a1).bind fun y1 =>
 br (!(y1))
 (some ((4 : Int), a0))
 (((
    br (std.eq a1 1)
    (((
       br (std.not (std.eq (std.ofN (std.slen a2)) 2))
       (some true)
       (req (std.inR 0 (std.slen a2)) <|
       some (std.not (std.eq (std.sat a2 (std.toN 0)) 1)))
     ) : Option (Bool)).bind fun y18 =>
    letO y18 fun w24 =>
    br w24
    ((some ((4 : Int), a0)).bind fun r27 => some (.inl r27))
    (req (std.inR 1 (std.slen a2)) <|
    (F_spec_l09In (std.conv .i64 (std.sat a2 (std.toN 1))) 1 8).bind fun y31 =>
    br (!(y31))
    ((some ((3 : Int), a0)).bind fun r33 => some (.inl r33))
    (req (std.inR 1 (std.slen a2)) <|
    some (.inr (std.conv .i64 (std.sat a2 (std.toN 1)), a0.gdone.fCells, a0.gopen, a0.gcell.fName, a0.gcell.fShapes, a0.gcell.fLabels, a0.gcell.fInstances, a0.gkind, a0.gended)))))
    (((
       br (std.eq a1 2)
       ((F_spec_l13GetName_mPb (Tl13Reader.mk a2 0 false)).bind fun y53 =>
       ((
          br y53.2.gbad
          (some true)
          (some (std.not (std.eq y53.2.gat (std.ofN (std.slen a2)))))
        ) : Option (Bool)).bind fun y55 =>
       letO y55 fun w61 =>
       br w61
       (((some ((4 : Int), a0)).bind fun r63 => some (.inl r63)).bind fun r66 => some (.inl r66))
       (((
          (F_spec_IsName y53.1).bind fun y76 =>
          br (!(y76))
          (some true)
          ((F_spec_l14Known_mpb a0 y53.1).bind fun y78 =>
          some (std.le 0 y78))
        ) : Option (Bool)).bind fun y69 =>
       letO y69 fun w75 =>
       br w75
       (((some ((1 : Int), a0)).bind fun r81 => some (.inl r81)).bind fun r84 => some (.inl r84))
       (some (.inr (true, y53.1, ([] : List TShape), ([] : List TLabel), ([] : List TInstance), 3, a0.gdone.fCells, a0.gended)))))
       (((
          br (std.eq a1 3)
          ((F_spec_l13GetShape_mPb (Tl13Reader.mk a2 0 false)).bind fun y102 =>
          ((
             br y102.2.gbad
             (some true)
             (some (std.not (std.eq y102.2.gat (std.ofN (std.slen a2)))))
           ) : Option (Bool)).bind fun y104 =>
          letO y104 fun w110 =>
          br w110
          ((((some ((4 : Int), a0)).bind fun r112 => some (.inl r112)).bind fun r115 => some (.inl r115)).bind fun r118 => some (.inl r118))
          (br (std.eq (std.ofN (len a0.gcell.fShapes)) 24)
          ((((some ((3 : Int), a0)).bind fun r121 => some (.inl r121)).bind fun r124 => some (.inl r124)).bind fun r127 => some (.inl r127))
          ((F_spec_l09Shape y102.1).bind fun y130 =>
          br (!(y130))
          ((((some ((1 : Int), a0)).bind fun r132 => some (.inl r132)).bind fun r135 => some (.inl r135)).bind fun r138 => some (.inl r138))
          (letO ([] : List TShape) fun l141 =>
          req (std.room (std.nadd (len l141) (len a0.gcell.fShapes)) 40) <|
          letO (l141 ++ a0.gcell.fShapes) fun l143 =>
          letO ([y102.1] : List TShape) fun l146 =>
          req (std.room (std.nadd (len l143) (len l146)) 40) <|
          letO (l143 ++ l146) fun l148 =>
          some (.inr (l148, a0.gdone.fCells, a0.gopen, a0.gcell.fLabels, a0.gcell.fInstances, a0.gkind, a0.gended))))))
          (((
             br (std.eq a1 4)
             ((F_spec_l13GetLabel_mPb (Tl13Reader.mk a2 0 false)).bind fun y166 =>
             ((
                br y166.2.gbad
                (some true)
                (some (std.not (std.eq y166.2.gat (std.ofN (std.slen a2)))))
              ) : Option (Bool)).bind fun y168 =>
             letO y168 fun w174 =>
             br w174
             (((((some ((4 : Int), a0)).bind fun r176 => some (.inl r176)).bind fun r179 => some (.inl r179)).bind fun r182 => some (.inl r182)).bind fun r185 => some (.inl r185))
             (br (std.eq (std.ofN (len a0.gcell.fLabels)) 8)
             (((((some ((3 : Int), a0)).bind fun r188 => some (.inl r188)).bind fun r191 => some (.inl r191)).bind fun r194 => some (.inl r194)).bind fun r197 => some (.inl r197))
             ((F_spec_l09Label y166.1).bind fun y200 =>
             br (!(y200))
             (((((some ((1 : Int), a0)).bind fun r202 => some (.inl r202)).bind fun r205 => some (.inl r205)).bind fun r208 => some (.inl r208)).bind fun r211 => some (.inl r211))
             (letO ([] : List TLabel) fun l214 =>
             req (std.room (std.nadd (len l214) (len a0.gcell.fLabels)) 40) <|
             letO (l214 ++ a0.gcell.fLabels) fun l216 =>
             letO ([y166.1] : List TLabel) fun l219 =>
             req (std.room (std.nadd (len l216) (len l219)) 40) <|
             letO (l216 ++ l219) fun l221 =>
             some (.inr (l221, 4, a0.gdone.fCells, a0.gopen, a0.gcell.fInstances, a0.gended))))))
             (((
                br (std.eq a1 5)
                ((F_spec_l13GetName_mPb (Tl13Reader.mk a2 0 false)).bind fun y238 =>
                (F_spec_l13Byte 0).bind fun y240 =>
                req (std.upTo y238.2.gat (std.slen a2)) <|
                req (std.room (std.nadd (std.slen y240) (std.slen (std.ssub a2 (std.toN y238.2.gat) (std.slen a2)))) 1) <|
                (F_spec_l13GetInstance_mPb (Tl13Reader.mk (std.scat y240 (std.ssub a2 (std.toN y238.2.gat) (std.slen a2))) 0 false)).bind fun y244 =>
                ((
                   br y238.2.gbad
                   (some true)
                   (br y244.2.gbad
                   (some true)
                   (some (std.not (std.eq y244.2.gat (std.ofN (std.slen y244.2.gs))))))
                 ) : Option (Bool)).bind fun y246 =>
                letO y246 fun w252 =>
                br w252
                ((((((some ((4 : Int), a0)).bind fun r255 => some (.inl r255)).bind fun r258 => some (.inl r258)).bind fun r261 => some (.inl r261)).bind fun r264 => some (.inl r264)).bind fun r267 => some (.inl r267))
                (br (std.eq (std.ofN (len a0.gcell.fInstances)) 8)
                ((((((some ((3 : Int), a0)).bind fun r270 => some (.inl r270)).bind fun r273 => some (.inl r273)).bind fun r276 => some (.inl r276)).bind fun r279 => some (.inl r279)).bind fun r282 => some (.inl r282))
                ((F_spec_l14Known_mpb a0 y238.1).bind fun y285 =>
                br (std.lt y285 0)
                ((((((some ((5 : Int), a0)).bind fun r287 => some (.inl r287)).bind fun r290 => some (.inl r290)).bind fun r293 => some (.inl r293)).bind fun r296 => some (.inl r296)).bind fun r299 => some (.inl r299))
                ((F_spec_l09Instance (TInstance.mk y285 y244.1.fPlace y244.1.fColumns y244.1.fRows y244.1.fStepX y244.1.fStepY) (std.ofN (len a0.gdone.fCells))).bind fun y302 =>
                br (!(y302))
                ((((((some ((1 : Int), a0)).bind fun r304 => some (.inl r304)).bind fun r307 => some (.inl r307)).bind fun r310 => some (.inl r310)).bind fun r313 => some (.inl r313)).bind fun r316 => some (.inl r316))
                (letO ([] : List TInstance) fun l319 =>
                req (std.room (std.nadd (len l319) (len a0.gcell.fInstances)) 64) <|
                letO (l319 ++ a0.gcell.fInstances) fun l321 =>
                letO ([(TInstance.mk y285 y244.1.fPlace y244.1.fColumns y244.1.fRows y244.1.fStepX y244.1.fStepY)] : List TInstance) fun l324 =>
                req (std.room (std.nadd (len l321) (len l324)) 64) <|
                letO (l321 ++ l324) fun l326 =>
                some (.inr (l326, 5, a0.gdone.fCells, a0.gopen, a0.gended)))))))
                (((
                   br (std.eq a1 6)
                   ((F_spec_l13Byte (std.ofN (len a0.gcell.fShapes))).bind fun y342 =>
                   (F_spec_l13Byte (std.ofN (len a0.gcell.fLabels))).bind fun y344 =>
                   req (std.room (std.nadd (std.slen y342) (std.slen y344)) 1) <|
                   (F_spec_l13Byte (std.ofN (len a0.gcell.fInstances))).bind fun y347 =>
                   req (std.room (std.nadd (std.slen (std.scat y342 y344)) (std.slen y347)) 1) <|
                   br (std.not (std.seq a2 (std.scat (std.scat y342 y344) y347)))
                   (((((((some ((4 : Int), a0)).bind fun r350 => some (.inl r350)).bind fun r353 => some (.inl r353)).bind fun r356 => some (.inl r356)).bind fun r359 => some (.inl r359)).bind fun r362 => some (.inl r362)).bind fun r365 => some (.inl r365))
                   (req (std.room (std.nadd (len ([] : List TCell)) (len a0.gdone.fCells)) 88) <|
                   letO (([] : List TCell) ++ a0.gdone.fCells) fun l369 =>
                   letO ([a0.gcell] : List TCell) fun l372 =>
                   req (std.room (std.nadd (len l369) (len l372)) 88) <|
                   letO (l369 ++ l372) fun l374 =>
                   some (.inr (l374, false, a0.gended))))
                   (((
                      br (std.eq a1 7)
                      (br (std.not (std.eq (std.ofN (std.slen a2)) 2))
                      ((((((((some ((4 : Int), a0)).bind fun r385 => some (.inl r385)).bind fun r388 => some (.inl r388)).bind fun r391 => some (.inl r391)).bind fun r394 => some (.inl r394)).bind fun r397 => some (.inl r397)).bind fun r400 => some (.inl r400)).bind fun r403 => some (.inl r403))
                      ((F_spec_Checksum16 a3).bind fun y406 =>
                      (F_spec_l13Two y406).bind fun y408 =>
                      br (std.not (std.seq a2 y408))
                      ((((((((some ((8 : Int), a0)).bind fun r410 => some (.inl r410)).bind fun r413 => some (.inl r413)).bind fun r416 => some (.inl r416)).bind fun r419 => some (.inl r419)).bind fun r422 => some (.inl r422)).bind fun r425 => some (.inl r425)).bind fun r428 => some (.inl r428))
                      (some (.inr true))))
                      (some (.inr a0.gended))
                    ) : Option (_ ⊕ Bool)).bind fun z380 => (match z380 with
                    | .inl r => some r
                    | .inr y378 =>
                      letO y378 fun w384 =>
                      some (.inr (a0.gdone.fCells, a0.gopen, w384))))
                 ) : Option (_ ⊕ ((List TCell) × Bool × Bool))).bind fun z335 => (match z335 with
                 | .inl r => some r
                 | .inr y333 =>
                   letO y333.1 fun w339 =>
                   letO y333.2.1 fun w340 =>
                   letO y333.2.2 fun w341 =>
                   some (.inr (a0.gcell.fInstances, a0.gkind, w339, w340, w341))))
              ) : Option (_ ⊕ ((List TInstance) × Int × (List TCell) × Bool × Bool))).bind fun z229 => (match z229 with
              | .inl r => some r
              | .inr y227 =>
                letO y227.1 fun w233 =>
                letO y227.2.1 fun w234 =>
                letO y227.2.2.1 fun w235 =>
                letO y227.2.2.2.1 fun w236 =>
                letO y227.2.2.2.2 fun w237 =>
                some (.inr (a0.gcell.fLabels, w234, w235, w236, w233, w237))))
           ) : Option (_ ⊕ ((List TLabel) × Int × (List TCell) × Bool × (List TInstance) × Bool))).bind fun z156 => (match z156 with
           | .inl r => some r
           | .inr y154 =>
             letO y154.1 fun w160 =>
             letO y154.2.1 fun w161 =>
             letO y154.2.2.1 fun w162 =>
             letO y154.2.2.2.1 fun w163 =>
             letO y154.2.2.2.2.1 fun w164 =>
             letO y154.2.2.2.2.2 fun w165 =>
             some (.inr (a0.gcell.fShapes, w162, w163, w160, w164, w161, w165))))
        ) : Option (_ ⊕ ((List TShape) × (List TCell) × Bool × (List TLabel) × (List TInstance) × Int × Bool))).bind fun z91 => (match z91 with
        | .inl r => some r
        | .inr y89 =>
          letO y89.1 fun w95 =>
          letO y89.2.1 fun w96 =>
          letO y89.2.2.1 fun w97 =>
          letO y89.2.2.2.1 fun w98 =>
          letO y89.2.2.2.2.1 fun w99 =>
          letO y89.2.2.2.2.2.1 fun w100 =>
          letO y89.2.2.2.2.2.2 fun w101 =>
          some (.inr (w97, a0.gcell.fName, w95, w98, w99, w100, w96, w101))))
     ) : Option (_ ⊕ (Bool × ByteArray × (List TShape) × (List TLabel) × (List TInstance) × Int × (List TCell) × Bool))).bind fun z41 => (match z41 with
     | .inl r => some r
     | .inr y39 =>
       letO y39.1 fun w45 =>
       letO y39.2.1 fun w46 =>
       letO y39.2.2.1 fun w47 =>
       letO y39.2.2.2.1 fun w48 =>
       letO y39.2.2.2.2.1 fun w49 =>
       letO y39.2.2.2.2.2.1 fun w50 =>
       letO y39.2.2.2.2.2.2.1 fun w51 =>
       letO y39.2.2.2.2.2.2.2 fun w52 =>
       some (.inr (a0.gwant, w51, w45, w46, w47, w48, w49, w50, w52))))
  ) : Option (_ ⊕ (Int × (List TCell) × Bool × ByteArray × (List TShape) × (List TLabel) × (List TInstance) × Int × Bool))).bind fun z5 => (match z5 with
  | .inl r => some r
  | .inr y3 =>
    letO y3.1 fun w9 =>
    letO y3.2.1 fun w10 =>
    letO y3.2.2.1 fun w11 =>
    letO y3.2.2.2.1 fun w12 =>
    letO y3.2.2.2.2.1 fun w13 =>
    letO y3.2.2.2.2.2.1 fun w14 =>
    letO y3.2.2.2.2.2.2.1 fun w15 =>
    letO y3.2.2.2.2.2.2.2.1 fun w16 =>
    letO y3.2.2.2.2.2.2.2.2 fun w17 =>
    some ((0 : Int), (Tl14State.mk w9 (TLibrary.mk w10) w11 (TCell.mk w12 w13 w14 w15) w16 w17))))
set_option maxHeartbeats 4000000 in
theorem run_spec_l14Take_mPbbbb (a0 : Tl14State) (a1 : Int) (a2 : ByteArray) (a3 : ByteArray) (r : Int × Tl14State) (h : F_spec_l14Take_mPbbbb a0 a1 a2 a3 = some r) : Fun Try.prog 164 [.c (.ptr 5 0), .c (.v (.int .i64 a1)), .c (.v (.string a2)), .c (.v (.string a3))] [(5, .var [.v (.int .i64 a0.gwant), .bs (len a0.gdone.fCells) 4 (row gd (encCell len gd) a0.gdone.fCells), .v (.bool a0.gopen), .v (.string a0.gcell.fName), .bs (len a0.gcell.fShapes) 5 (row gd (encShape) a0.gcell.fShapes), .bs (len a0.gcell.fLabels) 4 (row gd (encLabel) a0.gcell.fLabels), .bs (len a0.gcell.fInstances) 8 (row gd (encInstance) a0.gcell.fInstances), .v (.int .i64 a0.gkind), .v (.bool a0.gended)])] (.c (.v (.int .i64 r.1))) [(5, .var [.v (.int .i64 r.2.gwant), .bs (len r.2.gdone.fCells) 4 (row gd (encCell len gd) r.2.gdone.fCells), .v (.bool r.2.gopen), .v (.string r.2.gcell.fName), .bs (len r.2.gcell.fShapes) 5 (row gd (encShape) r.2.gcell.fShapes), .bs (len r.2.gcell.fLabels) 4 (row gd (encLabel) r.2.gcell.fLabels), .bs (len r.2.gcell.fInstances) 8 (row gd (encInstance) r.2.gcell.fInstances), .v (.int .i64 r.2.gkind), .v (.bool r.2.gended)])] false := by
 refine Fun.of_wp (oneOf [7, 14, 16, 23, 32, 44, 100032, 100053, 100090, 100131, 100175, 100248, 100296]) tok mixed Try.func164 (by kernel_rfl) rfl Try.ntmps164 rfl trivial (fun h => by cases h) ?_
 unfold F_spec_l14Take_mPbbbb at h
 have hf_spec_Checksum16 := @run_spec_Checksum16
 have hf_spec_IsName := @run_spec_IsName
 have hf_spec_l09In := @run_spec_l09In
 have hf_spec_l09Instance := @run_spec_l09Instance
 have hf_spec_l09Label := @run_spec_l09Label
 have hf_spec_l09Shape := @run_spec_l09Shape
 have hf_spec_l13Byte := @run_spec_l13Byte
 have hf_spec_l13GetInstance_mPb := @run_spec_l13GetInstance_mPb
 have hf_spec_l13GetLabel_mPb := @run_spec_l13GetLabel_mPb
 have hf_spec_l13GetName_mPb := @run_spec_l13GetName_mPb
 have hf_spec_l13GetShape_mPb := @run_spec_l13GetShape_mPb
 have hf_spec_l13Two := @run_spec_l13Two
 have hf_spec_l14Known_mpb := @run_spec_l14Known_mpb
 have hf_spec_l14Possible_mpb := @run_spec_l14Possible_mpb
 generalize hLEN : @len = LEN at *
 generalize hGD : @gd = GD at *
 generalize hA : std = A at *
 generalize hP : Try.prog = P at *
 cbv
 replace h := of_bind h
 obtain ⟨y1, hy2, h⟩ := h
 refine ⟨{ args := [.c (.bp 9 (encl14State LEN GD a0)), .c (.v (.int .i64 a1))], o0 := [], r := .c (.v (.bool y1)), o1 := [], fl := true, σ := [], τ := [] }, hf_spec_l14Possible_mpb _ _ _ hy2, ⟨les_cons (le_bp (show 9 ≤ 9 from by decide) (by intro j hj; match j, hj with | 0, _ => exact rle_refl _ | 1, _ => exact rle_refl _ | 2, _ => exact rle_refl _ | 3, _ => exact rle_refl _ | 4, _ => exact rle_refl _ | 5, _ => exact rle_refl _ | 6, _ => exact rle_refl _ | 7, _ => exact rle_refl _ | 8, _ => exact rle_refl _ | (j_ + 9), h_ => exact absurd h_ (by omega))) (les_cons (lR _) (les_nil)), trivial, rfl, rfl, rfl, rfl, trivial, rfl⟩, ?_⟩
 cbv
 refine fork (fun b440 => ?_) (fun b440 => ?_)
 ·replace h := of_br_t b440 h
  cbv
  injection h with h
  subst h
  refine ⟨(sparse 309 [(8, .c (.v (.int .i64 4)))] [(5, .var [.v (.int .i64 a0.gwant), .bs (LEN a0.gdone.fCells) 4 (row GD (encCell LEN GD) a0.gdone.fCells), .v (.bool a0.gopen), .v (.string a0.gcell.fName), .bs (LEN a0.gcell.fShapes) 5 (row GD (encShape) a0.gcell.fShapes), .bs (LEN a0.gcell.fLabels) 4 (row GD (encLabel) a0.gcell.fLabels), .bs (LEN a0.gcell.fInstances) 8 (row GD (encInstance) a0.gcell.fInstances), .v (.int .i64 a0.gkind), .v (.bool a0.gended)])]), ?_, ?_⟩
  ·exact le_sparse rfl ⟨lR _, trivial⟩ ⟨rfl, trivial⟩ rfl
  ·exact ⟨lR _, ⟨rfl, trivial⟩, rfl⟩
 ·replace h := of_br_f b440 h
  cbv
  replace h := of_bind h
  obtain ⟨z5, hy4, hz6⟩ := h
  obtain ⟨S7, hS8⟩ : ∃ S, S = (match z5 with | .inl _ => none | .inr y3 => some (sparse 309 [] [(5, .var [.v (.int .i64 y3.1), .bs (LEN y3.2.1) 4 (row GD (encCell LEN GD) y3.2.1), .v (.bool y3.2.2.1), .v (.string y3.2.2.2.1), .bs (LEN y3.2.2.2.2.1) 5 (row GD (encShape) y3.2.2.2.2.1), .bs (LEN y3.2.2.2.2.2.1) 4 (row GD (encLabel) y3.2.2.2.2.2.1), .bs (LEN y3.2.2.2.2.2.2.1) 8 (row GD (encInstance) y3.2.2.2.2.2.2.1), .v (.int .i64 y3.2.2.2.2.2.2.2.1), .v (.bool y3.2.2.2.2.2.2.2.2)])])) := ⟨_, rfl⟩
  refine ⟨S7, ?_, ?_⟩
  ·have h := hy4
   clear hy4
   cbv
   refine fork (fun b439 => ?_) (fun b439 => ?_)
   ·replace h := of_br_t b439 h
    cbv
    replace h := of_bind h
    obtain ⟨y18, hy19, h⟩ := h
    obtain ⟨S22, hS23⟩ : ∃ S, S = (sparse 309 [(0, .c (.ptr 5 0)), (2, .c (.v (.string a2))), (41, .c (.v (.bool y18)))] [(5, .var [.v (.int .i64 a0.gwant), .bs (LEN a0.gdone.fCells) 4 (row GD (encCell LEN GD) a0.gdone.fCells), .v (.bool a0.gopen), .v (.string a0.gcell.fName), .bs (LEN a0.gcell.fShapes) 5 (row GD (encShape) a0.gcell.fShapes), .bs (LEN a0.gcell.fLabels) 4 (row GD (encLabel) a0.gcell.fLabels), .bs (LEN a0.gcell.fInstances) 8 (row GD (encInstance) a0.gcell.fInstances), .v (.int .i64 a0.gkind), .v (.bool a0.gended)])]) := ⟨_, rfl⟩
    refine ⟨S22, ?_, ?_⟩
    ·clear h
     have h := hy19
     clear hy19
     cbv
     refine fork (fun b26 => ?_) (fun b26 => ?_)
     ·replace h := of_br_t b26 h
      cbv
      injection h with h
      subst h
      subst hS23
      show St.le _ _
      exact le_sparse rfl ⟨lR _, lR _, lR _, trivial⟩ ⟨rfl, trivial⟩ rfl
     ·replace h := of_br_f b26 h
      cbv
      replace h := of_req h
      obtain ⟨c25, h⟩ := h
      refine ⟨c25, ?_⟩
      injection h with h
      subst h
      subst hS23
      show St.le _ _
      exact le_sparse rfl ⟨lR _, lR _, lR _, trivial⟩ ⟨rfl, trivial⟩ rfl
    ·clear hy19
     subst hS23
     replace h := of_let h
     obtain ⟨w24, hw24, h⟩ := h
     have hw24 : w24 = y18 := hw24
     subst hw24
     cbv
     refine fork (fun b38 => ?_) (fun b38 => ?_)
     ·replace h := of_br_t b38 h
      cbv
      replace h := of_bind h
      obtain ⟨r27, h28, he29⟩ := h
      injection he29 with he29
      subst he29
      injection hz6 with hz6
      subst hz6
      have h := h28
      injection h with h
      subst h
      refine ⟨(sparse 309 [(8, .c (.v (.int .i64 4)))] [(5, .var [.v (.int .i64 a0.gwant), .bs (LEN a0.gdone.fCells) 4 (row GD (encCell LEN GD) a0.gdone.fCells), .v (.bool a0.gopen), .v (.string a0.gcell.fName), .bs (LEN a0.gcell.fShapes) 5 (row GD (encShape) a0.gcell.fShapes), .bs (LEN a0.gcell.fLabels) 4 (row GD (encLabel) a0.gcell.fLabels), .bs (LEN a0.gcell.fInstances) 8 (row GD (encInstance) a0.gcell.fInstances), .v (.int .i64 a0.gkind), .v (.bool a0.gended)])]), ?_, ?_⟩
      ·exact le_sparse rfl ⟨lR _, trivial⟩ ⟨rfl, trivial⟩ rfl
      ·exact ⟨lR _, ⟨rfl, trivial⟩, rfl⟩
     ·replace h := of_br_f b38 h
      cbv
      replace h := of_req h
      obtain ⟨c30, h⟩ := h
      refine ⟨c30, ?_⟩
      replace h := of_bind h
      obtain ⟨y31, hy32, h⟩ := h
      refine ⟨{ args := [.c (.v (.int .i64 (A.conv .i64 (A.sat a2 (A.toN 1))))), .c (.v (.int .i64 1)), .c (.v (.int .i64 8))], o0 := [], r := .c (.v (.bool y31)), o1 := [], fl := true, σ := [], τ := [] }, hf_spec_l09In _ _ _ _ hy32, ⟨les_cons (lR _) (les_cons (lR _) (les_cons (lR _) (les_nil))), trivial, rfl, rfl, rfl, rfl, trivial, rfl⟩, ?_⟩
      cbv
      refine fork (fun b37 => ?_) (fun b37 => ?_)
      ·replace h := of_br_t b37 h
       cbv
       replace h := of_bind h
       obtain ⟨r33, h34, he35⟩ := h
       injection he35 with he35
       subst he35
       injection hz6 with hz6
       subst hz6
       have h := h34
       injection h with h
       subst h
       refine ⟨(sparse 309 [(8, .c (.v (.int .i64 3)))] [(5, .var [.v (.int .i64 a0.gwant), .bs (LEN a0.gdone.fCells) 4 (row GD (encCell LEN GD) a0.gdone.fCells), .v (.bool a0.gopen), .v (.string a0.gcell.fName), .bs (LEN a0.gcell.fShapes) 5 (row GD (encShape) a0.gcell.fShapes), .bs (LEN a0.gcell.fLabels) 4 (row GD (encLabel) a0.gcell.fLabels), .bs (LEN a0.gcell.fInstances) 8 (row GD (encInstance) a0.gcell.fInstances), .v (.int .i64 a0.gkind), .v (.bool a0.gended)])]), ?_, ?_⟩
       ·exact le_sparse rfl ⟨lR _, trivial⟩ ⟨rfl, trivial⟩ rfl
       ·exact ⟨lR _, ⟨rfl, trivial⟩, rfl⟩
      ·replace h := of_br_f b37 h
       cbv
       replace h := of_req h
       obtain ⟨c36, h⟩ := h
       refine ⟨c36, ?_⟩
       injection h with h
       subst h
       subst hS8
       show St.le _ _
       exact le_sparse rfl trivial ⟨rfl, trivial⟩ rfl
   ·replace h := of_br_f b439 h
    cbv
    replace h := of_bind h
    obtain ⟨z41, hy40, hz42⟩ := h
    obtain ⟨S43, hS44⟩ : ∃ S, S = (match z41 with | .inl _ => none | .inr y39 => some (sparse 309 [] [(5, .var [.v (.int .i64 a0.gwant), .bs (LEN y39.2.2.2.2.2.2.1) 4 (row GD (encCell LEN GD) y39.2.2.2.2.2.2.1), .v (.bool y39.1), .v (.string y39.2.1), .bs (LEN y39.2.2.1) 5 (row GD (encShape) y39.2.2.1), .bs (LEN y39.2.2.2.1) 4 (row GD (encLabel) y39.2.2.2.1), .bs (LEN y39.2.2.2.2.1) 8 (row GD (encInstance) y39.2.2.2.2.1), .v (.int .i64 y39.2.2.2.2.2.1), .v (.bool y39.2.2.2.2.2.2.2)])])) := ⟨_, rfl⟩
    refine ⟨S43, ?_, ?_⟩
    ·have h := hy40
     clear hy40
     cbv
     refine fork (fun b438 => ?_) (fun b438 => ?_)
     ·replace h := of_br_t b438 h
      cbv
      replace h := of_bind h
      obtain ⟨y53, hy54, h⟩ := h
      refine ⟨{ args := [.c (.ptr 5 0)], o0 := [(5, .var [.v (.string a2), .v (.int .i64 0), .v (.bool false)])], r := .c (.v (.string y53.1)), o1 := [(5, .var [.v (.string y53.2.gs), .v (.int .i64 y53.2.gat), .v (.bool y53.2.gbad)])], fl := true, σ := [(5, 1536)], τ := [(5, 1536)] }, hf_spec_l13GetName_mPb _ _ hy54, ⟨les_cons (lR _) (les_nil), ⟨rfl, trivial⟩, rfl, rfl, rfl, rfl, ⟨fun _ => rfl, trivial⟩, rfl⟩, ?_⟩
      cbv
      replace h := of_bind h
      obtain ⟨y55, hy56, h⟩ := h
      obtain ⟨S59, hS60⟩ : ∃ S, S = (sparse 309 [(0, .c (.ptr 5 0)), (11, .c (.v (.string y53.1))), (69, .c (.v (.bool y55)))] [(5, .var [.v (.int .i64 a0.gwant), .bs (LEN a0.gdone.fCells) 4 (row GD (encCell LEN GD) a0.gdone.fCells), .v (.bool a0.gopen), .v (.string a0.gcell.fName), .bs (LEN a0.gcell.fShapes) 5 (row GD (encShape) a0.gcell.fShapes), .bs (LEN a0.gcell.fLabels) 4 (row GD (encLabel) a0.gcell.fLabels), .bs (LEN a0.gcell.fInstances) 8 (row GD (encInstance) a0.gcell.fInstances), .v (.int .i64 a0.gkind), .v (.bool a0.gended)])]) := ⟨_, rfl⟩
      refine ⟨S59, ?_, ?_⟩
      ·clear h
       have h := hy56
       clear hy56
       cbv
       refine fork (fun b62 => ?_) (fun b62 => ?_)
       ·replace h := of_br_t b62 h
        cbv
        injection h with h
        subst h
        subst hS60
        show St.le _ _
        exact le_sparse rfl ⟨lR _, lR _, lR _, trivial⟩ ⟨rfl, trivial⟩ rfl
       ·replace h := of_br_f b62 h
        cbv
        injection h with h
        subst h
        subst hS60
        show St.le _ _
        exact le_sparse rfl ⟨lR _, lR _, lR _, trivial⟩ ⟨rfl, trivial⟩ rfl
      ·clear hy56
       subst hS60
       replace h := of_let h
       obtain ⟨w61, hw61, h⟩ := h
       have hw61 : w61 = y55 := hw61
       subst hw61
       cbv
       refine fork (fun b88 => ?_) (fun b88 => ?_)
       ·replace h := of_br_t b88 h
        cbv
        replace h := of_bind h
        obtain ⟨r66, h67, he68⟩ := h
        injection he68 with he68
        subst he68
        injection hz42 with hz42
        subst hz42
        have h := h67
        replace h := of_bind h
        obtain ⟨r63, h64, he65⟩ := h
        injection he65 with he65
        subst he65
        injection hz6 with hz6
        subst hz6
        have h := h64
        injection h with h
        subst h
        refine ⟨(sparse 309 [(8, .c (.v (.int .i64 4)))] [(5, .var [.v (.int .i64 a0.gwant), .bs (LEN a0.gdone.fCells) 4 (row GD (encCell LEN GD) a0.gdone.fCells), .v (.bool a0.gopen), .v (.string a0.gcell.fName), .bs (LEN a0.gcell.fShapes) 5 (row GD (encShape) a0.gcell.fShapes), .bs (LEN a0.gcell.fLabels) 4 (row GD (encLabel) a0.gcell.fLabels), .bs (LEN a0.gcell.fInstances) 8 (row GD (encInstance) a0.gcell.fInstances), .v (.int .i64 a0.gkind), .v (.bool a0.gended)])]), ?_, ?_⟩
        ·exact le_sparse rfl ⟨lR _, trivial⟩ ⟨rfl, trivial⟩ rfl
        ·exact ⟨lR _, ⟨rfl, trivial⟩, rfl⟩
       ·replace h := of_br_f b88 h
        cbv
        replace h := of_bind h
        obtain ⟨y69, hy70, h⟩ := h
        obtain ⟨S73, hS74⟩ : ∃ S, S = (sparse 309 [(0, .c (.ptr 5 0)), (11, .c (.v (.string y53.1))), (78, .c (.v (.bool y69)))] [(5, .var [.v (.int .i64 a0.gwant), .bs (LEN a0.gdone.fCells) 4 (row GD (encCell LEN GD) a0.gdone.fCells), .v (.bool a0.gopen), .v (.string a0.gcell.fName), .bs (LEN a0.gcell.fShapes) 5 (row GD (encShape) a0.gcell.fShapes), .bs (LEN a0.gcell.fLabels) 4 (row GD (encLabel) a0.gcell.fLabels), .bs (LEN a0.gcell.fInstances) 8 (row GD (encInstance) a0.gcell.fInstances), .v (.int .i64 a0.gkind), .v (.bool a0.gended)])]) := ⟨_, rfl⟩
        refine ⟨S73, ?_, ?_⟩
        ·clear h
         have h := hy70
         clear hy70
         cbv
         replace h := of_bind h
         obtain ⟨y76, hy77, h⟩ := h
         refine ⟨{ args := [.c (.v (.string y53.1))], o0 := [], r := .c (.v (.bool y76)), o1 := [], fl := true, σ := [], τ := [] }, hf_spec_IsName _ _ hy77, ⟨les_cons (lR _) (les_nil), trivial, rfl, rfl, rfl, rfl, trivial, rfl⟩, ?_⟩
         cbv
         refine fork (fun b80 => ?_) (fun b80 => ?_)
         ·replace h := of_br_t b80 h
          cbv
          injection h with h
          subst h
          subst hS74
          show St.le _ _
          exact le_sparse rfl ⟨lR _, lR _, lR _, trivial⟩ ⟨rfl, trivial⟩ rfl
         ·replace h := of_br_f b80 h
          cbv
          replace h := of_bind h
          obtain ⟨y78, hy79, h⟩ := h
          refine ⟨{ args := [.c (.bp 9 (encl14State LEN GD a0)), .c (.v (.string y53.1))], o0 := [], r := .c (.v (.int .i64 y78)), o1 := [], fl := true, σ := [], τ := [] }, hf_spec_l14Known_mpb _ _ _ hy79, ⟨les_cons (le_bp (show 9 ≤ 9 from by decide) (by intro j hj; match j, hj with | 0, _ => exact rle_refl _ | 1, _ => exact rle_refl _ | 2, _ => exact rle_refl _ | 3, _ => exact rle_refl _ | 4, _ => exact rle_refl _ | 5, _ => exact rle_refl _ | 6, _ => exact rle_refl _ | 7, _ => exact rle_refl _ | 8, _ => exact rle_refl _ | (j_ + 9), h_ => exact absurd h_ (by omega))) (les_cons (lR _) (les_nil)), trivial, rfl, rfl, rfl, rfl, trivial, rfl⟩, ?_⟩
          cbv
          injection h with h
          subst h
          subst hS74
          show St.le _ _
          exact le_sparse rfl ⟨lR _, lR _, lR _, trivial⟩ ⟨rfl, trivial⟩ rfl
        ·clear hy70
         subst hS74
         replace h := of_let h
         obtain ⟨w75, hw75, h⟩ := h
         have hw75 : w75 = y69 := hw75
         subst hw75
         cbv
         refine fork (fun b87 => ?_) (fun b87 => ?_)
         ·replace h := of_br_t b87 h
          cbv
          replace h := of_bind h
          obtain ⟨r84, h85, he86⟩ := h
          injection he86 with he86
          subst he86
          injection hz42 with hz42
          subst hz42
          have h := h85
          replace h := of_bind h
          obtain ⟨r81, h82, he83⟩ := h
          injection he83 with he83
          subst he83
          injection hz6 with hz6
          subst hz6
          have h := h82
          injection h with h
          subst h
          refine ⟨(sparse 309 [(8, .c (.v (.int .i64 1)))] [(5, .var [.v (.int .i64 a0.gwant), .bs (LEN a0.gdone.fCells) 4 (row GD (encCell LEN GD) a0.gdone.fCells), .v (.bool a0.gopen), .v (.string a0.gcell.fName), .bs (LEN a0.gcell.fShapes) 5 (row GD (encShape) a0.gcell.fShapes), .bs (LEN a0.gcell.fLabels) 4 (row GD (encLabel) a0.gcell.fLabels), .bs (LEN a0.gcell.fInstances) 8 (row GD (encInstance) a0.gcell.fInstances), .v (.int .i64 a0.gkind), .v (.bool a0.gended)])]), ?_, ?_⟩
          ·exact le_sparse rfl ⟨lR _, trivial⟩ ⟨rfl, trivial⟩ rfl
          ·exact ⟨lR _, ⟨rfl, trivial⟩, rfl⟩
         ·replace h := of_br_f b87 h
          cbv
          injection h with h
          subst h
          subst hS44
          show St.le _ _
          refine St.le_trans (le_nilVb 5 4 5 (row GD (encShape) ([] : List TShape)) rfl rfl) ?_
          refine St.le_trans (le_nilVb 5 5 4 (row GD (encLabel) ([] : List TLabel)) rfl rfl) ?_
          refine St.le_trans (le_nilVb 5 6 8 (row GD (encInstance) ([] : List TInstance)) rfl rfl) ?_
          subst hLEN
          exact le_sparse rfl trivial ⟨rfl, trivial⟩ rfl
     ·replace h := of_br_f b438 h
      cbv
      replace h := of_bind h
      obtain ⟨z91, hy90, hz92⟩ := h
      obtain ⟨S93, hS94⟩ : ∃ S, S = (match z91 with | .inl _ => none | .inr y89 => some (sparse 309 [] [(5, .var [.v (.int .i64 a0.gwant), .bs (LEN y89.2.1) 4 (row GD (encCell LEN GD) y89.2.1), .v (.bool y89.2.2.1), .v (.string a0.gcell.fName), .bs (LEN y89.1) 5 (row GD (encShape) y89.1), .bs (LEN y89.2.2.2.1) 4 (row GD (encLabel) y89.2.2.2.1), .bs (LEN y89.2.2.2.2.1) 8 (row GD (encInstance) y89.2.2.2.2.1), .v (.int .i64 y89.2.2.2.2.2.1), .v (.bool y89.2.2.2.2.2.2)])])) := ⟨_, rfl⟩
      refine ⟨S93, ?_, ?_⟩
      ·have h := hy90
       clear hy90
       cbv
       refine fork (fun b437 => ?_) (fun b437 => ?_)
       ·replace h := of_br_t b437 h
        cbv
        replace h := of_bind h
        obtain ⟨y102, hy103, h⟩ := h
        refine ⟨{ args := [.c (.ptr 5 0)], o0 := [(5, .var [.v (.string a2), .v (.int .i64 0), .v (.bool false)])], r := .agg [.v (.int .i64 y102.1.fLayer), .v (.int .i64 y102.1.fBox.fX0), .v (.int .i64 y102.1.fBox.fY0), .v (.int .i64 y102.1.fBox.fX1), .v (.int .i64 y102.1.fBox.fY1)], o1 := [(5, .var [.v (.string y102.2.gs), .v (.int .i64 y102.2.gat), .v (.bool y102.2.gbad)])], fl := true, σ := [(5, 1536)], τ := [(5, 1536)] }, hf_spec_l13GetShape_mPb _ _ hy103, ⟨les_cons (lR _) (les_nil), ⟨rfl, trivial⟩, rfl, rfl, rfl, rfl, ⟨fun _ => rfl, trivial⟩, rfl⟩, ?_⟩
        cbv
        replace h := of_bind h
        obtain ⟨y104, hy105, h⟩ := h
        obtain ⟨S108, hS109⟩ : ∃ S, S = (sparse 309 [(0, .c (.ptr 5 0)), (12, .c (.ptr 768 0)), (106, .c (.v (.bool y104)))] [(5, .var [.v (.int .i64 a0.gwant), .bs (LEN a0.gdone.fCells) 4 (row GD (encCell LEN GD) a0.gdone.fCells), .v (.bool a0.gopen), .v (.string a0.gcell.fName), .bs (LEN a0.gcell.fShapes) 5 (row GD (encShape) a0.gcell.fShapes), .bs (LEN a0.gcell.fLabels) 4 (row GD (encLabel) a0.gcell.fLabels), .bs (LEN a0.gcell.fInstances) 8 (row GD (encInstance) a0.gcell.fInstances), .v (.int .i64 a0.gkind), .v (.bool a0.gended)]), (768, .var [.v (.int .i64 y102.1.fLayer), .v (.int .i64 y102.1.fBox.fX0), .v (.int .i64 y102.1.fBox.fY0), .v (.int .i64 y102.1.fBox.fX1), .v (.int .i64 y102.1.fBox.fY1)])]) := ⟨_, rfl⟩
        refine ⟨S108, ?_, ?_⟩
        ·clear h
         have h := hy105
         clear hy105
         cbv
         refine fork (fun b111 => ?_) (fun b111 => ?_)
         ·replace h := of_br_t b111 h
          cbv
          injection h with h
          subst h
          subst hS109
          show St.le _ _
          exact le_sparse rfl ⟨lR _, lR _, lR _, trivial⟩ ⟨rfl, rfl, trivial⟩ rfl
         ·replace h := of_br_f b111 h
          cbv
          injection h with h
          subst h
          subst hS109
          show St.le _ _
          exact le_sparse rfl ⟨lR _, lR _, lR _, trivial⟩ ⟨rfl, rfl, trivial⟩ rfl
        ·clear hy105
         subst hS109
         replace h := of_let h
         obtain ⟨w110, hw110, h⟩ := h
         have hw110 : w110 = y104 := hw110
         subst hw110
         cbv
         refine fork (fun b153 => ?_) (fun b153 => ?_)
         ·replace h := of_br_t b153 h
          cbv
          replace h := of_bind h
          obtain ⟨r118, h119, he120⟩ := h
          injection he120 with he120
          subst he120
          injection hz92 with hz92
          subst hz92
          have h := h119
          replace h := of_bind h
          obtain ⟨r115, h116, he117⟩ := h
          injection he117 with he117
          subst he117
          injection hz42 with hz42
          subst hz42
          have h := h116
          replace h := of_bind h
          obtain ⟨r112, h113, he114⟩ := h
          injection he114 with he114
          subst he114
          injection hz6 with hz6
          subst hz6
          have h := h113
          injection h with h
          subst h
          refine ⟨(sparse 309 [(8, .c (.v (.int .i64 4)))] [(5, .var [.v (.int .i64 a0.gwant), .bs (LEN a0.gdone.fCells) 4 (row GD (encCell LEN GD) a0.gdone.fCells), .v (.bool a0.gopen), .v (.string a0.gcell.fName), .bs (LEN a0.gcell.fShapes) 5 (row GD (encShape) a0.gcell.fShapes), .bs (LEN a0.gcell.fLabels) 4 (row GD (encLabel) a0.gcell.fLabels), .bs (LEN a0.gcell.fInstances) 8 (row GD (encInstance) a0.gcell.fInstances), .v (.int .i64 a0.gkind), .v (.bool a0.gended)])]), ?_, ?_⟩
          ·exact le_sparse rfl ⟨lR _, trivial⟩ ⟨rfl, trivial⟩ rfl
          ·exact ⟨lR _, ⟨rfl, trivial⟩, rfl⟩
         ·replace h := of_br_f b153 h
          cbv
          refine fork (fun b152 => ?_) (fun b152 => ?_)
          ·replace h := of_br_t b152 h
           cbv
           replace h := of_bind h
           obtain ⟨r127, h128, he129⟩ := h
           injection he129 with he129
           subst he129
           injection hz92 with hz92
           subst hz92
           have h := h128
           replace h := of_bind h
           obtain ⟨r124, h125, he126⟩ := h
           injection he126 with he126
           subst he126
           injection hz42 with hz42
           subst hz42
           have h := h125
           replace h := of_bind h
           obtain ⟨r121, h122, he123⟩ := h
           injection he123 with he123
           subst he123
           injection hz6 with hz6
           subst hz6
           have h := h122
           injection h with h
           subst h
           refine ⟨(sparse 309 [(8, .c (.v (.int .i64 3)))] [(5, .var [.v (.int .i64 a0.gwant), .bs (LEN a0.gdone.fCells) 4 (row GD (encCell LEN GD) a0.gdone.fCells), .v (.bool a0.gopen), .v (.string a0.gcell.fName), .bs (LEN a0.gcell.fShapes) 5 (row GD (encShape) a0.gcell.fShapes), .bs (LEN a0.gcell.fLabels) 4 (row GD (encLabel) a0.gcell.fLabels), .bs (LEN a0.gcell.fInstances) 8 (row GD (encInstance) a0.gcell.fInstances), .v (.int .i64 a0.gkind), .v (.bool a0.gended)])]), ?_, ?_⟩
           ·exact le_sparse rfl ⟨lR _, trivial⟩ ⟨rfl, trivial⟩ rfl
           ·exact ⟨lR _, ⟨rfl, trivial⟩, rfl⟩
          ·replace h := of_br_f b152 h
           cbv
           replace h := of_bind h
           obtain ⟨y130, hy131, h⟩ := h
           refine ⟨{ args := [.agg [.v (.int .i64 y102.1.fLayer), .v (.int .i64 y102.1.fBox.fX0), .v (.int .i64 y102.1.fBox.fY0), .v (.int .i64 y102.1.fBox.fX1), .v (.int .i64 y102.1.fBox.fY1)]], o0 := [], r := .c (.v (.bool y130)), o1 := [], fl := true, σ := [], τ := [] }, hf_spec_l09Shape _ _ hy131, ⟨les_cons (lR _) (les_nil), trivial, rfl, rfl, rfl, rfl, trivial, rfl⟩, ?_⟩
           cbv
           refine fork (fun b151 => ?_) (fun b151 => ?_)
           ·replace h := of_br_t b151 h
            cbv
            replace h := of_bind h
            obtain ⟨r138, h139, he140⟩ := h
            injection he140 with he140
            subst he140
            injection hz92 with hz92
            subst hz92
            have h := h139
            replace h := of_bind h
            obtain ⟨r135, h136, he137⟩ := h
            injection he137 with he137
            subst he137
            injection hz42 with hz42
            subst hz42
            have h := h136
            replace h := of_bind h
            obtain ⟨r132, h133, he134⟩ := h
            injection he134 with he134
            subst he134
            injection hz6 with hz6
            subst hz6
            have h := h133
            injection h with h
            subst h
            refine ⟨(sparse 309 [(8, .c (.v (.int .i64 1)))] [(5, .var [.v (.int .i64 a0.gwant), .bs (LEN a0.gdone.fCells) 4 (row GD (encCell LEN GD) a0.gdone.fCells), .v (.bool a0.gopen), .v (.string a0.gcell.fName), .bs (LEN a0.gcell.fShapes) 5 (row GD (encShape) a0.gcell.fShapes), .bs (LEN a0.gcell.fLabels) 4 (row GD (encLabel) a0.gcell.fLabels), .bs (LEN a0.gcell.fInstances) 8 (row GD (encInstance) a0.gcell.fInstances), .v (.int .i64 a0.gkind), .v (.bool a0.gended)])]), ?_, ?_⟩
            ·exact le_sparse rfl ⟨lR _, trivial⟩ ⟨rfl, trivial⟩ rfl
            ·exact ⟨lR _, ⟨rfl, trivial⟩, rfl⟩
           ·replace h := of_br_f b151 h
            cbv
            replace h := of_let h
            obtain ⟨l141, hl141, h⟩ := h
            have e142 : 0 = LEN l141 := by subst hl141 hLEN; rfl
            refine ⟨_, congrArg (fun n => AV.c (AC.os 7552 0 n)) e142, _, row GD (encShape) l141, e142, wkOf ?_, ?_⟩
            ·intro i hi j hj
             rw [← e142] at hi
             subst hl141
             subst hGD
             omega
            cbv
            replace h := of_req h
            obtain ⟨c145, h⟩ := h
            replace h := of_let h
            obtain ⟨l143, hl143, h⟩ := h
            have e144 : A.nadd (LEN l141) (LEN a0.gcell.fShapes) = LEN l143 := by subst hl143 hLEN hA; simp [std, len]
            refine ⟨c145, _, congrArg (fun n => AV.c (AC.os 7552 0 n)) e144, _, row GD (encShape) l143, e144, wkOf ?_, ?_⟩
            ·subst hGD hLEN hA
             exact app_bs (pl_encShape) hl143 (Nat.le_refl _)
            cbv
            replace h := of_let h
            obtain ⟨l146, hl146, h⟩ := h
            have e147 : 1 = LEN l146 := by subst hl146 hLEN; rfl
            refine ⟨_, congrArg (fun n => AV.c (AC.os 8064 0 n)) e147, _, row GD (encShape) l146, e147, wkOf ?_, ?_⟩
            ·intro i hi j hj
             rw [← e147] at hi
             subst hl146
             subst hGD
             obtain rfl : i = 0 := (by omega) <;> obtain rfl | rfl | rfl | rfl | rfl : j = 0 ∨ j = 1 ∨ j = 2 ∨ j = 3 ∨ j = 4 := (by omega)
             all_goals rfl
            cbv
            replace h := of_req h
            obtain ⟨c150, h⟩ := h
            replace h := of_let h
            obtain ⟨l148, hl148, h⟩ := h
            have e149 : A.nadd (LEN l143) (LEN l146) = LEN l148 := by subst hl148 hLEN hA; simp [std, len]
            refine ⟨c150, _, congrArg (fun n => AV.c (AC.os 7552 0 n)) e149, _, row GD (encShape) l148, e149, wkOf ?_, ?_⟩
            ·subst hGD hLEN hA
             exact app_os (off := 0) (pl_encShape) hl148 (Nat.le_refl _)
            cbv
            injection h with h
            subst h
            subst hS94
            show St.le _ _
            refine St.le_trans (le_fz 7552 (row GD (encShape) l148) rfl (fun _ _ => lent_plain (pl_encShape _ _))) ?_
            exact le_sparse rfl trivial ⟨rfl, trivial⟩ rfl
       ·replace h := of_br_f b437 h
        cbv
        replace h := of_bind h
        obtain ⟨z156, hy155, hz157⟩ := h
        obtain ⟨S158, hS159⟩ : ∃ S, S = (match z156 with | .inl _ => none | .inr y154 => some (sparse 309 [] [(5, .var [.v (.int .i64 a0.gwant), .bs (LEN y154.2.2.1) 4 (row GD (encCell LEN GD) y154.2.2.1), .v (.bool y154.2.2.2.1), .v (.string a0.gcell.fName), .bs (LEN a0.gcell.fShapes) 5 (row GD (encShape) a0.gcell.fShapes), .bs (LEN y154.1) 4 (row GD (encLabel) y154.1), .bs (LEN y154.2.2.2.2.1) 8 (row GD (encInstance) y154.2.2.2.2.1), .v (.int .i64 y154.2.1), .v (.bool y154.2.2.2.2.2)])])) := ⟨_, rfl⟩
        refine ⟨S158, ?_, ?_⟩
        ·have h := hy155
         clear hy155
         cbv
         refine fork (fun b436 => ?_) (fun b436 => ?_)
         ·replace h := of_br_t b436 h
          cbv
          replace h := of_bind h
          obtain ⟨y166, hy167, h⟩ := h
          refine ⟨{ args := [.c (.ptr 5 0)], o0 := [(5, .var [.v (.string a2), .v (.int .i64 0), .v (.bool false)])], r := .agg [.v (.int .i64 y166.1.fLayer), .v (.int .i64 y166.1.fAt.fX), .v (.int .i64 y166.1.fAt.fY), .v (.string y166.1.fName)], o1 := [(5, .var [.v (.string y166.2.gs), .v (.int .i64 y166.2.gat), .v (.bool y166.2.gbad)])], fl := true, σ := [(5, 1536)], τ := [(5, 1536)] }, hf_spec_l13GetLabel_mPb _ _ hy167, ⟨les_cons (lR _) (les_nil), ⟨rfl, trivial⟩, rfl, rfl, rfl, rfl, ⟨fun _ => rfl, trivial⟩, rfl⟩, ?_⟩
          cbv
          replace h := of_bind h
          obtain ⟨y168, hy169, h⟩ := h
          obtain ⟨S172, hS173⟩ : ∃ S, S = (sparse 309 [(0, .c (.ptr 5 0)), (13, .c (.ptr 832 0)), (147, .c (.v (.bool y168)))] [(5, .var [.v (.int .i64 a0.gwant), .bs (LEN a0.gdone.fCells) 4 (row GD (encCell LEN GD) a0.gdone.fCells), .v (.bool a0.gopen), .v (.string a0.gcell.fName), .bs (LEN a0.gcell.fShapes) 5 (row GD (encShape) a0.gcell.fShapes), .bs (LEN a0.gcell.fLabels) 4 (row GD (encLabel) a0.gcell.fLabels), .bs (LEN a0.gcell.fInstances) 8 (row GD (encInstance) a0.gcell.fInstances), .v (.int .i64 a0.gkind), .v (.bool a0.gended)]), (832, .var [.v (.int .i64 y166.1.fLayer), .v (.int .i64 y166.1.fAt.fX), .v (.int .i64 y166.1.fAt.fY), .v (.string y166.1.fName)])]) := ⟨_, rfl⟩
          refine ⟨S172, ?_, ?_⟩
          ·clear h
           have h := hy169
           clear hy169
           cbv
           refine fork (fun b175 => ?_) (fun b175 => ?_)
           ·replace h := of_br_t b175 h
            cbv
            injection h with h
            subst h
            subst hS173
            show St.le _ _
            exact le_sparse rfl ⟨lR _, lR _, lR _, trivial⟩ ⟨rfl, rfl, trivial⟩ rfl
           ·replace h := of_br_f b175 h
            cbv
            injection h with h
            subst h
            subst hS173
            show St.le _ _
            exact le_sparse rfl ⟨lR _, lR _, lR _, trivial⟩ ⟨rfl, rfl, trivial⟩ rfl
          ·clear hy169
           subst hS173
           replace h := of_let h
           obtain ⟨w174, hw174, h⟩ := h
           have hw174 : w174 = y168 := hw174
           subst hw174
           cbv
           refine fork (fun b226 => ?_) (fun b226 => ?_)
           ·replace h := of_br_t b226 h
            cbv
            replace h := of_bind h
            obtain ⟨r185, h186, he187⟩ := h
            injection he187 with he187
            subst he187
            injection hz157 with hz157
            subst hz157
            have h := h186
            replace h := of_bind h
            obtain ⟨r182, h183, he184⟩ := h
            injection he184 with he184
            subst he184
            injection hz92 with hz92
            subst hz92
            have h := h183
            replace h := of_bind h
            obtain ⟨r179, h180, he181⟩ := h
            injection he181 with he181
            subst he181
            injection hz42 with hz42
            subst hz42
            have h := h180
            replace h := of_bind h
            obtain ⟨r176, h177, he178⟩ := h
            injection he178 with he178
            subst he178
            injection hz6 with hz6
            subst hz6
            have h := h177
            injection h with h
            subst h
            refine ⟨(sparse 309 [(8, .c (.v (.int .i64 4)))] [(5, .var [.v (.int .i64 a0.gwant), .bs (LEN a0.gdone.fCells) 4 (row GD (encCell LEN GD) a0.gdone.fCells), .v (.bool a0.gopen), .v (.string a0.gcell.fName), .bs (LEN a0.gcell.fShapes) 5 (row GD (encShape) a0.gcell.fShapes), .bs (LEN a0.gcell.fLabels) 4 (row GD (encLabel) a0.gcell.fLabels), .bs (LEN a0.gcell.fInstances) 8 (row GD (encInstance) a0.gcell.fInstances), .v (.int .i64 a0.gkind), .v (.bool a0.gended)])]), ?_, ?_⟩
            ·exact le_sparse rfl ⟨lR _, trivial⟩ ⟨rfl, trivial⟩ rfl
            ·exact ⟨lR _, ⟨rfl, trivial⟩, rfl⟩
           ·replace h := of_br_f b226 h
            cbv
            refine fork (fun b225 => ?_) (fun b225 => ?_)
            ·replace h := of_br_t b225 h
             cbv
             replace h := of_bind h
             obtain ⟨r197, h198, he199⟩ := h
             injection he199 with he199
             subst he199
             injection hz157 with hz157
             subst hz157
             have h := h198
             replace h := of_bind h
             obtain ⟨r194, h195, he196⟩ := h
             injection he196 with he196
             subst he196
             injection hz92 with hz92
             subst hz92
             have h := h195
             replace h := of_bind h
             obtain ⟨r191, h192, he193⟩ := h
             injection he193 with he193
             subst he193
             injection hz42 with hz42
             subst hz42
             have h := h192
             replace h := of_bind h
             obtain ⟨r188, h189, he190⟩ := h
             injection he190 with he190
             subst he190
             injection hz6 with hz6
             subst hz6
             have h := h189
             injection h with h
             subst h
             refine ⟨(sparse 309 [(8, .c (.v (.int .i64 3)))] [(5, .var [.v (.int .i64 a0.gwant), .bs (LEN a0.gdone.fCells) 4 (row GD (encCell LEN GD) a0.gdone.fCells), .v (.bool a0.gopen), .v (.string a0.gcell.fName), .bs (LEN a0.gcell.fShapes) 5 (row GD (encShape) a0.gcell.fShapes), .bs (LEN a0.gcell.fLabels) 4 (row GD (encLabel) a0.gcell.fLabels), .bs (LEN a0.gcell.fInstances) 8 (row GD (encInstance) a0.gcell.fInstances), .v (.int .i64 a0.gkind), .v (.bool a0.gended)])]), ?_, ?_⟩
             ·exact le_sparse rfl ⟨lR _, trivial⟩ ⟨rfl, trivial⟩ rfl
             ·exact ⟨lR _, ⟨rfl, trivial⟩, rfl⟩
            ·replace h := of_br_f b225 h
             cbv
             replace h := of_bind h
             obtain ⟨y200, hy201, h⟩ := h
             refine ⟨{ args := [.agg [.v (.int .i64 y166.1.fLayer), .v (.int .i64 y166.1.fAt.fX), .v (.int .i64 y166.1.fAt.fY), .v (.string y166.1.fName)]], o0 := [], r := .c (.v (.bool y200)), o1 := [], fl := true, σ := [], τ := [] }, hf_spec_l09Label _ _ hy201, ⟨les_cons (lR _) (les_nil), trivial, rfl, rfl, rfl, rfl, trivial, rfl⟩, ?_⟩
             cbv
             refine fork (fun b224 => ?_) (fun b224 => ?_)
             ·replace h := of_br_t b224 h
              cbv
              replace h := of_bind h
              obtain ⟨r211, h212, he213⟩ := h
              injection he213 with he213
              subst he213
              injection hz157 with hz157
              subst hz157
              have h := h212
              replace h := of_bind h
              obtain ⟨r208, h209, he210⟩ := h
              injection he210 with he210
              subst he210
              injection hz92 with hz92
              subst hz92
              have h := h209
              replace h := of_bind h
              obtain ⟨r205, h206, he207⟩ := h
              injection he207 with he207
              subst he207
              injection hz42 with hz42
              subst hz42
              have h := h206
              replace h := of_bind h
              obtain ⟨r202, h203, he204⟩ := h
              injection he204 with he204
              subst he204
              injection hz6 with hz6
              subst hz6
              have h := h203
              injection h with h
              subst h
              refine ⟨(sparse 309 [(8, .c (.v (.int .i64 1)))] [(5, .var [.v (.int .i64 a0.gwant), .bs (LEN a0.gdone.fCells) 4 (row GD (encCell LEN GD) a0.gdone.fCells), .v (.bool a0.gopen), .v (.string a0.gcell.fName), .bs (LEN a0.gcell.fShapes) 5 (row GD (encShape) a0.gcell.fShapes), .bs (LEN a0.gcell.fLabels) 4 (row GD (encLabel) a0.gcell.fLabels), .bs (LEN a0.gcell.fInstances) 8 (row GD (encInstance) a0.gcell.fInstances), .v (.int .i64 a0.gkind), .v (.bool a0.gended)])]), ?_, ?_⟩
              ·exact le_sparse rfl ⟨lR _, trivial⟩ ⟨rfl, trivial⟩ rfl
              ·exact ⟨lR _, ⟨rfl, trivial⟩, rfl⟩
             ·replace h := of_br_f b224 h
              cbv
              replace h := of_let h
              obtain ⟨l214, hl214, h⟩ := h
              have e215 : 0 = LEN l214 := by subst hl214 hLEN; rfl
              refine ⟨_, congrArg (fun n => AV.c (AC.os 10176 0 n)) e215, _, row GD (encLabel) l214, e215, wkOf ?_, ?_⟩
              ·intro i hi j hj
               rw [← e215] at hi
               subst hl214
               subst hGD
               omega
              cbv
              replace h := of_req h
              obtain ⟨c218, h⟩ := h
              replace h := of_let h
              obtain ⟨l216, hl216, h⟩ := h
              have e217 : A.nadd (LEN l214) (LEN a0.gcell.fLabels) = LEN l216 := by subst hl216 hLEN hA; simp [std, len]
              refine ⟨c218, _, congrArg (fun n => AV.c (AC.os 10176 0 n)) e217, _, row GD (encLabel) l216, e217, wkOf ?_, ?_⟩
              ·subst hGD hLEN hA
               exact app_bs (pl_encLabel) hl216 (Nat.le_refl _)
              cbv
              replace h := of_let h
              obtain ⟨l219, hl219, h⟩ := h
              have e220 : 1 = LEN l219 := by subst hl219 hLEN; rfl
              refine ⟨_, congrArg (fun n => AV.c (AC.os 10688 0 n)) e220, _, row GD (encLabel) l219, e220, wkOf ?_, ?_⟩
              ·intro i hi j hj
               rw [← e220] at hi
               subst hl219
               subst hGD
               obtain rfl : i = 0 := (by omega) <;> obtain rfl | rfl | rfl | rfl : j = 0 ∨ j = 1 ∨ j = 2 ∨ j = 3 := (by omega)
               all_goals rfl
              cbv
              replace h := of_req h
              obtain ⟨c223, h⟩ := h
              replace h := of_let h
              obtain ⟨l221, hl221, h⟩ := h
              have e222 : A.nadd (LEN l216) (LEN l219) = LEN l221 := by subst hl221 hLEN hA; simp [std, len]
              refine ⟨c223, _, congrArg (fun n => AV.c (AC.os 10176 0 n)) e222, _, row GD (encLabel) l221, e222, wkOf ?_, ?_⟩
              ·subst hGD hLEN hA
               exact app_os (off := 0) (pl_encLabel) hl221 (Nat.le_refl _)
              cbv
              injection h with h
              subst h
              subst hS159
              show St.le _ _
              refine St.le_trans (le_fz 10176 (row GD (encLabel) l221) rfl (fun _ _ => lent_plain (pl_encLabel _ _))) ?_
              exact le_sparse rfl trivial ⟨rfl, trivial⟩ rfl
         ·replace h := of_br_f b436 h
          cbv
          replace h := of_bind h
          obtain ⟨z229, hy228, hz230⟩ := h
          obtain ⟨S231, hS232⟩ : ∃ S, S = (match z229 with | .inl _ => none | .inr y227 => some (sparse 309 [] [(5, .var [.v (.int .i64 a0.gwant), .bs (LEN y227.2.2.1) 4 (row GD (encCell LEN GD) y227.2.2.1), .v (.bool y227.2.2.2.1), .v (.string a0.gcell.fName), .bs (LEN a0.gcell.fShapes) 5 (row GD (encShape) a0.gcell.fShapes), .bs (LEN a0.gcell.fLabels) 4 (row GD (encLabel) a0.gcell.fLabels), .bs (LEN y227.1) 8 (row GD (encInstance) y227.1), .v (.int .i64 y227.2.1), .v (.bool y227.2.2.2.2)])])) := ⟨_, rfl⟩
          refine ⟨S231, ?_, ?_⟩
          ·have h := hy228
           clear hy228
           cbv
           refine fork (fun b435 => ?_) (fun b435 => ?_)
           ·replace h := of_br_t b435 h
            cbv
            replace h := of_bind h
            obtain ⟨y238, hy239, h⟩ := h
            refine ⟨{ args := [.c (.ptr 5 0)], o0 := [(5, .var [.v (.string a2), .v (.int .i64 0), .v (.bool false)])], r := .c (.v (.string y238.1)), o1 := [(5, .var [.v (.string y238.2.gs), .v (.int .i64 y238.2.gat), .v (.bool y238.2.gbad)])], fl := true, σ := [(5, 1536)], τ := [(5, 1536)] }, hf_spec_l13GetName_mPb _ _ hy239, ⟨les_cons (lR _) (les_nil), ⟨rfl, trivial⟩, rfl, rfl, rfl, rfl, ⟨fun _ => rfl, trivial⟩, rfl⟩, ?_⟩
            cbv
            replace h := of_bind h
            obtain ⟨y240, hy241, h⟩ := h
            refine ⟨{ args := [.c (.v (.int .i64 0))], o0 := [], r := .c (.v (.string y240)), o1 := [], fl := true, σ := [], τ := [] }, hf_spec_l13Byte _ _ hy241, ⟨les_cons (lR _) (les_nil), trivial, rfl, rfl, rfl, rfl, trivial, rfl⟩, ?_⟩
            cbv
            replace h := of_req h
            obtain ⟨c242, h⟩ := h
            refine ⟨c242, ?_⟩
            replace h := of_req h
            obtain ⟨c243, h⟩ := h
            refine ⟨c243, ?_⟩
            replace h := of_bind h
            obtain ⟨y244, hy245, h⟩ := h
            refine ⟨{ args := [.c (.ptr 5 0)], o0 := [(5, .var [.v (.string (A.scat y240 (A.ssub a2 (A.toN y238.2.gat) (A.slen a2)))), .v (.int .i64 0), .v (.bool false)])], r := .agg [.v (.int .i64 y244.1.fCell), .v (.int .i64 y244.1.fPlace.fOrientation), .v (.int .i64 y244.1.fPlace.fX), .v (.int .i64 y244.1.fPlace.fY), .v (.int .i64 y244.1.fColumns), .v (.int .i64 y244.1.fRows), .v (.int .i64 y244.1.fStepX), .v (.int .i64 y244.1.fStepY)], o1 := [(5, .var [.v (.string y244.2.gs), .v (.int .i64 y244.2.gat), .v (.bool y244.2.gbad)])], fl := true, σ := [(5, 12032)], τ := [(5, 12032)] }, hf_spec_l13GetInstance_mPb _ _ hy245, ⟨les_cons (lR _) (les_nil), ⟨rfl, trivial⟩, rfl, rfl, rfl, rfl, ⟨fun _ => rfl, trivial⟩, rfl⟩, ?_⟩
            cbv
            replace h := of_bind h
            obtain ⟨y246, hy247, h⟩ := h
            obtain ⟨S250, hS251⟩ : ∃ S, S = (sparse 309 [(0, .c (.ptr 5 0)), (10, .c (.v (.int .i64 (A.ofN (LEN a0.gdone.fCells))))), (14, .c (.v (.string y238.1))), (16, .c (.ptr 1024 0)), (212, .c (.v (.bool y246)))] [(5, .var [.v (.int .i64 a0.gwant), .bs (LEN a0.gdone.fCells) 4 (row GD (encCell LEN GD) a0.gdone.fCells), .v (.bool a0.gopen), .v (.string a0.gcell.fName), .bs (LEN a0.gcell.fShapes) 5 (row GD (encShape) a0.gcell.fShapes), .bs (LEN a0.gcell.fLabels) 4 (row GD (encLabel) a0.gcell.fLabels), .bs (LEN a0.gcell.fInstances) 8 (row GD (encInstance) a0.gcell.fInstances), .v (.int .i64 a0.gkind), .v (.bool a0.gended)]), (1024, .var [.v (.int .i64 y244.1.fCell), .v (.int .i64 y244.1.fPlace.fOrientation), .v (.int .i64 y244.1.fPlace.fX), .v (.int .i64 y244.1.fPlace.fY), .v (.int .i64 y244.1.fColumns), .v (.int .i64 y244.1.fRows), .v (.int .i64 y244.1.fStepX), .v (.int .i64 y244.1.fStepY)])]) := ⟨_, rfl⟩
            refine ⟨S250, ?_, ?_⟩
            ·clear h
             have h := hy247
             clear hy247
             cbv
             refine fork (fun b254 => ?_) (fun b254 => ?_)
             ·replace h := of_br_t b254 h
              cbv
              injection h with h
              subst h
              subst hS251
              show St.le _ _
              exact le_sparse rfl ⟨lR _, lR _, lR _, lR _, lR _, trivial⟩ ⟨rfl, rfl, trivial⟩ rfl
             ·replace h := of_br_f b254 h
              cbv
              refine fork (fun b253 => ?_) (fun b253 => ?_)
              ·replace h := of_br_t b253 h
               cbv
               injection h with h
               subst h
               subst hS251
               show St.le _ _
               exact le_sparse rfl ⟨lR _, lR _, lR _, lR _, lR _, trivial⟩ ⟨rfl, rfl, trivial⟩ rfl
              ·replace h := of_br_f b253 h
               cbv
               injection h with h
               subst h
               subst hS251
               show St.le _ _
               exact le_sparse rfl ⟨lR _, lR _, lR _, lR _, lR _, trivial⟩ ⟨rfl, rfl, trivial⟩ rfl
            ·clear hy247
             subst hS251
             replace h := of_let h
             obtain ⟨w252, hw252, h⟩ := h
             have hw252 : w252 = y246 := hw252
             subst hw252
             cbv
             refine fork (fun b332 => ?_) (fun b332 => ?_)
             ·replace h := of_br_t b332 h
              cbv
              replace h := of_bind h
              obtain ⟨r267, h268, he269⟩ := h
              injection he269 with he269
              subst he269
              injection hz230 with hz230
              subst hz230
              have h := h268
              replace h := of_bind h
              obtain ⟨r264, h265, he266⟩ := h
              injection he266 with he266
              subst he266
              injection hz157 with hz157
              subst hz157
              have h := h265
              replace h := of_bind h
              obtain ⟨r261, h262, he263⟩ := h
              injection he263 with he263
              subst he263
              injection hz92 with hz92
              subst hz92
              have h := h262
              replace h := of_bind h
              obtain ⟨r258, h259, he260⟩ := h
              injection he260 with he260
              subst he260
              injection hz42 with hz42
              subst hz42
              have h := h259
              replace h := of_bind h
              obtain ⟨r255, h256, he257⟩ := h
              injection he257 with he257
              subst he257
              injection hz6 with hz6
              subst hz6
              have h := h256
              injection h with h
              subst h
              refine ⟨(sparse 309 [(8, .c (.v (.int .i64 4)))] [(5, .var [.v (.int .i64 a0.gwant), .bs (LEN a0.gdone.fCells) 4 (row GD (encCell LEN GD) a0.gdone.fCells), .v (.bool a0.gopen), .v (.string a0.gcell.fName), .bs (LEN a0.gcell.fShapes) 5 (row GD (encShape) a0.gcell.fShapes), .bs (LEN a0.gcell.fLabels) 4 (row GD (encLabel) a0.gcell.fLabels), .bs (LEN a0.gcell.fInstances) 8 (row GD (encInstance) a0.gcell.fInstances), .v (.int .i64 a0.gkind), .v (.bool a0.gended)])]), ?_, ?_⟩
              ·exact le_sparse rfl ⟨lR _, trivial⟩ ⟨rfl, trivial⟩ rfl
              ·exact ⟨lR _, ⟨rfl, trivial⟩, rfl⟩
             ·replace h := of_br_f b332 h
              cbv
              refine fork (fun b331 => ?_) (fun b331 => ?_)
              ·replace h := of_br_t b331 h
               cbv
               replace h := of_bind h
               obtain ⟨r282, h283, he284⟩ := h
               injection he284 with he284
               subst he284
               injection hz230 with hz230
               subst hz230
               have h := h283
               replace h := of_bind h
               obtain ⟨r279, h280, he281⟩ := h
               injection he281 with he281
               subst he281
               injection hz157 with hz157
               subst hz157
               have h := h280
               replace h := of_bind h
               obtain ⟨r276, h277, he278⟩ := h
               injection he278 with he278
               subst he278
               injection hz92 with hz92
               subst hz92
               have h := h277
               replace h := of_bind h
               obtain ⟨r273, h274, he275⟩ := h
               injection he275 with he275
               subst he275
               injection hz42 with hz42
               subst hz42
               have h := h274
               replace h := of_bind h
               obtain ⟨r270, h271, he272⟩ := h
               injection he272 with he272
               subst he272
               injection hz6 with hz6
               subst hz6
               have h := h271
               injection h with h
               subst h
               refine ⟨(sparse 309 [(8, .c (.v (.int .i64 3)))] [(5, .var [.v (.int .i64 a0.gwant), .bs (LEN a0.gdone.fCells) 4 (row GD (encCell LEN GD) a0.gdone.fCells), .v (.bool a0.gopen), .v (.string a0.gcell.fName), .bs (LEN a0.gcell.fShapes) 5 (row GD (encShape) a0.gcell.fShapes), .bs (LEN a0.gcell.fLabels) 4 (row GD (encLabel) a0.gcell.fLabels), .bs (LEN a0.gcell.fInstances) 8 (row GD (encInstance) a0.gcell.fInstances), .v (.int .i64 a0.gkind), .v (.bool a0.gended)])]), ?_, ?_⟩
               ·exact le_sparse rfl ⟨lR _, trivial⟩ ⟨rfl, trivial⟩ rfl
               ·exact ⟨lR _, ⟨rfl, trivial⟩, rfl⟩
              ·replace h := of_br_f b331 h
               cbv
               replace h := of_bind h
               obtain ⟨y285, hy286, h⟩ := h
               refine ⟨{ args := [.c (.bp 9 (encl14State LEN GD a0)), .c (.v (.string y238.1))], o0 := [], r := .c (.v (.int .i64 y285)), o1 := [], fl := true, σ := [], τ := [] }, hf_spec_l14Known_mpb _ _ _ hy286, ⟨les_cons (le_bp (show 9 ≤ 9 from by decide) (by intro j hj; match j, hj with | 0, _ => exact rle_refl _ | 1, _ => exact rle_refl _ | 2, _ => exact rle_refl _ | 3, _ => exact rle_refl _ | 4, _ => exact rle_refl _ | 5, _ => exact rle_refl _ | 6, _ => exact rle_refl _ | 7, _ => exact rle_refl _ | 8, _ => exact rle_refl _ | (j_ + 9), h_ => exact absurd h_ (by omega))) (les_cons (lR _) (les_nil)), trivial, rfl, rfl, rfl, rfl, trivial, rfl⟩, ?_⟩
               cbv
               refine fork (fun b330 => ?_) (fun b330 => ?_)
               ·replace h := of_br_t b330 h
                cbv
                replace h := of_bind h
                obtain ⟨r299, h300, he301⟩ := h
                injection he301 with he301
                subst he301
                injection hz230 with hz230
                subst hz230
                have h := h300
                replace h := of_bind h
                obtain ⟨r296, h297, he298⟩ := h
                injection he298 with he298
                subst he298
                injection hz157 with hz157
                subst hz157
                have h := h297
                replace h := of_bind h
                obtain ⟨r293, h294, he295⟩ := h
                injection he295 with he295
                subst he295
                injection hz92 with hz92
                subst hz92
                have h := h294
                replace h := of_bind h
                obtain ⟨r290, h291, he292⟩ := h
                injection he292 with he292
                subst he292
                injection hz42 with hz42
                subst hz42
                have h := h291
                replace h := of_bind h
                obtain ⟨r287, h288, he289⟩ := h
                injection he289 with he289
                subst he289
                injection hz6 with hz6
                subst hz6
                have h := h288
                injection h with h
                subst h
                refine ⟨(sparse 309 [(8, .c (.v (.int .i64 5)))] [(5, .var [.v (.int .i64 a0.gwant), .bs (LEN a0.gdone.fCells) 4 (row GD (encCell LEN GD) a0.gdone.fCells), .v (.bool a0.gopen), .v (.string a0.gcell.fName), .bs (LEN a0.gcell.fShapes) 5 (row GD (encShape) a0.gcell.fShapes), .bs (LEN a0.gcell.fLabels) 4 (row GD (encLabel) a0.gcell.fLabels), .bs (LEN a0.gcell.fInstances) 8 (row GD (encInstance) a0.gcell.fInstances), .v (.int .i64 a0.gkind), .v (.bool a0.gended)])]), ?_, ?_⟩
                ·exact le_sparse rfl ⟨lR _, trivial⟩ ⟨rfl, trivial⟩ rfl
                ·exact ⟨lR _, ⟨rfl, trivial⟩, rfl⟩
               ·replace h := of_br_f b330 h
                cbv
                replace h := of_bind h
                obtain ⟨y302, hy303, h⟩ := h
                refine ⟨{ args := [.agg [.v (.int .i64 y285), .v (.int .i64 y244.1.fPlace.fOrientation), .v (.int .i64 y244.1.fPlace.fX), .v (.int .i64 y244.1.fPlace.fY), .v (.int .i64 y244.1.fColumns), .v (.int .i64 y244.1.fRows), .v (.int .i64 y244.1.fStepX), .v (.int .i64 y244.1.fStepY)], .c (.v (.int .i64 (A.ofN (LEN a0.gdone.fCells))))], o0 := [], r := .c (.v (.bool y302)), o1 := [], fl := true, σ := [], τ := [] }, hf_spec_l09Instance _ _ _ hy303, ⟨les_cons (lR _) (les_cons (lR _) (les_nil)), trivial, rfl, rfl, rfl, rfl, trivial, rfl⟩, ?_⟩
                cbv
                refine fork (fun b329 => ?_) (fun b329 => ?_)
                ·replace h := of_br_t b329 h
                 cbv
                 replace h := of_bind h
                 obtain ⟨r316, h317, he318⟩ := h
                 injection he318 with he318
                 subst he318
                 injection hz230 with hz230
                 subst hz230
                 have h := h317
                 replace h := of_bind h
                 obtain ⟨r313, h314, he315⟩ := h
                 injection he315 with he315
                 subst he315
                 injection hz157 with hz157
                 subst hz157
                 have h := h314
                 replace h := of_bind h
                 obtain ⟨r310, h311, he312⟩ := h
                 injection he312 with he312
                 subst he312
                 injection hz92 with hz92
                 subst hz92
                 have h := h311
                 replace h := of_bind h
                 obtain ⟨r307, h308, he309⟩ := h
                 injection he309 with he309
                 subst he309
                 injection hz42 with hz42
                 subst hz42
                 have h := h308
                 replace h := of_bind h
                 obtain ⟨r304, h305, he306⟩ := h
                 injection he306 with he306
                 subst he306
                 injection hz6 with hz6
                 subst hz6
                 have h := h305
                 injection h with h
                 subst h
                 refine ⟨(sparse 309 [(8, .c (.v (.int .i64 1)))] [(5, .var [.v (.int .i64 a0.gwant), .bs (LEN a0.gdone.fCells) 4 (row GD (encCell LEN GD) a0.gdone.fCells), .v (.bool a0.gopen), .v (.string a0.gcell.fName), .bs (LEN a0.gcell.fShapes) 5 (row GD (encShape) a0.gcell.fShapes), .bs (LEN a0.gcell.fLabels) 4 (row GD (encLabel) a0.gcell.fLabels), .bs (LEN a0.gcell.fInstances) 8 (row GD (encInstance) a0.gcell.fInstances), .v (.int .i64 a0.gkind), .v (.bool a0.gended)])]), ?_, ?_⟩
                 ·exact le_sparse rfl ⟨lR _, trivial⟩ ⟨rfl, trivial⟩ rfl
                 ·exact ⟨lR _, ⟨rfl, trivial⟩, rfl⟩
                ·replace h := of_br_f b329 h
                 cbv
                 replace h := of_let h
                 obtain ⟨l319, hl319, h⟩ := h
                 have e320 : 0 = LEN l319 := by subst hl319 hLEN; rfl
                 refine ⟨_, congrArg (fun n => AV.c (AC.os 14848 0 n)) e320, _, row GD (encInstance) l319, e320, wkOf ?_, ?_⟩
                 ·intro i hi j hj
                  rw [← e320] at hi
                  subst hl319
                  subst hGD
                  omega
                 cbv
                 replace h := of_req h
                 obtain ⟨c323, h⟩ := h
                 replace h := of_let h
                 obtain ⟨l321, hl321, h⟩ := h
                 have e322 : A.nadd (LEN l319) (LEN a0.gcell.fInstances) = LEN l321 := by subst hl321 hLEN hA; simp [std, len]
                 refine ⟨c323, _, congrArg (fun n => AV.c (AC.os 14848 0 n)) e322, _, row GD (encInstance) l321, e322, wkOf ?_, ?_⟩
                 ·subst hGD hLEN hA
                  exact app_bs (pl_encInstance) hl321 (Nat.le_refl _)
                 cbv
                 replace h := of_let h
                 obtain ⟨l324, hl324, h⟩ := h
                 have e325 : 1 = LEN l324 := by subst hl324 hLEN; rfl
                 refine ⟨_, congrArg (fun n => AV.c (AC.os 15360 0 n)) e325, _, row GD (encInstance) l324, e325, wkOf ?_, ?_⟩
                 ·intro i hi j hj
                  rw [← e325] at hi
                  subst hl324
                  subst hGD
                  obtain rfl : i = 0 := (by omega) <;> obtain rfl | rfl | rfl | rfl | rfl | rfl | rfl | rfl : j = 0 ∨ j = 1 ∨ j = 2 ∨ j = 3 ∨ j = 4 ∨ j = 5 ∨ j = 6 ∨ j = 7 := (by omega)
                  all_goals rfl
                 cbv
                 replace h := of_req h
                 obtain ⟨c328, h⟩ := h
                 replace h := of_let h
                 obtain ⟨l326, hl326, h⟩ := h
                 have e327 : A.nadd (LEN l321) (LEN l324) = LEN l326 := by subst hl326 hLEN hA; simp [std, len]
                 refine ⟨c328, _, congrArg (fun n => AV.c (AC.os 14848 0 n)) e327, _, row GD (encInstance) l326, e327, wkOf ?_, ?_⟩
                 ·subst hGD hLEN hA
                  exact app_os (off := 0) (pl_encInstance) hl326 (Nat.le_refl _)
                 cbv
                 injection h with h
                 subst h
                 subst hS232
                 show St.le _ _
                 refine St.le_trans (le_fz 14848 (row GD (encInstance) l326) rfl (fun _ _ => lent_plain (pl_encInstance _ _))) ?_
                 exact le_sparse rfl trivial ⟨rfl, trivial⟩ rfl
           ·replace h := of_br_f b435 h
            cbv
            replace h := of_bind h
            obtain ⟨z335, hy334, hz336⟩ := h
            obtain ⟨S337, hS338⟩ : ∃ S, S = (match z335 with | .inl _ => none | .inr y333 => some (sparse 309 [] [(5, .var [.v (.int .i64 a0.gwant), .bs (LEN y333.1) 4 (row GD (encCell LEN GD) y333.1), .v (.bool y333.2.1), .v (.string a0.gcell.fName), .bs (LEN a0.gcell.fShapes) 5 (row GD (encShape) a0.gcell.fShapes), .bs (LEN a0.gcell.fLabels) 4 (row GD (encLabel) a0.gcell.fLabels), .bs (LEN a0.gcell.fInstances) 8 (row GD (encInstance) a0.gcell.fInstances), .v (.int .i64 a0.gkind), .v (.bool y333.2.2)])])) := ⟨_, rfl⟩
            refine ⟨S337, ?_, ?_⟩
            ·have h := hy334
             clear hy334
             cbv
             refine fork (fun b434 => ?_) (fun b434 => ?_)
             ·replace h := of_br_t b434 h
              cbv
              replace h := of_bind h
              obtain ⟨y342, hy343, h⟩ := h
              refine ⟨{ args := [.c (.v (.int .i64 (A.ofN (LEN a0.gcell.fShapes))))], o0 := [], r := .c (.v (.string y342)), o1 := [], fl := true, σ := [], τ := [] }, hf_spec_l13Byte _ _ hy343, ⟨les_cons (lR _) (les_nil), trivial, rfl, rfl, rfl, rfl, trivial, rfl⟩, ?_⟩
              cbv
              replace h := of_bind h
              obtain ⟨y344, hy345, h⟩ := h
              refine ⟨{ args := [.c (.v (.int .i64 (A.ofN (LEN a0.gcell.fLabels))))], o0 := [], r := .c (.v (.string y344)), o1 := [], fl := true, σ := [], τ := [] }, hf_spec_l13Byte _ _ hy345, ⟨les_cons (lR _) (les_nil), trivial, rfl, rfl, rfl, rfl, trivial, rfl⟩, ?_⟩
              cbv
              replace h := of_req h
              obtain ⟨c346, h⟩ := h
              refine ⟨c346, ?_⟩
              replace h := of_bind h
              obtain ⟨y347, hy348, h⟩ := h
              refine ⟨{ args := [.c (.v (.int .i64 (A.ofN (LEN a0.gcell.fInstances))))], o0 := [], r := .c (.v (.string y347)), o1 := [], fl := true, σ := [], τ := [] }, hf_spec_l13Byte _ _ hy348, ⟨les_cons (lR _) (les_nil), trivial, rfl, rfl, rfl, rfl, trivial, rfl⟩, ?_⟩
              cbv
              replace h := of_req h
              obtain ⟨c349, h⟩ := h
              refine ⟨c349, ?_⟩
              refine fork (fun b377 => ?_) (fun b377 => ?_)
              ·replace h := of_br_t b377 h
               cbv
               replace h := of_bind h
               obtain ⟨r365, h366, he367⟩ := h
               injection he367 with he367
               subst he367
               injection hz336 with hz336
               subst hz336
               have h := h366
               replace h := of_bind h
               obtain ⟨r362, h363, he364⟩ := h
               injection he364 with he364
               subst he364
               injection hz230 with hz230
               subst hz230
               have h := h363
               replace h := of_bind h
               obtain ⟨r359, h360, he361⟩ := h
               injection he361 with he361
               subst he361
               injection hz157 with hz157
               subst hz157
               have h := h360
               replace h := of_bind h
               obtain ⟨r356, h357, he358⟩ := h
               injection he358 with he358
               subst he358
               injection hz92 with hz92
               subst hz92
               have h := h357
               replace h := of_bind h
               obtain ⟨r353, h354, he355⟩ := h
               injection he355 with he355
               subst he355
               injection hz42 with hz42
               subst hz42
               have h := h354
               replace h := of_bind h
               obtain ⟨r350, h351, he352⟩ := h
               injection he352 with he352
               subst he352
               injection hz6 with hz6
               subst hz6
               have h := h351
               injection h with h
               subst h
               refine ⟨(sparse 309 [(8, .c (.v (.int .i64 4)))] [(5, .var [.v (.int .i64 a0.gwant), .bs (LEN a0.gdone.fCells) 4 (row GD (encCell LEN GD) a0.gdone.fCells), .v (.bool a0.gopen), .v (.string a0.gcell.fName), .bs (LEN a0.gcell.fShapes) 5 (row GD (encShape) a0.gcell.fShapes), .bs (LEN a0.gcell.fLabels) 4 (row GD (encLabel) a0.gcell.fLabels), .bs (LEN a0.gcell.fInstances) 8 (row GD (encInstance) a0.gcell.fInstances), .v (.int .i64 a0.gkind), .v (.bool a0.gended)])]), ?_, ?_⟩
               ·exact le_sparse rfl ⟨lR _, trivial⟩ ⟨rfl, trivial⟩ rfl
               ·exact ⟨lR _, ⟨rfl, trivial⟩, rfl⟩
              ·replace h := of_br_f b377 h
               cbv
               have e368 : 0 = LEN ([] : List TCell) := by subst hLEN; rfl
               refine ⟨_, congrArg (fun n => AV.c (AC.os 17728 0 n)) e368, _, row GD (oncCell LEN GD) ([] : List TCell), e368, wkOf ?_, ?_⟩
               ·intro i hi j hj
                rw [← e368] at hi
                subst hGD
                omega
               cbv
               replace h := of_req h
               obtain ⟨c371, h⟩ := h
               replace h := of_let h
               obtain ⟨l369, hl369, h⟩ := h
               have e370 : A.nadd (LEN ([] : List TCell)) (LEN a0.gdone.fCells) = LEN l369 := by subst hl369 hLEN hA; simp [std, len]
               refine ⟨c371, _, congrArg (fun n => AV.c (AC.os 17728 0 n)) e370, _, row GD (encCell LEN GD) l369, e370, wkOf ?_, ?_⟩
               ·subst hGD hLEN hA
                exact app_nil_bs (pl_encCell) hl369 (Nat.le_refl _)
               cbv
               replace h := of_let h
               obtain ⟨l372, hl372, h⟩ := h
               have e373 : 1 = LEN l372 := by subst hl372 hLEN; rfl
               refine ⟨_, congrArg (fun n => AV.c (AC.os 18432 0 n)) e373, _, row GD (encCell LEN GD) l372, e373, wkOf ?_, ?_⟩
               ·intro i hi j hj
                rw [← e373] at hi
                subst hl372
                subst hGD
                obtain rfl : i = 0 := (by omega) <;> obtain rfl | rfl | rfl | rfl : j = 0 ∨ j = 1 ∨ j = 2 ∨ j = 3 := (by omega)
                all_goals rfl
               cbv
               replace h := of_req h
               obtain ⟨c376, h⟩ := h
               replace h := of_let h
               obtain ⟨l374, hl374, h⟩ := h
               have e375 : A.nadd (LEN l369) (LEN l372) = LEN l374 := by subst hl374 hLEN hA; simp [std, len]
               refine ⟨c376, _, congrArg (fun n => AV.c (AC.os 17728 0 n)) e375, _, row GD (encCell LEN GD) l374, e375, wkOf ?_, ?_⟩
               ·subst hGD hLEN hA
                exact app_os (off := 0) (pl_encCell) hl374 (Nat.le_refl _)
               cbv
               injection h with h
               subst h
               subst hS338
               show St.le _ _
               refine St.le_trans (le_fz 17728 (row GD (encCell LEN GD) l374) rfl (fun _ _ => lent_plain (pl_encCell _ _))) ?_
               exact le_sparse rfl trivial ⟨rfl, trivial⟩ rfl
             ·replace h := of_br_f b434 h
              cbv
              replace h := of_bind h
              obtain ⟨z380, hy379, hz381⟩ := h
              obtain ⟨S382, hS383⟩ : ∃ S, S = (match z380 with | .inl _ => none | .inr y378 => some (sparse 309 [] [(5, .var [.v (.int .i64 a0.gwant), .bs (LEN a0.gdone.fCells) 4 (row GD (encCell LEN GD) a0.gdone.fCells), .v (.bool a0.gopen), .v (.string a0.gcell.fName), .bs (LEN a0.gcell.fShapes) 5 (row GD (encShape) a0.gcell.fShapes), .bs (LEN a0.gcell.fLabels) 4 (row GD (encLabel) a0.gcell.fLabels), .bs (LEN a0.gcell.fInstances) 8 (row GD (encInstance) a0.gcell.fInstances), .v (.int .i64 a0.gkind), .v (.bool y378)])])) := ⟨_, rfl⟩
              refine ⟨S382, ?_, ?_⟩
              ·have h := hy379
               clear hy379
               cbv
               refine fork (fun b433 => ?_) (fun b433 => ?_)
               ·replace h := of_br_t b433 h
                cbv
                refine fork (fun b432 => ?_) (fun b432 => ?_)
                ·replace h := of_br_t b432 h
                 cbv
                 replace h := of_bind h
                 obtain ⟨r403, h404, he405⟩ := h
                 injection he405 with he405
                 subst he405
                 injection hz381 with hz381
                 subst hz381
                 have h := h404
                 replace h := of_bind h
                 obtain ⟨r400, h401, he402⟩ := h
                 injection he402 with he402
                 subst he402
                 injection hz336 with hz336
                 subst hz336
                 have h := h401
                 replace h := of_bind h
                 obtain ⟨r397, h398, he399⟩ := h
                 injection he399 with he399
                 subst he399
                 injection hz230 with hz230
                 subst hz230
                 have h := h398
                 replace h := of_bind h
                 obtain ⟨r394, h395, he396⟩ := h
                 injection he396 with he396
                 subst he396
                 injection hz157 with hz157
                 subst hz157
                 have h := h395
                 replace h := of_bind h
                 obtain ⟨r391, h392, he393⟩ := h
                 injection he393 with he393
                 subst he393
                 injection hz92 with hz92
                 subst hz92
                 have h := h392
                 replace h := of_bind h
                 obtain ⟨r388, h389, he390⟩ := h
                 injection he390 with he390
                 subst he390
                 injection hz42 with hz42
                 subst hz42
                 have h := h389
                 replace h := of_bind h
                 obtain ⟨r385, h386, he387⟩ := h
                 injection he387 with he387
                 subst he387
                 injection hz6 with hz6
                 subst hz6
                 have h := h386
                 injection h with h
                 subst h
                 refine ⟨(sparse 309 [(8, .c (.v (.int .i64 4)))] [(5, .var [.v (.int .i64 a0.gwant), .bs (LEN a0.gdone.fCells) 4 (row GD (encCell LEN GD) a0.gdone.fCells), .v (.bool a0.gopen), .v (.string a0.gcell.fName), .bs (LEN a0.gcell.fShapes) 5 (row GD (encShape) a0.gcell.fShapes), .bs (LEN a0.gcell.fLabels) 4 (row GD (encLabel) a0.gcell.fLabels), .bs (LEN a0.gcell.fInstances) 8 (row GD (encInstance) a0.gcell.fInstances), .v (.int .i64 a0.gkind), .v (.bool a0.gended)])]), ?_, ?_⟩
                 ·exact le_sparse rfl ⟨lR _, trivial⟩ ⟨rfl, trivial⟩ rfl
                 ·exact ⟨lR _, ⟨rfl, trivial⟩, rfl⟩
                ·replace h := of_br_f b432 h
                 cbv
                 replace h := of_bind h
                 obtain ⟨y406, hy407, h⟩ := h
                 refine ⟨{ args := [.c (.v (.string a3))], o0 := [], r := .c (.v (.int .i64 y406)), o1 := [], fl := true, σ := [], τ := [] }, hf_spec_Checksum16 _ _ hy407, ⟨les_cons (lR _) (les_nil), trivial, rfl, rfl, rfl, rfl, trivial, rfl⟩, ?_⟩
                 cbv
                 replace h := of_bind h
                 obtain ⟨y408, hy409, h⟩ := h
                 refine ⟨{ args := [.c (.v (.int .i64 y406))], o0 := [], r := .c (.v (.string y408)), o1 := [], fl := true, σ := [], τ := [] }, hf_spec_l13Two _ _ hy409, ⟨les_cons (lR _) (les_nil), trivial, rfl, rfl, rfl, rfl, trivial, rfl⟩, ?_⟩
                 cbv
                 refine fork (fun b431 => ?_) (fun b431 => ?_)
                 ·replace h := of_br_t b431 h
                  cbv
                  replace h := of_bind h
                  obtain ⟨r428, h429, he430⟩ := h
                  injection he430 with he430
                  subst he430
                  injection hz381 with hz381
                  subst hz381
                  have h := h429
                  replace h := of_bind h
                  obtain ⟨r425, h426, he427⟩ := h
                  injection he427 with he427
                  subst he427
                  injection hz336 with hz336
                  subst hz336
                  have h := h426
                  replace h := of_bind h
                  obtain ⟨r422, h423, he424⟩ := h
                  injection he424 with he424
                  subst he424
                  injection hz230 with hz230
                  subst hz230
                  have h := h423
                  replace h := of_bind h
                  obtain ⟨r419, h420, he421⟩ := h
                  injection he421 with he421
                  subst he421
                  injection hz157 with hz157
                  subst hz157
                  have h := h420
                  replace h := of_bind h
                  obtain ⟨r416, h417, he418⟩ := h
                  injection he418 with he418
                  subst he418
                  injection hz92 with hz92
                  subst hz92
                  have h := h417
                  replace h := of_bind h
                  obtain ⟨r413, h414, he415⟩ := h
                  injection he415 with he415
                  subst he415
                  injection hz42 with hz42
                  subst hz42
                  have h := h414
                  replace h := of_bind h
                  obtain ⟨r410, h411, he412⟩ := h
                  injection he412 with he412
                  subst he412
                  injection hz6 with hz6
                  subst hz6
                  have h := h411
                  injection h with h
                  subst h
                  refine ⟨(sparse 309 [(8, .c (.v (.int .i64 8)))] [(5, .var [.v (.int .i64 a0.gwant), .bs (LEN a0.gdone.fCells) 4 (row GD (encCell LEN GD) a0.gdone.fCells), .v (.bool a0.gopen), .v (.string a0.gcell.fName), .bs (LEN a0.gcell.fShapes) 5 (row GD (encShape) a0.gcell.fShapes), .bs (LEN a0.gcell.fLabels) 4 (row GD (encLabel) a0.gcell.fLabels), .bs (LEN a0.gcell.fInstances) 8 (row GD (encInstance) a0.gcell.fInstances), .v (.int .i64 a0.gkind), .v (.bool a0.gended)])]), ?_, ?_⟩
                  ·exact le_sparse rfl ⟨lR _, trivial⟩ ⟨rfl, trivial⟩ rfl
                  ·exact ⟨lR _, ⟨rfl, trivial⟩, rfl⟩
                 ·replace h := of_br_f b431 h
                  cbv
                  injection h with h
                  subst h
                  subst hS383
                  show St.le _ _
                  exact le_sparse rfl trivial ⟨rfl, trivial⟩ rfl
               ·replace h := of_br_f b433 h
                cbv
                injection h with h
                subst h
                subst hS383
                show St.le _ _
                exact le_sparse rfl trivial ⟨rfl, trivial⟩ rfl
              ·clear hy379
               subst hS383
               rcases z380 with _ | y378
               ·trivial
               ·have h := hz381
                clear hz381
                replace h := of_let h
                obtain ⟨w384, hw384, h⟩ := h
                have hw384 : w384 = y378 := hw384
                subst hw384
                cbv
                injection h with h
                subst h
                subst hS338
                show St.le _ _
                exact le_sparse rfl trivial ⟨rfl, trivial⟩ rfl
            ·clear hy334
             subst hS338
             rcases z335 with _ | y333
             ·trivial
             ·have h := hz336
              clear hz336
              obtain ⟨y333_0, y333_1, y333_2⟩ := y333
              replace h := of_let h
              obtain ⟨w339, hw339, h⟩ := h
              have hw339 : w339 = y333_0 := hw339
              subst hw339
              replace h := of_let h
              obtain ⟨w340, hw340, h⟩ := h
              have hw340 : w340 = y333_1 := hw340
              subst hw340
              replace h := of_let h
              obtain ⟨w341, hw341, h⟩ := h
              have hw341 : w341 = y333_2 := hw341
              subst hw341
              cbv
              injection h with h
              subst h
              subst hS232
              show St.le _ _
              exact le_sparse rfl trivial ⟨rfl, trivial⟩ rfl
          ·clear hy228
           subst hS232
           rcases z229 with _ | y227
           ·trivial
           ·have h := hz230
            clear hz230
            obtain ⟨y227_0, y227_1, y227_2, y227_3, y227_4⟩ := y227
            replace h := of_let h
            obtain ⟨w233, hw233, h⟩ := h
            have hw233 : w233 = y227_0 := hw233
            subst hw233
            replace h := of_let h
            obtain ⟨w234, hw234, h⟩ := h
            have hw234 : w234 = y227_1 := hw234
            subst hw234
            replace h := of_let h
            obtain ⟨w235, hw235, h⟩ := h
            have hw235 : w235 = y227_2 := hw235
            subst hw235
            replace h := of_let h
            obtain ⟨w236, hw236, h⟩ := h
            have hw236 : w236 = y227_3 := hw236
            subst hw236
            replace h := of_let h
            obtain ⟨w237, hw237, h⟩ := h
            have hw237 : w237 = y227_4 := hw237
            subst hw237
            cbv
            injection h with h
            subst h
            subst hS159
            show St.le _ _
            exact le_sparse rfl trivial ⟨rfl, trivial⟩ rfl
        ·clear hy155
         subst hS159
         rcases z156 with _ | y154
         ·trivial
         ·have h := hz157
          clear hz157
          obtain ⟨y154_0, y154_1, y154_2, y154_3, y154_4, y154_5⟩ := y154
          replace h := of_let h
          obtain ⟨w160, hw160, h⟩ := h
          have hw160 : w160 = y154_0 := hw160
          subst hw160
          replace h := of_let h
          obtain ⟨w161, hw161, h⟩ := h
          have hw161 : w161 = y154_1 := hw161
          subst hw161
          replace h := of_let h
          obtain ⟨w162, hw162, h⟩ := h
          have hw162 : w162 = y154_2 := hw162
          subst hw162
          replace h := of_let h
          obtain ⟨w163, hw163, h⟩ := h
          have hw163 : w163 = y154_3 := hw163
          subst hw163
          replace h := of_let h
          obtain ⟨w164, hw164, h⟩ := h
          have hw164 : w164 = y154_4 := hw164
          subst hw164
          replace h := of_let h
          obtain ⟨w165, hw165, h⟩ := h
          have hw165 : w165 = y154_5 := hw165
          subst hw165
          cbv
          injection h with h
          subst h
          subst hS94
          show St.le _ _
          exact le_sparse rfl trivial ⟨rfl, trivial⟩ rfl
      ·clear hy90
       subst hS94
       rcases z91 with _ | y89
       ·trivial
       ·have h := hz92
        clear hz92
        obtain ⟨y89_0, y89_1, y89_2, y89_3, y89_4, y89_5, y89_6⟩ := y89
        replace h := of_let h
        obtain ⟨w95, hw95, h⟩ := h
        have hw95 : w95 = y89_0 := hw95
        subst hw95
        replace h := of_let h
        obtain ⟨w96, hw96, h⟩ := h
        have hw96 : w96 = y89_1 := hw96
        subst hw96
        replace h := of_let h
        obtain ⟨w97, hw97, h⟩ := h
        have hw97 : w97 = y89_2 := hw97
        subst hw97
        replace h := of_let h
        obtain ⟨w98, hw98, h⟩ := h
        have hw98 : w98 = y89_3 := hw98
        subst hw98
        replace h := of_let h
        obtain ⟨w99, hw99, h⟩ := h
        have hw99 : w99 = y89_4 := hw99
        subst hw99
        replace h := of_let h
        obtain ⟨w100, hw100, h⟩ := h
        have hw100 : w100 = y89_5 := hw100
        subst hw100
        replace h := of_let h
        obtain ⟨w101, hw101, h⟩ := h
        have hw101 : w101 = y89_6 := hw101
        subst hw101
        cbv
        injection h with h
        subst h
        subst hS44
        show St.le _ _
        exact le_sparse rfl trivial ⟨rfl, trivial⟩ rfl
    ·clear hy40
     subst hS44
     rcases z41 with _ | y39
     ·trivial
     ·have h := hz42
      clear hz42
      obtain ⟨y39_0, y39_1, y39_2, y39_3, y39_4, y39_5, y39_6, y39_7⟩ := y39
      replace h := of_let h
      obtain ⟨w45, hw45, h⟩ := h
      have hw45 : w45 = y39_0 := hw45
      subst hw45
      replace h := of_let h
      obtain ⟨w46, hw46, h⟩ := h
      have hw46 : w46 = y39_1 := hw46
      subst hw46
      replace h := of_let h
      obtain ⟨w47, hw47, h⟩ := h
      have hw47 : w47 = y39_2 := hw47
      subst hw47
      replace h := of_let h
      obtain ⟨w48, hw48, h⟩ := h
      have hw48 : w48 = y39_3 := hw48
      subst hw48
      replace h := of_let h
      obtain ⟨w49, hw49, h⟩ := h
      have hw49 : w49 = y39_4 := hw49
      subst hw49
      replace h := of_let h
      obtain ⟨w50, hw50, h⟩ := h
      have hw50 : w50 = y39_5 := hw50
      subst hw50
      replace h := of_let h
      obtain ⟨w51, hw51, h⟩ := h
      have hw51 : w51 = y39_6 := hw51
      subst hw51
      replace h := of_let h
      obtain ⟨w52, hw52, h⟩ := h
      have hw52 : w52 = y39_7 := hw52
      subst hw52
      cbv
      injection h with h
      subst h
      subst hS8
      show St.le _ _
      exact le_sparse rfl trivial ⟨rfl, trivial⟩ rfl
  ·clear hy4
   subst hS8
   rcases z5 with _ | y3
   ·trivial
   ·have h := hz6
    clear hz6
    obtain ⟨y3_0, y3_1, y3_2, y3_3, y3_4, y3_5, y3_6, y3_7, y3_8⟩ := y3
    replace h := of_let h
    obtain ⟨w9, hw9, h⟩ := h
    have hw9 : w9 = y3_0 := hw9
    subst hw9
    replace h := of_let h
    obtain ⟨w10, hw10, h⟩ := h
    have hw10 : w10 = y3_1 := hw10
    subst hw10
    replace h := of_let h
    obtain ⟨w11, hw11, h⟩ := h
    have hw11 : w11 = y3_2 := hw11
    subst hw11
    replace h := of_let h
    obtain ⟨w12, hw12, h⟩ := h
    have hw12 : w12 = y3_3 := hw12
    subst hw12
    replace h := of_let h
    obtain ⟨w13, hw13, h⟩ := h
    have hw13 : w13 = y3_4 := hw13
    subst hw13
    replace h := of_let h
    obtain ⟨w14, hw14, h⟩ := h
    have hw14 : w14 = y3_5 := hw14
    subst hw14
    replace h := of_let h
    obtain ⟨w15, hw15, h⟩ := h
    have hw15 : w15 = y3_6 := hw15
    subst hw15
    replace h := of_let h
    obtain ⟨w16, hw16, h⟩ := h
    have hw16 : w16 = y3_7 := hw16
    subst hw16
    replace h := of_let h
    obtain ⟨w17, hw17, h⟩ := h
    have hw17 : w17 = y3_8 := hw17
    subst hw17
    cbv
    injection h with h
    subst h
    refine ⟨(sparse 309 [(8, .c (.v (.int .i64 0)))] [(5, .var [.v (.int .i64 w9), .bs (LEN w10) 4 (row GD (encCell LEN GD) w10), .v (.bool w11), .v (.string w12), .bs (LEN w13) 5 (row GD (encShape) w13), .bs (LEN w14) 4 (row GD (encLabel) w14), .bs (LEN w15) 8 (row GD (encInstance) w15), .v (.int .i64 w16), .v (.bool w17)])]), ?_, ?_⟩
    ·exact le_sparse rfl ⟨lR _, trivial⟩ ⟨rfl, trivial⟩ rfl
    ·exact ⟨lR _, ⟨rfl, trivial⟩, rfl⟩

noncomputable def L_spec_l14Read_x11 (a0 : ByteArray) : (Int × Int × (List TCell) × Bool × ByteArray × (List TShape) × (List TLabel) × (List TInstance) × Int × Bool) → Option ((Int × Int × (List TCell) × Bool × ByteArray × (List TShape) × (List TLabel) × (List TInstance) × Int × Bool) ⊕ ((Int × Int × Int × (List TCell) × Bool × ByteArray × (List TShape) × (List TLabel) × (List TInstance) × Int × Bool) ⊕ (Int × Int × (List TCell) × Bool × ByteArray × (List TShape) × (List TLabel) × (List TInstance) × Int × Bool))) := fun x11 =>
 letO x11.1 fun v1 =>
 letO x11.2.1 fun v2 =>
 letO x11.2.2.1 fun v3 =>
 letO x11.2.2.2.1 fun v4 =>
 letO x11.2.2.2.2.1 fun v5 =>
 letO x11.2.2.2.2.2.1 fun v6 =>
 letO x11.2.2.2.2.2.2.1 fun v7 =>
 letO x11.2.2.2.2.2.2.2.1 fun v8 =>
 letO x11.2.2.2.2.2.2.2.2.1 fun v9 =>
 letO x11.2.2.2.2.2.2.2.2.2 fun v10 =>
 br (!(v10))
 ((F_spec_SplitRecord a0 v1).bind fun y23 =>
 br (std.not (std.eq y23.2.2.2 0))
 (some (.inr (.inl (y23.2.2.2, v1, v2, v3, v4, v5, v6, v7, v8, v9, v10))))
 (req (std.upTo v1 (std.slen a0)) <|
 (F_spec_l14Take_mPbbbb (Tl14State.mk v2 (TLibrary.mk v3) v4 (TCell.mk v5 v6 v7 v8) v9 v10) y23.1 y23.2.1 (std.ssub a0 0 (std.toN v1))).bind fun y26 =>
 br (std.not (std.eq y26.1 0))
 (some (.inr (.inl (y26.1, v1, y26.2.gwant, y26.2.gdone.fCells, y26.2.gopen, y26.2.gcell.fName, y26.2.gcell.fShapes, y26.2.gcell.fLabels, y26.2.gcell.fInstances, y26.2.gkind, y26.2.gended))))
 (some (.inl (y23.2.2.1, y26.2.gwant, y26.2.gdone.fCells, y26.2.gopen, y26.2.gcell.fName, y26.2.gcell.fShapes, y26.2.gcell.fLabels, y26.2.gcell.fInstances, y26.2.gkind, y26.2.gended)))))
 (some (.inr (.inr (v1, v2, v3, v4, v5, v6, v7, v8, v9, v10))))
/-- spec.l14Read -/
noncomputable def F_spec_l14Read (a0 : ByteArray) : Option (Tl14State × Int × Int) :=
 (whileP (σ := Int × Int × (List TCell) × Bool × ByteArray × (List TShape) × (List TLabel) × (List TInstance) × Int × Bool) (ρ := (Int × Int × Int × (List TCell) × Bool × ByteArray × (List TShape) × (List TLabel) × (List TInstance) × Int × Bool) ⊕ (Int × Int × (List TCell) × Bool × ByteArray × (List TShape) × (List TLabel) × (List TInstance) × Int × Bool)) (L_spec_l14Read_x11 a0) (0, (-1), ([] : List TCell), false, (ByteArray.mk #[]), ([] : List TShape), ([] : List TLabel), ([] : List TInstance), 0, false)).bind fun y12 =>
 (match y12 with
  | .inl y12k0 => (
    letO y12k0.1 fun w31 =>
    letO y12k0.2.1 fun w32 =>
    letO y12k0.2.2.1 fun w33 =>
    letO y12k0.2.2.2.1 fun w34 =>
    letO y12k0.2.2.2.2.1 fun w35 =>
    letO y12k0.2.2.2.2.2.1 fun w36 =>
    letO y12k0.2.2.2.2.2.2.1 fun w37 =>
    letO y12k0.2.2.2.2.2.2.2.1 fun w38 =>
    letO y12k0.2.2.2.2.2.2.2.2.1 fun w39 =>
    letO y12k0.2.2.2.2.2.2.2.2.2.1 fun w40 =>
    letO y12k0.2.2.2.2.2.2.2.2.2.2 fun w41 =>
    some ((Tl14State.mk w33 (TLibrary.mk w34) w35 (TCell.mk w36 w37 w38 w39) w40 w41), w31, w32))
  | .inr y12m0 =>
    letO y12m0 fun y12k1 =>
    letO y12k1.1 fun w42 =>
    letO y12k1.2.1 fun w43 =>
    letO y12k1.2.2.1 fun w44 =>
    letO y12k1.2.2.2.1 fun w45 =>
    letO y12k1.2.2.2.2.1 fun w46 =>
    letO y12k1.2.2.2.2.2.1 fun w47 =>
    letO y12k1.2.2.2.2.2.2.1 fun w48 =>
    letO y12k1.2.2.2.2.2.2.2.1 fun w49 =>
    letO y12k1.2.2.2.2.2.2.2.2.1 fun w50 =>
    letO y12k1.2.2.2.2.2.2.2.2.2 fun w51 =>
    br (std.not (std.eq w42 (std.ofN (std.slen a0))))
    (some ((Tl14State.mk w43 (TLibrary.mk w44) w45 (TCell.mk w46 w47 w48 w49) w50 w51), (4 : Int), w42))
    (some ((Tl14State.mk w43 (TLibrary.mk w44) w45 (TCell.mk w46 w47 w48 w49) w50 w51), (0 : Int), w42)))
set_option maxHeartbeats 4000000 in
theorem run_spec_l14Read (a0 : ByteArray) (r : Tl14State × Int × Int) (h : F_spec_l14Read a0 = some r) : Fun Try.prog 106 [.c (.v (.string a0))] [] (.tup [.c (.ptr 64000 0), .c (.v (.int .i64 r.2.1)), .c (.v (.int .i64 r.2.2))]) [(64000, .var [.v (.int .i64 r.1.gwant), .bs (len r.1.gdone.fCells) 4 (row gd (encCell len gd) r.1.gdone.fCells), .v (.bool r.1.gopen), .v (.string r.1.gcell.fName), .bs (len r.1.gcell.fShapes) 5 (row gd (encShape) r.1.gcell.fShapes), .bs (len r.1.gcell.fLabels) 4 (row gd (encLabel) r.1.gcell.fLabels), .bs (len r.1.gcell.fInstances) 8 (row gd (encInstance) r.1.gcell.fInstances), .v (.int .i64 r.1.gkind), .v (.bool r.1.gended)])] false := by
 refine Fun.of_wp (oneOf []) tok mixed Try.func106 (by kernel_rfl) rfl Try.ntmps106 rfl trivial (fun h => by cases h) ?_
 unfold F_spec_l14Read at h
 unfold L_spec_l14Read_x11 at h
 have hf_spec_SplitRecord := @run_spec_SplitRecord
 have hf_spec_l14Take_mPbbbb := @run_spec_l14Take_mPbbbb
 generalize hLEN : @len = LEN at *
 generalize hGD : @gd = GD at *
 generalize hA : std = A at *
 generalize hP : Try.prog = P at *
 cbv
 replace h := of_bind h
 obtain ⟨y12, hr13, hN14⟩ := h
 refine loop_cut hr13 (fun x => (sparse 52 [(0, .c (.v (.string a0))), (5, .c (.ptr 768 0)), (6, .c (.v (.int .i64 x.1)))] [(768, .var [.v (.int .i64 x.2.1), .bs (LEN x.2.2.1) 4 (row GD (encCell LEN GD) x.2.2.1), .v (.bool x.2.2.2.1), .v (.string x.2.2.2.2.1), .bs (LEN x.2.2.2.2.2.1) 5 (row GD (encShape) x.2.2.2.2.2.1), .bs (LEN x.2.2.2.2.2.2.1) 4 (row GD (encLabel) x.2.2.2.2.2.2.1), .bs (LEN x.2.2.2.2.2.2.2.1) 8 (row GD (encInstance) x.2.2.2.2.2.2.2.1), .v (.int .i64 x.2.2.2.2.2.2.2.2.1), .v (.bool x.2.2.2.2.2.2.2.2.2)])])) ?_ (fun y e s => (match y with | .inl w => e = .ret ∧ s.le (sparse 52 [(2, .c (.ptr 768 0)), (3, .c (.v (.int .i64 w.1))), (4, .c (.v (.int .i64 w.2.1)))] [(768, .var [.v (.int .i64 w.2.2.1), .bs (LEN w.2.2.2.1) 4 (row GD (encCell LEN GD) w.2.2.2.1), .v (.bool w.2.2.2.2.1), .v (.string w.2.2.2.2.2.1), .bs (LEN w.2.2.2.2.2.2.1) 5 (row GD (encShape) w.2.2.2.2.2.2.1), .bs (LEN w.2.2.2.2.2.2.2.1) 4 (row GD (encLabel) w.2.2.2.2.2.2.2.1), .bs (LEN w.2.2.2.2.2.2.2.2.1) 8 (row GD (encInstance) w.2.2.2.2.2.2.2.2.1), .v (.int .i64 w.2.2.2.2.2.2.2.2.2.1), .v (.bool w.2.2.2.2.2.2.2.2.2.2)])]) | .inr w0 => (fun (w : Int × Int × (List TCell) × Bool × ByteArray × (List TShape) × (List TLabel) × (List TInstance) × Int × Bool) => e = .exit 0 ∧ s.le (sparse 52 [(0, .c (.v (.string a0))), (5, .c (.ptr 768 0)), (6, .c (.v (.int .i64 w.1)))] [(768, .var [.v (.int .i64 w.2.1), .bs (LEN w.2.2.1) 4 (row GD (encCell LEN GD) w.2.2.1), .v (.bool w.2.2.2.1), .v (.string w.2.2.2.2.1), .bs (LEN w.2.2.2.2.2.1) 5 (row GD (encShape) w.2.2.2.2.2.1), .bs (LEN w.2.2.2.2.2.2.1) 4 (row GD (encLabel) w.2.2.2.2.2.2.1), .bs (LEN w.2.2.2.2.2.2.2.1) 8 (row GD (encInstance) w.2.2.2.2.2.2.2.1), .v (.int .i64 w.2.2.2.2.2.2.2.2.1), .v (.bool w.2.2.2.2.2.2.2.2.2)])])) w0)) ?_ ?_
 ·clear hr13 hN14
  show St.le _ _
  refine St.le_trans (le_nilVb 768 1 4 (row GD (encCell LEN GD) ([] : List TCell)) rfl rfl) ?_
  refine St.le_trans (le_nilVb 768 4 5 (row GD (encShape) ([] : List TShape)) rfl rfl) ?_
  refine St.le_trans (le_nilVb 768 5 4 (row GD (encLabel) ([] : List TLabel)) rfl rfl) ?_
  refine St.le_trans (le_nilVb 768 6 8 (row GD (encInstance) ([] : List TInstance)) rfl rfl) ?_
  subst hLEN
  exact le_sparse rfl ⟨lR _, lR _, lR _, trivial⟩ ⟨rfl, trivial⟩ rfl
 ·clear hr13 hN14
  intro x z18 h K16 hK17 hY15
  obtain ⟨x0_, x1_, x2_, x3_, x4_, x5_, x6_, x7_, x8_, x9_⟩ := x
  replace h := of_let h
  obtain ⟨v1, hv1, h⟩ := h
  have hv1 : v1 = x0_ := hv1
  subst hv1
  replace h := of_let h
  obtain ⟨v2, hv2, h⟩ := h
  have hv2 : v2 = x1_ := hv2
  subst hv2
  replace h := of_let h
  obtain ⟨v3, hv3, h⟩ := h
  have hv3 : v3 = x2_ := hv3
  subst hv3
  replace h := of_let h
  obtain ⟨v4, hv4, h⟩ := h
  have hv4 : v4 = x3_ := hv4
  subst hv4
  replace h := of_let h
  obtain ⟨v5, hv5, h⟩ := h
  have hv5 : v5 = x4_ := hv5
  subst hv5
  replace h := of_let h
  obtain ⟨v6, hv6, h⟩ := h
  have hv6 : v6 = x5_ := hv6
  subst hv6
  replace h := of_let h
  obtain ⟨v7, hv7, h⟩ := h
  have hv7 : v7 = x6_ := hv7
  subst hv7
  replace h := of_let h
  obtain ⟨v8, hv8, h⟩ := h
  have hv8 : v8 = x7_ := hv8
  subst hv8
  replace h := of_let h
  obtain ⟨v9, hv9, h⟩ := h
  have hv9 : v9 = x8_ := hv9
  subst hv9
  replace h := of_let h
  obtain ⟨v10, hv10, h⟩ := h
  have hv10 : v10 = x9_ := hv10
  subst hv10
  cbv
  refine fork (fun b30 => ?_) (fun b30 => ?_)
  ·replace h := of_br_t b30 h
   cbv
   replace h := of_bind h
   obtain ⟨y23, hy24, h⟩ := h
   refine ⟨{ args := [.c (.v (.string a0)), .c (.v (.int .i64 v1))], o0 := [], r := .tup [.c (.v (.int .i64 y23.1)), .c (.v (.string y23.2.1)), .c (.v (.int .i64 y23.2.2.1)), .c (.v (.int .i64 y23.2.2.2))], o1 := [], fl := true, σ := [], τ := [] }, hf_spec_SplitRecord _ _ _ hy24, ⟨les_cons (lR _) (les_cons (lR _) (les_nil)), trivial, rfl, rfl, rfl, rfl, trivial, rfl⟩, ?_⟩
   cbv
   refine fork (fun b29 => ?_) (fun b29 => ?_)
   ·replace h := of_br_t b29 h
    cbv
    injection h with h
    refine hY15 _ h.symm _ _ (And.intro rfl ?_) (by intro hh; cases hh)
    exact le_sparse rfl ⟨lR _, lR _, lR _, trivial⟩ ⟨rfl, trivial⟩ rfl
   ·replace h := of_br_f b29 h
    cbv
    replace h := of_req h
    obtain ⟨c25, h⟩ := h
    refine ⟨c25, ?_⟩
    replace h := of_bind h
    obtain ⟨y26, hy27, h⟩ := h
    refine ⟨{ args := [.c (.ptr 5 0), .c (.v (.int .i64 y23.1)), .c (.v (.string y23.2.1)), .c (.v (.string (A.ssub a0 0 (A.toN v1))))], o0 := [(5, .var [.v (.int .i64 v2), .bs (LEN v3) 4 (row GD (encCell LEN GD) v3), .v (.bool v4), .v (.string v5), .bs (LEN v6) 5 (row GD (encShape) v6), .bs (LEN v7) 4 (row GD (encLabel) v7), .bs (LEN v8) 8 (row GD (encInstance) v8), .v (.int .i64 v9), .v (.bool v10)])], r := .c (.v (.int .i64 y26.1)), o1 := [(5, .var [.v (.int .i64 y26.2.gwant), .bs (LEN y26.2.gdone.fCells) 4 (row GD (encCell LEN GD) y26.2.gdone.fCells), .v (.bool y26.2.gopen), .v (.string y26.2.gcell.fName), .bs (LEN y26.2.gcell.fShapes) 5 (row GD (encShape) y26.2.gcell.fShapes), .bs (LEN y26.2.gcell.fLabels) 4 (row GD (encLabel) y26.2.gcell.fLabels), .bs (LEN y26.2.gcell.fInstances) 8 (row GD (encInstance) y26.2.gcell.fInstances), .v (.int .i64 y26.2.gkind), .v (.bool y26.2.gended)])], fl := false, σ := [(5, 768)], τ := [(5, 768)] }, hf_spec_l14Take_mPbbbb _ _ _ _ _ hy27, ⟨les_cons (lR _) (les_cons (lR _) (les_cons (lR _) (les_cons (lR _) (les_nil)))), ⟨rfl, trivial⟩, rfl, rfl, rfl, rfl, ⟨fun _ => rfl, trivial⟩, rfl⟩, ?_⟩
    cbv
    refine fork (fun b28 => ?_) (fun b28 => ?_)
    ·replace h := of_br_t b28 h
     cbv
     injection h with h
     refine hY15 _ h.symm _ _ (And.intro rfl ?_) (by intro hh; cases hh)
     exact le_sparse rfl ⟨lR _, lR _, lR _, trivial⟩ ⟨rfl, trivial⟩ rfl
    ·replace h := of_br_f b28 h
     cbv
     injection h with h
     refine hK17 _ h.symm _ ?_
     exact le_sparse rfl ⟨lR _, lR _, lR _, trivial⟩ ⟨rfl, trivial⟩ rfl
  ·replace h := of_br_f b30 h
   cbv
   injection h with h
   refine hY15 _ h.symm _ _ (And.intro rfl ?_) (by intro hh; cases hh)
   exact le_sparse rfl ⟨lR _, lR _, lR _, trivial⟩ ⟨rfl, trivial⟩ rfl
 ·clear hr13
  have h := hN14
  clear hN14
  intro e21 s22 q20 hne
  rcases y12 with y12k0 | y12m0
  ·replace h := h
   obtain ⟨rfl, q20⟩ := q20
   obtain ⟨y12k0_0, y12k0_1, y12k0_2, y12k0_3, y12k0_4, y12k0_5, y12k0_6, y12k0_7, y12k0_8, y12k0_9, y12k0_10⟩ := y12k0
   replace h := of_let h
   obtain ⟨w31, hw31, h⟩ := h
   have hw31 : w31 = y12k0_0 := hw31
   subst hw31
   replace h := of_let h
   obtain ⟨w32, hw32, h⟩ := h
   have hw32 : w32 = y12k0_1 := hw32
   subst hw32
   replace h := of_let h
   obtain ⟨w33, hw33, h⟩ := h
   have hw33 : w33 = y12k0_2 := hw33
   subst hw33
   replace h := of_let h
   obtain ⟨w34, hw34, h⟩ := h
   have hw34 : w34 = y12k0_3 := hw34
   subst hw34
   replace h := of_let h
   obtain ⟨w35, hw35, h⟩ := h
   have hw35 : w35 = y12k0_4 := hw35
   subst hw35
   replace h := of_let h
   obtain ⟨w36, hw36, h⟩ := h
   have hw36 : w36 = y12k0_5 := hw36
   subst hw36
   replace h := of_let h
   obtain ⟨w37, hw37, h⟩ := h
   have hw37 : w37 = y12k0_6 := hw37
   subst hw37
   replace h := of_let h
   obtain ⟨w38, hw38, h⟩ := h
   have hw38 : w38 = y12k0_7 := hw38
   subst hw38
   replace h := of_let h
   obtain ⟨w39, hw39, h⟩ := h
   have hw39 : w39 = y12k0_8 := hw39
   subst hw39
   replace h := of_let h
   obtain ⟨w40, hw40, h⟩ := h
   have hw40 : w40 = y12k0_9 := hw40
   subst hw40
   replace h := of_let h
   obtain ⟨w41, hw41, h⟩ := h
   have hw41 : w41 = y12k0_10 := hw41
   subst hw41
   cbv
   injection h with h
   subst h
   refine ⟨(sparse 52 [(2, .c (.ptr 64000 0)), (3, .c (.v (.int .i64 w31))), (4, .c (.v (.int .i64 w32)))] [(64000, .var [.v (.int .i64 w33), .bs (LEN w34) 4 (row GD (encCell LEN GD) w34), .v (.bool w35), .v (.string w36), .bs (LEN w37) 5 (row GD (encShape) w37), .bs (LEN w38) 4 (row GD (encLabel) w38), .bs (LEN w39) 8 (row GD (encInstance) w39), .v (.int .i64 w40), .v (.bool w41)])]), ?_, ?_⟩
   ·refine St.le_trans q20 ?_
    refine St.le_trans (le_ren 768 64000 (by decide) rfl) ?_
    exact le_sparse rfl ⟨lR _, lR _, lR _, trivial⟩ ⟨rfl, trivial⟩ rfl
   ·exact ⟨lR _, ⟨rfl, trivial⟩, rfl⟩
  ·replace h := of_let h
   obtain ⟨y12k1, hyk, h⟩ := h
   have hyk : y12k1 = y12m0 := hyk
   subst hyk
   obtain ⟨rfl, q20⟩ := q20
   obtain ⟨y12k1_0, y12k1_1, y12k1_2, y12k1_3, y12k1_4, y12k1_5, y12k1_6, y12k1_7, y12k1_8, y12k1_9⟩ := y12k1
   replace h := of_let h
   obtain ⟨w42, hw42, h⟩ := h
   have hw42 : w42 = y12k1_0 := hw42
   subst hw42
   replace h := of_let h
   obtain ⟨w43, hw43, h⟩ := h
   have hw43 : w43 = y12k1_1 := hw43
   subst hw43
   replace h := of_let h
   obtain ⟨w44, hw44, h⟩ := h
   have hw44 : w44 = y12k1_2 := hw44
   subst hw44
   replace h := of_let h
   obtain ⟨w45, hw45, h⟩ := h
   have hw45 : w45 = y12k1_3 := hw45
   subst hw45
   replace h := of_let h
   obtain ⟨w46, hw46, h⟩ := h
   have hw46 : w46 = y12k1_4 := hw46
   subst hw46
   replace h := of_let h
   obtain ⟨w47, hw47, h⟩ := h
   have hw47 : w47 = y12k1_5 := hw47
   subst hw47
   replace h := of_let h
   obtain ⟨w48, hw48, h⟩ := h
   have hw48 : w48 = y12k1_6 := hw48
   subst hw48
   replace h := of_let h
   obtain ⟨w49, hw49, h⟩ := h
   have hw49 : w49 = y12k1_7 := hw49
   subst hw49
   replace h := of_let h
   obtain ⟨w50, hw50, h⟩ := h
   have hw50 : w50 = y12k1_8 := hw50
   subst hw50
   replace h := of_let h
   obtain ⟨w51, hw51, h⟩ := h
   have hw51 : w51 = y12k1_9 := hw51
   subst hw51
   cbv
   refine ⟨_, q20, ?_⟩
   cbv
   refine fork (fun b52 => ?_) (fun b52 => ?_)
   ·replace h := of_br_t b52 h
    cbv
    injection h with h
    subst h
    refine ⟨(sparse 52 [(2, .c (.ptr 64000 0)), (3, .c (.v (.int .i64 4))), (4, .c (.v (.int .i64 w42)))] [(64000, .var [.v (.int .i64 w43), .bs (LEN w44) 4 (row GD (encCell LEN GD) w44), .v (.bool w45), .v (.string w46), .bs (LEN w47) 5 (row GD (encShape) w47), .bs (LEN w48) 4 (row GD (encLabel) w48), .bs (LEN w49) 8 (row GD (encInstance) w49), .v (.int .i64 w50), .v (.bool w51)])]), ?_, ?_⟩
    ·refine St.le_trans (le_ren 768 64000 (by decide) rfl) ?_
     exact le_sparse rfl ⟨lR _, lR _, lR _, trivial⟩ ⟨rfl, trivial⟩ rfl
    ·exact ⟨lR _, ⟨rfl, trivial⟩, rfl⟩
   ·replace h := of_br_f b52 h
    cbv
    injection h with h
    subst h
    refine ⟨(sparse 52 [(2, .c (.ptr 64000 0)), (3, .c (.v (.int .i64 0))), (4, .c (.v (.int .i64 w42)))] [(64000, .var [.v (.int .i64 w43), .bs (LEN w44) 4 (row GD (encCell LEN GD) w44), .v (.bool w45), .v (.string w46), .bs (LEN w47) 5 (row GD (encShape) w47), .bs (LEN w48) 4 (row GD (encLabel) w48), .bs (LEN w49) 8 (row GD (encInstance) w49), .v (.int .i64 w50), .v (.bool w51)])]), ?_, ?_⟩
    ·refine St.le_trans (le_ren 768 64000 (by decide) rfl) ?_
     exact le_sparse rfl ⟨lR _, lR _, lR _, trivial⟩ ⟨rfl, trivial⟩ rfl
    ·exact ⟨lR _, ⟨rfl, trivial⟩, rfl⟩
end Go.Proofs.Ytlenieingkfjaaa.AM
