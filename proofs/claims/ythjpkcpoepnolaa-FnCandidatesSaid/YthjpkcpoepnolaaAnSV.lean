/-
  What the functions that the law reaches compute, and that they do. No condition.
-/
import Derived.Test.YthjpkcpoepnolaaAnT
import Derived.Test.YthjpkcpoepnolaaAnE
import Derived.Shelf.SlicesG.CompactI
import Derived.Shelf.SortM.Plain
import Derived.Shelf.SortM.SortNone
import Derived.Test.YthjpkcpoepnolaaChecked
namespace Go.Proofs.Ythjpkcpoepnolaa.AM
open Go Go.Proofs Go.RowKit
set_option linter.unusedVariables false
set_option linter.unusedSimpArgs false
set_option maxRecDepth 100000

theorem mixed : Try.prog.follows .mixedOrders = true := by kernel_rfl
theorem ow (J : List Nat) {f : FuncId} {fn : Func} {c : Code} {n : Nat} {rs : List ResultVar} {args : List AV} {r : AV} {o0 o1 : List (Nat × AO)} {fl : Bool} (hf : Try.prog.funcs[f]? = some fn) (hn : fn.ntmps = n) (h : wp std Try.prog T (oneOf J) c (startSt n args o0) (endsIn T rs r o1)) (hb : fn.body = some c := by rfl) (hs : fn.results.toList = rs := by rfl) (ha : (fn.name == "runtime.NumGoroutine") = false := by kernel_rfl) (hw : wfO o0 := by exact trivial) (hv : fl = true → r.flat ∧ flatO o1 := by exact fun _ => ⟨trivial, trivial⟩) : Fun Try.prog f args o0 r o1 fl := Fun.of_wp (oneOf J) tok mixed hf ha hb hn hs hw hv h
structure TRect where
 fX0 : Int
 fY0 : Int
 fX1 : Int
 fY1 : Int
instance : Inhabited TRect := ⟨⟨default, default, default, default⟩⟩
def encRect (x : TRect) : Nat → AC := fun j => match j with
 | 0 => .v (.int .i64 x.fX0)
 | 1 => .v (.int .i64 x.fY0)
 | 2 => .v (.int .i64 x.fX1)
 | _ => .v (.int .i64 x.fY1)
theorem pl_encRect : ∀ (x : TRect) (j : Nat), plainC (encRect x j) = true := by
 intro x j
 unfold encRect
 split <;> rfl
theorem vl_encRect : ∀ (x : TRect) (j : Nat), valC (encRect x j) = true := by
 intro x j
 unfold encRect
 split <;> rfl
structure TSpatialEntry where
 fId : Int
 fBox : TRect
instance : Inhabited TSpatialEntry := ⟨⟨default, default⟩⟩
def encSpatialEntry (x : TSpatialEntry) : Nat → AC := fun j => match j with
 | 0 => .v (.int .i64 x.fId)
 | 1 => .v (.int .i64 x.fBox.fX0)
 | 2 => .v (.int .i64 x.fBox.fY0)
 | 3 => .v (.int .i64 x.fBox.fX1)
 | _ => .v (.int .i64 x.fBox.fY1)
theorem pl_encSpatialEntry : ∀ (x : TSpatialEntry) (j : Nat), plainC (encSpatialEntry x j) = true := by
 intro x j
 unfold encSpatialEntry
 split <;> rfl
theorem vl_encSpatialEntry : ∀ (x : TSpatialEntry) (j : Nat), valC (encSpatialEntry x j) = true := by
 intro x j
 unfold encSpatialEntry
 split <;> rfl
structure TSpatialIndex where
 fEntries : List TSpatialEntry
 fBuckets : List (List Int)
instance : Inhabited TSpatialIndex := ⟨⟨default, default⟩⟩
def encSpatialIndex (LEN : {α : Type} → List α → Nat) (GD : {α : Type} → [Inhabited α] → List α → Nat → α) (x : TSpatialIndex) : Nat → AC := fun j => match j with
 | 0 => .bs (LEN x.fEntries) 5 (row GD (encSpatialEntry) x.fEntries)
 | _ => .bs (LEN x.fBuckets) 1 (row GD (encL LEN GD 1 (encI .i64)) x.fBuckets)
theorem pl_encSpatialIndex {LEN : {α : Type} → List α → Nat} {GD : {α : Type} → [Inhabited α] → List α → Nat → α} : ∀ (x : TSpatialIndex) (j : Nat), plainC (encSpatialIndex LEN GD x j) = true := by
 intro x j
 unfold encSpatialIndex
 split <;> rfl
structure Tl01Source where
 gcode : List Int
 gat : Int
 gseed : Int
instance : Inhabited Tl01Source := ⟨⟨default, default, default⟩⟩
def encl01Source (LEN : {α : Type} → List α → Nat) (GD : {α : Type} → [Inhabited α] → List α → Nat → α) (x : Tl01Source) : Nat → AC := fun j => match j with
 | 0 => .bs (LEN x.gcode) 1 (row GD (encI .u8) x.gcode)
 | 1 => .v (.int .i64 x.gat)
 | _ => .v (.int .i64 x.gseed)
theorem pl_encl01Source {LEN : {α : Type} → List α → Nat} {GD : {α : Type} → [Inhabited α] → List α → Nat → α} : ∀ (x : Tl01Source) (j : Nat), plainC (encl01Source LEN GD x j) = true := by
 intro x j
 unfold encl01Source
 split <;> rfl
def oncl01Source (LEN : {α : Type} → List α → Nat) (GD : {α : Type} → [Inhabited α] → List α → Nat → α) (x : Tl01Source) : Nat → AC := fun j => match j with
 | 0 => .ow (LEN x.gcode) 1 (row GD (encI .u8) x.gcode)
 | 1 => .v (.int .i64 x.gat)
 | _ => .v (.int .i64 x.gseed)
theorem rf_oncl01Source {LEN : {α : Type} → List α → Nat} {GD : {α : Type} → [Inhabited α] → List α → Nat → α} : ∀ (x : Tl01Source) (j : Nat), (oncl01Source LEN GD x j).ref = [] := by
 intro x j
 unfold oncl01Source
 split <;> rfl
theorem ln_oncl01Source {LEN : {α : Type} → List α → Nat} {GD : {α : Type} → [Inhabited α] → List α → Nat → α} : ∀ (x : Tl01Source) (j : Nat), (oncl01Source LEN GD x j).lentIn = encl01Source LEN GD x j := by
 intro x j
 unfold oncl01Source encl01Source
 split <;> rfl
theorem fl_oncl01Source {LEN : {α : Type} → List α → Nat} {GD : {α : Type} → [Inhabited α] → List α → Nat → α} : ∀ (x : Tl01Source) (j : Nat), (oncl01Source LEN GD x j).flat := by
 intro x j
 unfold oncl01Source
 split <;> first | trivial | (exact fun i _ j _ => val_v (rfl))
/-- laws.big -/
noncomputable def F_laws_big (a0 : List Int) : Option (Bool) :=
 some (std.lt 4096 (std.ofN (len a0)))
set_option maxHeartbeats 4000000 in
theorem run_laws_big (a0 : List Int) (r : Bool) (h : F_laws_big a0 = some r) : Fun Try.prog 5 [.c (.bs (len a0) 1 (row gd (encI .u8) a0))] [] (.c (.v (.bool r))) [] true := by
 refine ow [] Try.func5 Try.ntmps5 ?_; unfold F_laws_big at h; generalize hLEN : @len = LEN, hGD : @gd = GD, hA : std = A, hP : Try.prog = P at *; cbv; exact df

noncomputable def L_spec_l01From_x3 (a0 : List Int) : (Int × Int) → Option ((Int × Int) ⊕ ((Int))) := fun x3 =>
 letO x3.1 fun v1 =>
 letO x3.2 fun v2 =>
 ((
    br (std.lt v1 (std.ofN (len a0)))
    (some (std.lt v1 64))
    (some false)
  ) : Option (Bool)).bind fun y15 =>
 letO y15 fun w21 =>
 br w21
 (req (std.inR v1 (len a0)) <|
 req (std.nz 2147483647) <|
 some (.inl (std.add .i64 v1 1, std.rem (std.add .i64 (std.mul .i64 v2 31) (std.conv .i64 (gd a0 (std.toN v1)))) 2147483647)))
 (some (.inr v2))
/-- spec.l01From -/
noncomputable def F_spec_l01From (a0 : List Int) : Option (Tl01Source) :=
 (whileP (σ := Int × Int) (ρ := (Int)) (L_spec_l01From_x3 a0) (0, 12345)).bind fun y4 =>
 letO y4 fun y4k0 =>
 letO y4k0 fun w26 =>
 some (Tl01Source.mk a0 0 w26)
set_option maxHeartbeats 4000000 in
theorem run_spec_l01From (a0 : List Int) (r : Tl01Source) (h : F_spec_l01From a0 = some r) : Fun Try.prog 15 [.c (.bs (len a0) 1 (row gd (encI .u8) a0))] [] (.c (.ptr 64000 0)) [(64000, .var [.bs (len r.gcode) 1 (row gd (encI .u8) r.gcode), .v (.int .i64 r.gat), .v (.int .i64 r.gseed)])] false := by
 refine ow [3] Try.func15 Try.ntmps15 ?_ (hv := (fun h => by cases h)); unfold F_spec_l01From at h; unfold L_spec_l01From_x3 at h; generalize hLEN : @len = LEN, hGD : @gd = GD, hA : std = A, hP : Try.prog = P at *; cbv
 revert h; refine ln (.exit 0) (fun x => (sparse 34 [(0, .c (.bs (LEN a0) 1 (row GD (encI .u8) a0))), (3, .c (.ptr 448 0)), (4, .c (.v (.int .i64 x.1)))] [(448, .var [.bs (LEN a0) 1 (row GD (encI .u8) a0), .v (.int .i64 0), .v (.int .i64 x.2)])])) (fun w => (sparse 34 [(3, .c (.ptr 448 0))] [(448, .var [.bs (LEN a0) 1 (row GD (encI .u8) a0), .v (.int .i64 0), .v (.int .i64 w)])])) zb ?_ ?_
 ·rintro ⟨v1, v2⟩ z h K hK hY; replace h := oz (oz h); dsimp only at h; cbv; revert h; refine cu (fun y15 => (sparse 34 [(0, .c (.bs (LEN a0) 1 (row GD (encI .u8) a0))), (3, .c (.ptr 448 0)), (4, .c (.v (.int .i64 v1))), (15, .c (.v (.bool y15)))] [(448, .var [.bs (LEN a0) 1 (row GD (encI .u8) a0), .v (.int .i64 0), .v (.int .i64 v2)])])) (fun y15 S hS h => rg) fun w21 => rz fun h => ?_; cbv
  revert h; refine fk ?_ ?_ <;> intro h <;> cbv
  ·revert h; refine ra fun c23 h => ?_; revert h; refine ra fun c24 h => ?_; exact dm
  exact dx
 intro w26 h s q12; replace h := oz (oz h); cbv; refine ⟨_, q12, ?_⟩; cbv; injection h with h; subst h; exact ⟨_, le_ren 448 64000 (by decide) rfl, lR _, zo, rfl⟩

/-- spec.l01Next -/
noncomputable def F_spec_l01Next_mPbb (a0 : Tl01Source) (a1 : Int) : Option (Int × Tl01Source) :=
 br (std.le a1 1)
 (some ((0 : Int), a0))
 (br (std.lt a0.gat (std.ofN (len a0.gcode)))
 (req (std.inR a0.gat (len a0.gcode)) <|
 br (std.lt 256 a1)
 (req (std.nz 2147483647) <|
 req (std.nz a1) <|
 some (std.rem (std.rem (std.add .i64 (std.add .i64 (std.mul .i64 a0.gseed 48271) (std.conv .i64 (gd a0.gcode (std.toN a0.gat)))) 1) 2147483647) a1, (Tl01Source.mk a0.gcode (std.add .i64 a0.gat 1) (std.rem (std.add .i64 (std.add .i64 (std.mul .i64 a0.gseed 48271) (std.conv .i64 (gd a0.gcode (std.toN a0.gat)))) 1) 2147483647))))
 (req (std.nz a1) <|
 some (std.rem (std.conv .i64 (gd a0.gcode (std.toN a0.gat))) a1, (Tl01Source.mk a0.gcode (std.add .i64 a0.gat 1) a0.gseed))))
 (req (std.nz 2147483647) <|
 req (std.nz 7) <|
 req (std.nz a1) <|
 some (std.rem (std.quo .i64 (std.rem (std.add .i64 (std.mul .i64 a0.gseed 48271) 11) 2147483647) 7) a1, (Tl01Source.mk a0.gcode a0.gat (std.rem (std.add .i64 (std.mul .i64 a0.gseed 48271) 11) 2147483647)))))
set_option maxHeartbeats 4000000 in
theorem run_spec_l01Next_mPbb (a0 : Tl01Source) (a1 : Int) (r : Int × Tl01Source) (h : F_spec_l01Next_mPbb a0 a1 = some r) : Fun Try.prog 35 [.c (.ptr 5 0), .c (.v (.int .i64 a1))] [(5, .var [.bs (len a0.gcode) 1 (row gd (encI .u8) a0.gcode), .v (.int .i64 a0.gat), .v (.int .i64 a0.gseed)])] (.c (.v (.int .i64 r.1))) [(5, .var [.bs (len r.2.gcode) 1 (row gd (encI .u8) r.2.gcode), .v (.int .i64 r.2.gat), .v (.int .i64 r.2.gseed)])] false := by
 refine ow [] Try.func35 Try.ntmps35 ?_ (hv := (fun h => by cases h)); unfold F_spec_l01Next_mPbb at h; generalize hLEN : @len = LEN, hGD : @gd = GD, hA : std = A, hP : Try.prog = P at *; cbv; revert h; refine fk ?_ ?_ <;> intro h <;> cbv
 ·exact df
 revert h; refine fk ?_ ?_ <;> intro h <;> cbv
 ·revert h; refine ra fun c1 h => ?_; revert h; refine fk ?_ ?_ <;> intro h <;> cbv
  ·revert h; refine ra fun c2 h => ?_; revert h; refine ra fun c3 h => ?_; exact df
  revert h; refine ra fun c4 h => ?_; exact df
 revert h; refine ra fun c6 h => ?_; revert h; refine ra fun c7 h => ?_; revert h; refine ra fun c8 h => ?_; exact df

/-- spec.l11DrawBox -/
noncomputable def F_spec_l11DrawBox_mPb (a0 : Tl01Source) : Option (TRect × Tl01Source) :=
 (F_spec_l01Next_mPbb a0 80).bind fun y1 =>
 (F_spec_l01Next_mPbb y1.2 80).bind fun y3 =>
 (F_spec_l01Next_mPbb y3.2 20).bind fun y5 =>
 (F_spec_l01Next_mPbb y5.2 20).bind fun y7 =>
 some ((TRect.mk (std.sub .i64 y1.1 40) (std.sub .i64 y3.1 40) (std.imin 40 (std.add .i64 (std.add .i64 (std.sub .i64 y1.1 40) 1) y5.1)) (std.imin 40 (std.add .i64 (std.add .i64 (std.sub .i64 y3.1 40) 1) y7.1))), y7.2)
set_option maxHeartbeats 4000000 in
theorem run_spec_l11DrawBox_mPb (a0 : Tl01Source) (r : TRect × Tl01Source) (h : F_spec_l11DrawBox_mPb a0 = some r) : Fun Try.prog 36 [.c (.ptr 5 0)] [(5, .var [.bs (len a0.gcode) 1 (row gd (encI .u8) a0.gcode), .v (.int .i64 a0.gat), .v (.int .i64 a0.gseed)])] (.agg [.v (.int .i64 r.1.fX0), .v (.int .i64 r.1.fY0), .v (.int .i64 r.1.fX1), .v (.int .i64 r.1.fY1)]) [(5, .var [.bs (len r.2.gcode) 1 (row gd (encI .u8) r.2.gcode), .v (.int .i64 r.2.gat), .v (.int .i64 r.2.gseed)])] false := by
 refine ow [] Try.func36 Try.ntmps36 ?_ (hv := (fun h => by cases h)); unfold F_spec_l11DrawBox_mPb at h; have hf_spec_l01Next_mPbb := @run_spec_l01Next_mPbb; generalize hLEN : @len = LEN, hGD : @gd = GD, hA : std = A, hP : Try.prog = P at *; cbv; revert h; refine rk [(5, 5)] [(5, 5)] (hf_spec_l01Next_mPbb _ _) (fun _ => yf) fun y1 h => ?_; cbv
 revert h; refine rk [(5, 5)] [(5, 5)] (hf_spec_l01Next_mPbb _ _) (fun _ => yf) fun y3 h => ?_; cbv; revert h; refine rk [(5, 5)] [(5, 5)] (hf_spec_l01Next_mPbb _ _) (fun _ => yf) fun y5 h => ?_; cbv; revert h; refine rk [(5, 5)] [(5, 5)] (hf_spec_l01Next_mPbb _ _) (fun _ => yf) fun y7 h => ?_; cbv; exact df

/-- spec.l11Bucket -/
noncomputable def F_spec_l11Bucket (a0 : Int) : Option (TRect) :=
 req (std.nz 5) <|
 req (std.nz 5) <|
 some (TRect.mk (std.add .i64 (-40) (std.mul .i64 16 (std.rem a0 5))) (std.add .i64 (-40) (std.mul .i64 16 (std.quo .i64 a0 5))) (std.add .i64 (std.add .i64 (-40) (std.mul .i64 16 (std.rem a0 5))) 16) (std.add .i64 (std.add .i64 (-40) (std.mul .i64 16 (std.quo .i64 a0 5))) 16))
set_option maxHeartbeats 4000000 in
theorem run_spec_l11Bucket (a0 : Int) (r : TRect) (h : F_spec_l11Bucket a0 = some r) : Fun Try.prog 29 [.c (.v (.int .i64 a0))] [] (.agg [.v (.int .i64 r.fX0), .v (.int .i64 r.fY0), .v (.int .i64 r.fX1), .v (.int .i64 r.fY1)]) [] true := by
 refine ow [] Try.func29 Try.ntmps29 ?_ (hv := (fun _ => ⟨(by simp [AV.flat, AV.flat1, AC.flat]), trivial⟩)); unfold F_spec_l11Bucket at h; generalize hLEN : @len = LEN, hGD : @gd = GD, hA : std = A, hP : Try.prog = P at *; cbv; revert h; refine ra fun c1 h => ?_; revert h; refine ra fun c2 h => ?_; exact df

/-- spec.l11Overlap -/
noncomputable def F_spec_l11Overlap (a0 : TRect) (a1 : TRect) : Option (Bool) :=
 ((
    br (std.lt a0.fX0 a1.fX1)
    (br (std.lt a1.fX0 a0.fX1)
    (br (std.lt a0.fY0 a1.fY1)
    (some (std.lt a1.fY0 a0.fY1))
    (some false))
    (some false))
    (some false)
  ) : Option (Bool)).bind fun y1 =>
 letO y1 fun w7 =>
 some w7
set_option maxHeartbeats 4000000 in
theorem run_spec_l11Overlap (a0 : TRect) (a1 : TRect) (r : Bool) (h : F_spec_l11Overlap a0 a1 = some r) : Fun Try.prog 28 [.agg [.v (.int .i64 a0.fX0), .v (.int .i64 a0.fY0), .v (.int .i64 a0.fX1), .v (.int .i64 a0.fY1)], .agg [.v (.int .i64 a1.fX0), .v (.int .i64 a1.fY0), .v (.int .i64 a1.fX1), .v (.int .i64 a1.fY1)]] [] (.c (.v (.bool r))) [] true := by
 refine ow [1] Try.func28 Try.ntmps28 ?_; unfold F_spec_l11Overlap at h; generalize hLEN : @len = LEN, hGD : @gd = GD, hA : std = A, hP : Try.prog = P at *; cbv; revert h; refine cu (fun y1 => (sparse 31 [(4, .c (.v (.bool y1)))] [])) (fun y1 S hS h => rg) fun w7 => rz fun h => ?_; cbv; exact df
noncomputable def L_spec_l11Made_mo_x19 (a0 : List TSpatialEntry) (v1 : Int) : (Int × (List Int)) → Option ((Int × (List Int)) ⊕ (((List Int)))) := fun x19 =>
 letO x19.1 fun v17 =>
 letO x19.2 fun v18 =>
 br (std.lt v17 (std.ofN (len a0)))
 (req (std.inR v17 (len a0)) <|
 (F_spec_l11Bucket v1).bind fun y32 =>
 (F_spec_l11Overlap (gd a0 (std.nadd 0 (std.toN v17))).fBox y32).bind fun y34 =>
 ((
    br y34
    (req (std.inR v17 (len a0)) <|
    letO ([(gd a0 (std.nadd 0 (std.toN v17))).fId] : List Int) fun l44 =>
    req (std.room (std.nadd (len v18) (len l44)) 8) <|
    letO (v18 ++ l44) fun l46 =>
    some l46)
    (some v18)
  ) : Option ((List Int))).bind fun y36 =>
 letO y36 fun w42 =>
 some (.inl (std.add .i64 v17 1, w42)))
 (some (.inr v18))
noncomputable def L_spec_l11Made_mo_x3 (a0 : List TSpatialEntry) : (Int × (List (List Int))) → Option ((Int × (List (List Int))) ⊕ (((List (List Int))))) := fun x3 =>
 letO x3.1 fun v1 =>
 letO x3.2 fun v2 =>
 br (std.lt v1 25)
 (letO ([] : List Int) fun l15 =>
 (whileP (σ := Int × (List Int)) (ρ := ((List Int))) (L_spec_l11Made_mo_x19 a0 v1) (0, l15)).bind fun y20 =>
 letO y20 fun y20k0 =>
 letO y20k0 fun w51 =>
 ((
    letO ([w51] : List (List Int)) fun l59 =>
    req (std.room (std.nadd (len v2) (len l59)) 24) <|
    letO (v2 ++ l59) fun l61 =>
    some l61
  ) : Option ((List (List Int)))).bind fun y52 =>
 letO y52 fun w58 =>
 some (.inl (std.add .i64 v1 1, w58)))
 (some (.inr v2))
/-- spec.l11Made -/
noncomputable def F_spec_l11Made_mo (a0 : List TSpatialEntry) : Option (TSpatialIndex) :=
 (whileP (σ := Int × (List (List Int))) (ρ := ((List (List Int)))) (L_spec_l11Made_mo_x3 a0) (0, ([] : List (List Int)))).bind fun y4 =>
 letO y4 fun y4k0 =>
 letO y4k0 fun w65 =>
 some (TSpatialIndex.mk a0 w65)
set_option maxHeartbeats 4000000 in
theorem run_spec_l11Made_mo (a0 : List TSpatialEntry) (r : TSpatialIndex) (h : F_spec_l11Made_mo a0 = some r) : Fun Try.prog 47 [.c (.os 5 0 (len a0))] [(5, .arr .rw [] (len a0) 5 (row gd (encSpatialEntry) a0))] (.agg [.os 64000 0 (len r.fEntries), .os 64002 0 (len r.fBuckets)]) [(64000, .arr .rw [] (len r.fEntries) 5 (row gd (encSpatialEntry) r.fEntries)), (64002, .arr .rw [] (len r.fBuckets) 1 (row gd (oncL len gd 1 (encI .i64)) r.fBuckets))] true := by
 refine ow [11, 100027] Try.func47 Try.ntmps47 ?_ (hw := ⟨fun i _ j _ k hk => (noref (plain_nil (pl_encSpatialEntry _ _)) hk).elim, trivial⟩) (hv := (fun _ => ⟨(by simp [AV.flat, AV.flat1, AC.flat]), ⟨fun i _ j _ => val_flat (vl_encSpatialEntry _ _), fun i _ j _ => fl_oncL (fun _ _ => rfl) _ _, trivial⟩⟩)); unfold F_spec_l11Made_mo at h; unfold L_spec_l11Made_mo_x3 at h
 unfold L_spec_l11Made_mo_x19 at h; have hf_spec_l11Bucket := @run_spec_l11Bucket; have hf_spec_l11Overlap := @run_spec_l11Overlap; generalize hLEN : @len = LEN, hGD : @gd = GD, hA : std = A, hP : Try.prog = P at *; cbv
 revert h; refine ln (.exit 0) (fun x => (sparse 43 [(0, .c (.os 5 0 (LEN a0))), (2, .c (.ptr 128 0)), (3, .c (.ptr 192 0)), (4, .c (.v (.int .i64 x.1)))] [(5, .arr .rw [] (LEN a0) 5 (row GD (encSpatialEntry) a0)), (128, .var [.v (.slice none 0 0), .v (.slice none 0 0)]), (192, .var [.os 5 0 (LEN a0), .os 2560 0 (LEN x.2)]), (2560, .arr .rw [] (LEN x.2) 1 (row GD (oncL LEN GD 1 (encI .i64)) x.2))])) (fun w => (sparse 43 [(2, .c (.ptr 128 0)), (3, .c (.ptr 192 0))] [(128, .var [.v (.slice none 0 0), .v (.slice none 0 0)]), (192, .var [.os 5 0 (LEN a0), .os 2560 0 (LEN w)]), (5, .arr .rw [] (LEN a0) 5 (row GD (encSpatialEntry) a0)), (2560, .arr .rw [] (LEN w) 1 (row GD (oncL LEN GD 1 (encI .i64)) w))])) ?_ ?_ ?_
 ·show St.le _ _; refine St.le_trans (le_nilV 192 1 2560 1 (row GD (oncL LEN GD 1 (encI .i64)) ([] : List (List Int))) (by decide) (by decide) rfl rfl) ?_; subst hLEN; exact zb
 ·rintro ⟨v1, v2⟩ z h K hK hY; replace h := oz (oz h); dsimp only at h; cbv; revert h; refine fk ?_ ?_ <;> intro h <;> cbv
  ·revert h; refine rl fun l15 hl15 h => ?_; have e16 : 0 = LEN l15 := by subst hl15 hLEN; rfl
   refine ⟨_, (co e16), _, row GD (encI .i64) l15, e16, wkOf ?_, ?_⟩
   ·intro i hi j hj; rw [← e16] at hi; subst hl15; subst hGD; omega
   cbv
   revert h; refine ln (.exit 2) (fun x => (sparse 43 [(0, .c (.os 5 0 (LEN a0))), (2, .c (.ptr 128 0)), (3, .c (.ptr 192 0)), (4, .c (.v (.int .i64 v1))), (5, .c (.os 832 0 (LEN x.2))), (6, .c (.v (.int .i64 x.1)))] [(5, .arr .rw [] (LEN a0) 5 (row GD (encSpatialEntry) a0)), (128, .var [.v (.slice none 0 0), .v (.slice none 0 0)]), (192, .var [.os 5 0 (LEN a0), .os 2560 0 (LEN v2)]), (832, .arr .rw [] (LEN x.2) 1 (row GD (encI .i64) x.2)), (2560, .arr .rw [] (LEN v2) 1 (row GD (oncL LEN GD 1 (encI .i64)) v2))])) (fun w => (sparse 43 [(0, .c (.os 5 0 (LEN a0))), (2, .c (.ptr 128 0)), (3, .c (.ptr 192 0)), (4, .c (.v (.int .i64 v1))), (5, .c (.os 832 0 (LEN w)))] [(5, .arr .rw [] (LEN a0) 5 (row GD (encSpatialEntry) a0)), (128, .var [.v (.slice none 0 0), .v (.slice none 0 0)]), (192, .var [.os 5 0 (LEN a0), .os 2560 0 (LEN v2)]), (832, .arr .rw [] (LEN w) 1 (row GD (encI .i64) w)), (2560, .arr .rw [] (LEN v2) 1 (row GD (oncL LEN GD 1 (encI .i64)) v2))])) zb ?_ ?_
   ·rintro ⟨v17, v18⟩ z h K hK hY; replace h := oz (oz h); dsimp only at h; cbv; revert h; refine fk ?_ ?_ <;> intro h <;> cbv
    ·revert h; refine ra fun c31 h => ?_; refine ai c31 ?_; revert h; refine rk0 (hf_spec_l11Bucket _) fun y32 h => ?_; cbv; revert h; refine rk0 (hf_spec_l11Overlap _ _) fun y34 h => ?_; cbv
     revert h; refine cu (fun y36 => some (sparse 43 [(0, .c (.os 5 0 (LEN a0))), (2, .c (.ptr 128 0)), (3, .c (.ptr 192 0)), (4, .c (.v (.int .i64 v1))), (5, .c (.os 832 0 (LEN y36))), (6, .c (.v (.int .i64 v17)))] [(5, .arr .rw [] (LEN a0) 5 (row GD (encSpatialEntry) a0)), (128, .var [.v (.slice none 0 0), .v (.slice none 0 0)]), (192, .var [.os 5 0 (LEN a0), .os 2560 0 (LEN v2)]), (832, .arr .rw [] (LEN y36) 1 (row GD (encI .i64) y36)), (2560, .arr .rw [] (LEN v2) 1 (row GD (oncL LEN GD 1 (encI .i64)) v2))])) ?_ fun w42 => rz fun h => ?_
     ·intro y36 S hS h; cbv; revert h; refine fk ?_ ?_ <;> intro h <;> cbv
      ·revert h; refine ra fun c43 h => ?_; refine ai c43 ?_; revert h; refine rl fun l44 hl44 h => ?_; have e45 : 1 = LEN l44 := by subst hl44 hLEN; rfl
       refine ⟨_, (co e45), _, row GD (encI .i64) l44, e45, wkOf ?_, ?_⟩
       ·intro i hi j hj; rw [← e45] at hi; subst hl44; subst hGD; obtain rfl : i = 0 := (by omega); all_goals obtain rfl : j = 0 := by omega
        all_goals rfl
       cbv; revert h; refine rq fun c48 => rl fun l46 hl46 h => ?_; have e47 := nl hA hLEN hl46; refine ⟨c48, _, (co e47), _, row GD (encI .i64) l46, e47, wkOf ?_, ?_⟩
       ·subst hGD hLEN hA; exact app_os (off := 0) (fun _ _ => rfl) hl46 (Nat.le_refl _)
       cbv; exact dn
      exact dn
     cbv; exact dm
    exact dx
   intro w51 h s q28; replace h := oz (oz h); cbv; refine ⟨_, q28, ?_⟩; cbv
   revert h; refine cu (fun y52 => (sparse 43 [(0, .c (.os 5 0 (LEN a0))), (2, .c (.ptr 128 0)), (3, .c (.ptr 192 0)), (4, .c (.v (.int .i64 v1)))] [(5, .arr .rw [] (LEN a0) 5 (row GD (encSpatialEntry) a0)), (128, .var [.v (.slice none 0 0), .v (.slice none 0 0)]), (192, .var [.os 5 0 (LEN a0), .os 2560 0 (LEN y52)]), (2560, .arr .rw [] (LEN y52) 1 (row GD (oncL LEN GD 1 (encI .i64)) y52))])) ?_ fun w58 => rz fun h => ?_
   ·intro y52 S hS h; cbv; revert h; refine rl fun l59 hl59 h => ?_; have e60 : 1 = LEN l59 := by subst hl59 hLEN; rfl
    refine ⟨_, (co e60), _, (patchC (fun _ _ => AC.junk) 0 [.os 832 0 (LEN w51)]), e60, wkOf ?_, ?_⟩
    ·refine patch_one (by subst hl59 hLEN; rfl) ?_; exact zr
    cbv; revert h; refine rq fun c63 => rl fun l61 hl61 h => ?_; have e62 := nl hA hLEN hl61; refine ⟨c63, _, (co e62), _, (patchC (row GD (oncL LEN GD 1 (encI .i64)) v2) (LEN v2) [.os 832 0 (LEN w51)]), e62, wkOf ?_, ?_⟩
    ·subst hLEN hA; refine patch_joinG (by first | (rw [hl61]; simp [len]; done) | (rw [hl61]; simp [len]; omega) | (subst_vars; simp [len])) ?_; exact zr
    cbv; rw [hl59] at hl61; injection h with h; subst h; subst hS; show St.le _ _; refine St.le_trans (le_foldP 2560 0 832 rfl rfl rfl (by decide) (by subst hLEN; exact app_lt hl61) (by decide) rfl (fun _ _ => rfl)) ?_; exact le_sparse rfl zl ⟨oS, rfl, rfl, oP (fun _ _ => rfl) (by subst hGD hLEN hA; exact patch_app hl61 (Nat.le_refl _) zr), trivial⟩ rfl
   cbv; exact dm
  exact dx
 intro w65 h s q12; replace h := oz (oz h); cbv; refine ⟨_, q12, ?_⟩; cbv; injection h with h; subst h; exact ⟨_, St.le_trans (le_ren 5 64000 (by decide) rfl) ((le_ren 2560 64002 (by decide) rfl)), lR _, zo, rfl⟩

noncomputable def L_spec_l11DrawIndex_mPb_x21  : (Int × Int × (List Int) × Int × Int × (List TSpatialEntry)) → Option ((Int × Int × (List Int) × Int × Int × (List TSpatialEntry)) ⊕ (((List TSpatialEntry) × (List Int) × Int × Int))) := fun x21 =>
 letO x21.1 fun v15 =>
 letO x21.2.1 fun v16 =>
 letO x21.2.2.1 fun v17 =>
 letO x21.2.2.2.1 fun v18 =>
 letO x21.2.2.2.2.1 fun v19 =>
 letO x21.2.2.2.2.2 fun v20 =>
 br (std.lt 0 v16)
 ((F_spec_l01Next_mPbb (Tl01Source.mk v17 v18 v19) 4).bind fun y33 =>
 (F_spec_l11DrawBox_mPb y33.2).bind fun y35 =>
 letO ([(TSpatialEntry.mk (std.add .i64 (std.add .i64 v15 1) y33.1) y35.1)] : List TSpatialEntry) fun l37 =>
 req (std.room (std.nadd (len v20) (len l37)) 40) <|
 letO (v20 ++ l37) fun l39 =>
 some (.inl (std.add .i64 (std.add .i64 v15 1) y33.1, std.sub .i64 v16 1, y35.2.gcode, y35.2.gat, y35.2.gseed, l39)))
 (some (.inr (v20, v17, v18, v19)))
/-- spec.l11DrawIndex -/
noncomputable def F_spec_l11DrawIndex_mPb (a0 : Tl01Source) : Option (TSpatialIndex × Tl01Source) :=
 letO ([] : List TSpatialEntry) fun l1 =>
 (F_spec_l01Next_mPbb (Tl01Source.mk a0.gcode a0.gat a0.gseed) 8).bind fun y3 =>
 (F_spec_l01Next_mPbb y3.2 12).bind fun y5 =>
 ((
    br (std.eq y5.1 0)
    (some 40)
    (some y3.1)
  ) : Option (Int)).bind fun y7 =>
 letO y7 fun w13 =>
 (whileP (σ := Int × Int × (List Int) × Int × Int × (List TSpatialEntry)) (ρ := ((List TSpatialEntry) × (List Int) × Int × Int)) L_spec_l11DrawIndex_mPb_x21 (0, w13, y5.2.gcode, y5.2.gat, y5.2.gseed, l1)).bind fun y22 =>
 letO y22 fun y22k0 =>
 letO y22k0.1 fun w43 =>
 letO y22k0.2.1 fun w44 =>
 letO y22k0.2.2.1 fun w45 =>
 letO y22k0.2.2.2 fun w46 =>
 (F_spec_l11Made_mo w43).bind fun y47 =>
 some (y47, (Tl01Source.mk w44 w45 w46))
set_option maxHeartbeats 4000000 in
theorem run_spec_l11DrawIndex_mPb (a0 : Tl01Source) (r : TSpatialIndex × Tl01Source) (h : F_spec_l11DrawIndex_mPb a0 = some r) : Fun Try.prog 34 [.c (.ptr 5 0)] [(5, .var [.bs (len a0.gcode) 1 (row gd (encI .u8) a0.gcode), .v (.int .i64 a0.gat), .v (.int .i64 a0.gseed)])] (.agg [.os 64000 0 (len r.1.fEntries), .os 64002 0 (len r.1.fBuckets)]) [(64000, .arr .rw [] (len r.1.fEntries) 5 (row gd (encSpatialEntry) r.1.fEntries)), (64002, .arr .rw [] (len r.1.fBuckets) 1 (row gd (oncL len gd 1 (encI .i64)) r.1.fBuckets)), (5, .var [.bs (len r.2.gcode) 1 (row gd (encI .u8) r.2.gcode), .v (.int .i64 r.2.gat), .v (.int .i64 r.2.gseed)])] false := by
 refine ow [100011] Try.func34 Try.ntmps34 ?_ (hv := (fun h => by cases h)); unfold F_spec_l11DrawIndex_mPb at h; unfold L_spec_l11DrawIndex_mPb_x21 at h; have hf_spec_l01Next_mPbb := @run_spec_l01Next_mPbb; have hf_spec_l11DrawBox_mPb := @run_spec_l11DrawBox_mPb; have hf_spec_l11Made_mo := @run_spec_l11Made_mo; generalize hLEN : @len = LEN, hGD : @gd = GD, hA : std = A, hP : Try.prog = P at *; cbv
 revert h; refine rl fun l1 hl1 h => ?_; have e2 : 0 = LEN l1 := by subst hl1 hLEN; rfl
 refine ⟨_, (co e2), _, row GD (encSpatialEntry) l1, e2, wkOf ?_, ?_⟩
 ·intro i hi j hj; rw [← e2] at hi; subst hl1; subst hGD; omega
 cbv; revert h; refine rk [(5, 5)] [(5, 5)] (hf_spec_l01Next_mPbb _ _) (fun _ => yf) fun y3 h => ?_; cbv; revert h; refine rk [(5, 5)] [(5, 5)] (hf_spec_l01Next_mPbb _ _) (fun _ => yf) fun y5 h => ?_; cbv
 revert h; refine cu (fun y7 => some (sparse 30 [(0, .c (.ptr 5 0)), (2, .c (.ptr 128 0)), (3, .c (.os 384 0 (LEN l1))), (4, .c (.v (.int .i64 0))), (5, .c (.v (.int .i64 y7)))] [(5, .var [.bs (LEN y5.2.gcode) 1 (row GD (encI .u8) y5.2.gcode), .v (.int .i64 y5.2.gat), .v (.int .i64 y5.2.gseed)]), (128, .var [.v (.slice none 0 0), .v (.slice none 0 0)]), (384, .arr .rw [] (LEN l1) 5 (row GD (encSpatialEntry) l1))])) (fun y7 S hS h => rg) fun w13 => rz fun h => ?_
 cbv
 revert h; refine ln (.exit 0) (fun x => (sparse 30 [(0, .c (.ptr 5 0)), (2, .c (.ptr 128 0)), (3, .c (.os 384 0 (LEN x.2.2.2.2.2))), (4, .c (.v (.int .i64 x.1))), (5, .c (.v (.int .i64 x.2.1)))] [(5, .var [.bs (LEN x.2.2.1) 1 (row GD (encI .u8) x.2.2.1), .v (.int .i64 x.2.2.2.1), .v (.int .i64 x.2.2.2.2.1)]), (128, .var [.v (.slice none 0 0), .v (.slice none 0 0)]), (384, .arr .rw [] (LEN x.2.2.2.2.2) 5 (row GD (encSpatialEntry) x.2.2.2.2.2))])) (fun w => (sparse 30 [(2, .c (.ptr 128 0)), (3, .c (.os 384 0 (LEN w.1)))] [(128, .var [.v (.slice none 0 0), .v (.slice none 0 0)]), (384, .arr .rw [] (LEN w.1) 5 (row GD (encSpatialEntry) w.1)), (5, .var [.bs (LEN w.2.1) 1 (row GD (encI .u8) w.2.1), .v (.int .i64 w.2.2.1), .v (.int .i64 w.2.2.2)])])) zb ?_ ?_
 ·rintro ⟨v15, v16, v17, v18, v19, v20⟩ z h K hK hY; replace h := oz (oz (oz (oz (oz (oz h))))); dsimp only at h; cbv; revert h; refine fk ?_ ?_ <;> intro h <;> cbv
  ·revert h; refine rk [(5, 5)] [(5, 5)] (hf_spec_l01Next_mPbb _ _) (fun _ => yf) fun y33 h => ?_; cbv; revert h; refine rk [(5, 5)] [(5, 5)] (hf_spec_l11DrawBox_mPb _) (fun _ => yf) fun y35 h => ?_; cbv; revert h; refine rl fun l37 hl37 h => ?_; have e38 : 1 = LEN l37 := by subst hl37 hLEN; rfl
   refine ⟨_, (co e38), _, row GD (encSpatialEntry) l37, e38, wkOf ?_, ?_⟩
   ·intro i hi j hj; rw [← e38] at hi; subst hl37; subst hGD; obtain rfl : i = 0 := (by omega) <;> obtain rfl | rfl | rfl | rfl | rfl : j = 0 ∨ j = 1 ∨ j = 2 ∨ j = 3 ∨ j = 4 := (by omega)
    all_goals rfl
   cbv; revert h; refine rq fun c41 => rl fun l39 hl39 h => ?_; have e40 := nl hA hLEN hl39; refine ⟨c41, _, (co e40), _, row GD (encSpatialEntry) l39, e40, wkOf ?_, ?_⟩
   ·subst hGD hLEN hA; exact app_os (off := 0) (pl_encSpatialEntry) hl39 (Nat.le_refl _)
   cbv; exact dm
  exact dx
 rintro ⟨w43, w44, w45, w46⟩ h s q30; replace h := oz (oz (oz (oz (oz h)))); dsimp only at h; cbv; refine ⟨_, q30, ?_⟩; cbv; revert h; refine rk [(5, 384)] [(64000, 1856), (64002, 1858)] (hf_spec_l11Made_mo _) (fun _ => zf) fun y47 h => ⟨_, rfl, _, _, rfl, fun _ _ _ _ => .refl _, _, _, rfl, fun _ _ _ _ => .refl _, ?_⟩
 cbv; injection h with h; subst h; exact ⟨_, St.le_trans (le_ren 1856 64000 (by decide) rfl) ((le_ren 1858 64002 (by decide) rfl)), lR _, zo, rfl⟩

/-- spec.l11DrawAny -/
noncomputable def F_spec_l11DrawAny_mPb (a0 : Tl01Source) : Option (TSpatialIndex × Tl01Source) :=
 (F_spec_l11DrawIndex_mPb (Tl01Source.mk a0.gcode a0.gat a0.gseed)).bind fun y1 =>
 (F_spec_l01Next_mPbb y1.2 16).bind fun y3 =>
 ((
    br (std.eq y3.1 0)
    (((
       (F_spec_l01Next_mPbb y3.2 25).bind fun y26 =>
       (F_spec_l01Next_mPbb y26.2 9).bind fun y28 =>
       letO ([y28.1] : List Int) fun l30 =>
       req (std.inR y26.1 (len y1.1.fBuckets)) <|
       letO (List.set y1.1.fBuckets (std.nadd 0 (std.toN y26.1)) l30) fun l33 =>
       some (y28.2.gcode, y28.2.gat, y28.2.gseed, l33)
     ) : Option ((List Int) × Int × Int × (List (List Int)))).bind fun y16 =>
    letO y16.1 fun w22 =>
    letO y16.2.1 fun w23 =>
    letO y16.2.2.1 fun w24 =>
    letO y16.2.2.2 fun w25 =>
    req (len y1.1.fBuckets = len w25) <|
    some (w22, w23, w24, w25, y1.1.fEntries))
    (((
       br (std.eq y3.1 1)
       (req (std.upTo 24 (len y1.1.fBuckets)) <|
       req (std.upTo 0 (std.toN 24)) <|
       letO (List.take (std.nsub (std.toN 24) (std.toN 0)) (List.drop (std.nadd 0 (std.toN 0)) y1.1.fBuckets)) fun l48 =>
       req (std.nsub (std.toN 24) (std.toN 0) = len l48) <|
       req (0 < std.nsub (std.toN 24) (std.toN 0)) <|
       some (l48, y3.2.gcode, y3.2.gat, y3.2.gseed, y1.1.fEntries))
       (((
          br (std.eq y3.1 2)
          (((
             br (std.lt 0 (std.ofN (len y1.1.fEntries)))
             ((F_spec_l01Next_mPbb y3.2 12).bind fun y71 =>
             req (std.inR 0 (len y1.1.fEntries)) <|
             letO (List.set y1.1.fEntries (std.nadd 0 (std.toN 0)) (TSpatialEntry.mk (std.sub .i64 y71.1 1) (gd y1.1.fEntries (std.nadd 0 (std.toN 0))).fBox)) fun l74 =>
             some (y71.2.gcode, y71.2.gat, y71.2.gseed, l74))
             (some (y3.2.gcode, y3.2.gat, y3.2.gseed, y1.1.fEntries))
           ) : Option ((List Int) × Int × Int × (List TSpatialEntry))).bind fun y61 =>
          letO y61.1 fun w67 =>
          letO y61.2.1 fun w68 =>
          letO y61.2.2.1 fun w69 =>
          letO y61.2.2.2 fun w70 =>
          some (w67, w68, w69, w70))
          (((
             br (std.eq y3.1 3)
             (((
                br (std.lt 0 (std.ofN (len y1.1.fEntries)))
                (req (std.inR 0 (len y1.1.fEntries)) <|
                letO (List.set y1.1.fEntries (std.nadd 0 (std.toN 0)) (TSpatialEntry.mk (gd y1.1.fEntries (std.nadd 0 (std.toN 0))).fId (TRect.mk 3 3 3 4))) fun l91 =>
                some l91)
                (some y1.1.fEntries)
              ) : Option ((List TSpatialEntry))).bind fun y83 =>
             letO y83 fun w89 =>
             some w89)
             (some y1.1.fEntries)
           ) : Option ((List TSpatialEntry))).bind fun y76 =>
          letO y76 fun w82 =>
          some (y3.2.gcode, y3.2.gat, y3.2.gseed, w82))
        ) : Option ((List Int) × Int × Int × (List TSpatialEntry))).bind fun y51 =>
       letO y51.1 fun w57 =>
       letO y51.2.1 fun w58 =>
       letO y51.2.2.1 fun w59 =>
       letO y51.2.2.2 fun w60 =>
       some (y1.1.fBuckets, w57, w58, w59, w60))
     ) : Option ((List (List Int)) × (List Int) × Int × Int × (List TSpatialEntry))).bind fun y35 =>
    letO y35.1 fun w41 =>
    letO y35.2.1 fun w42 =>
    letO y35.2.2.1 fun w43 =>
    letO y35.2.2.2.1 fun w44 =>
    letO y35.2.2.2.2 fun w45 =>
    some (w42, w43, w44, w41, w45))
  ) : Option ((List Int) × Int × Int × (List (List Int)) × (List TSpatialEntry))).bind fun y5 =>
 letO y5.1 fun w11 =>
 letO y5.2.1 fun w12 =>
 letO y5.2.2.1 fun w13 =>
 letO y5.2.2.2.1 fun w14 =>
 letO y5.2.2.2.2 fun w15 =>
 req (len y1.1.fEntries = len w15) <|
 some ((TSpatialIndex.mk w15 w14), (Tl01Source.mk w11 w12 w13))
set_option maxHeartbeats 4000000 in
theorem run_spec_l11DrawAny_mPb (a0 : Tl01Source) (r : TSpatialIndex × Tl01Source) (h : F_spec_l11DrawAny_mPb a0 = some r) : Fun Try.prog 16 [.c (.ptr 5 0)] [(5, .var [.bs (len a0.gcode) 1 (row gd (encI .u8) a0.gcode), .v (.int .i64 a0.gat), .v (.int .i64 a0.gseed)])] (.agg [.os 64000 0 (len r.1.fEntries), .os 64002 0 (len r.1.fBuckets)]) [(64000, .arr .rw [] (len r.1.fEntries) 5 (row gd (encSpatialEntry) r.1.fEntries)), (64002, .arr .rw [] (len r.1.fBuckets) 1 (row gd (oncL len gd 1 (encI .i64)) r.1.fBuckets)), (5, .var [.bs (len r.2.gcode) 1 (row gd (encI .u8) r.2.gcode), .v (.int .i64 r.2.gat), .v (.int .i64 r.2.gseed)])] false := by
 refine ow [4, 100008, 100018, 100024, 100029, 100037, 100042] Try.func16 Try.ntmps16 ?_ (hv := (fun h => by cases h)); unfold F_spec_l11DrawAny_mPb at h; have hf_spec_l01Next_mPbb := @run_spec_l01Next_mPbb; have hf_spec_l11DrawIndex_mPb := @run_spec_l11DrawIndex_mPb; generalize hLEN : @len = LEN, hGD : @gd = GD, hA : std = A, hP : Try.prog = P at *; cbv
 revert h; refine rk [(5, 5)] [(64000, 320), (64002, 322), (5, 5)] (hf_spec_l11DrawIndex_mPb _) (fun _ => ⟨les_cons (lR _) (les_nil), ⟨rfl, trivial⟩, rfl, rfl, rfl, rfl, ⟨fun h => absurd (show (64000 : Nat) % 2 = 1 from h) (by decide), fun h => absurd (show (64002 : Nat) % 2 = 1 from h) (by decide), fun _ => rfl, trivial⟩, rfl⟩) fun y1 h => ⟨_, rfl, _, _, rfl, fun _ _ _ _ => .refl _, _, _, rfl, fun _ _ _ _ => .refl _, ?_⟩
 cbv; revert h; refine rk [(5, 5)] [(5, 5)] (hf_spec_l01Next_mPbb _ _) (fun _ => yf) fun y3 h => ?_; cbv
 revert h; refine cu (fun y5 => some (sparse 49 [(2, .c (.ptr 128 0)), (3, .c (.ptr 192 0))] [(128, .var [.v (.slice none 0 0), .v (.slice none 0 0)]), (192, .var [.os 320 0 (LEN y1.1.fEntries), .os 322 0 (LEN y5.2.2.2.1)]), (5, .var [.bs (LEN y5.1) 1 (row GD (encI .u8) y5.1), .v (.int .i64 y5.2.1), .v (.int .i64 y5.2.2.1)]), (320, .arr .rw [] (LEN y1.1.fEntries) 5 (row GD (encSpatialEntry) y5.2.2.2.2)), (322, .arr .rw [] (LEN y5.2.2.2.1) 1 (row GD (oncL LEN GD 1 (encI .i64)) y5.2.2.2.1))])) ?_ ?_
 ·intro y5 S hS h; cbv; revert h; refine fk ?_ ?_ <;> intro h <;> cbv
  ·revert h; refine cu (fun y16 => (sparse 49 [(2, .c (.ptr 128 0)), (3, .c (.ptr 192 0))] [(128, .var [.v (.slice none 0 0), .v (.slice none 0 0)]), (192, .var [.os 320 0 (LEN y1.1.fEntries), .os 322 0 (LEN y1.1.fBuckets)]), (5, .var [.bs (LEN y16.1) 1 (row GD (encI .u8) y16.1), .v (.int .i64 y16.2.1), .v (.int .i64 y16.2.2.1)]), (320, .arr .rw [] (LEN y1.1.fEntries) 5 (row GD (encSpatialEntry) y1.1.fEntries)), (322, .arr .rw [] (LEN y1.1.fBuckets) 1 (row GD (oncL LEN GD 1 (encI .i64)) y16.2.2.2))])) ?_ ?_
   ·intro y16 S hS h; cbv; revert h; refine rk [(5, 5)] [(5, 5)] (hf_spec_l01Next_mPbb _ _) (fun _ => yf) fun y26 h => ?_; cbv; revert h; refine rk [(5, 5)] [(5, 5)] (hf_spec_l01Next_mPbb _ _) (fun _ => yf) fun y28 h => ?_; cbv; revert h; refine rl fun l30 hl30 h => ?_; have e31 : 1 = LEN l30 := by subst hl30 hLEN; rfl
    refine ⟨_, (co e31), _, row GD (encI .i64) l30, e31, wkOf ?_, ?_⟩
    ·intro i hi j hj; rw [← e31] at hi; subst hl30; subst hGD; obtain rfl : i = 0 := (by omega); all_goals obtain rfl : j = 0 := by omega
     all_goals rfl
    cbv; revert h; refine ra fun c32 h => ?_; refine ai c32 ?_; refine ⟨_, rfl, _, (patchC (row GD (oncL LEN GD 1 (encI .i64)) y1.1.fBuckets) (A.nadd 0 (A.toN y26.1)) [.os 1024 0 (LEN l30)]), rfl, wkOf (patch_of zr), ?_⟩; cbv; revert h; refine rl fun l33 hl33 h => ?_; injection h with h; subst h; subst hS; show St.le _ _
    refine St.le_trans (le_foldP 322 0 1024 rfl rfl rfl (by decide) (by subst hA; exact idx_lt c32) (by decide) rfl (fun _ _ => rfl)) ?_; exact le_sparse rfl zl ⟨rfl, rfl, rfl, oS, oP (fun _ _ => rfl) (by subst hGD hLEN hA; exact patch_set hl33 (idx_lt c32) zr), trivial⟩ rfl
   rintro ⟨w22, w23, w24, w25⟩ h; replace h := oz (oz (oz (oz h))); dsimp only at h; cbv; revert h; refine rq fun c34 h => ?_; injection h with h; subst h; subst hS; show St.le _ _; rw [c34]; exact zb
  revert h; refine cu (fun y35 => some (sparse 49 [(2, .c (.ptr 128 0)), (3, .c (.ptr 192 0))] [(128, .var [.v (.slice none 0 0), .v (.slice none 0 0)]), (192, .var [.os 320 0 (LEN y1.1.fEntries), .os 322 0 (LEN y35.1)]), (5, .var [.bs (LEN y35.2.1) 1 (row GD (encI .u8) y35.2.1), .v (.int .i64 y35.2.2.1), .v (.int .i64 y35.2.2.2.1)]), (320, .arr .rw [] (LEN y1.1.fEntries) 5 (row GD (encSpatialEntry) y35.2.2.2.2)), (322, .arr .rw [] (LEN y35.1) 1 (row GD (oncL LEN GD 1 (encI .i64)) y35.1))])) ?_ ?_
  ·intro y35 S hS h; cbv; revert h; refine fk ?_ ?_ <;> intro h <;> cbv
   ·revert h; refine rq fun c46 => rq fun c47 h => ?_; refine And.intro (by first | exact ⟨c46, c47, (fun h0 => by cases h0), trivial⟩ | exact ⟨c46, c47, (fun h0 => by cases h0)⟩ | exact ⟨c46, c47, trivial⟩ | exact ⟨c46, c47⟩) ?_; revert h; refine rl fun l48 hl48 => rq fun c49 => rq fun c50 h => ?_; injection h with h; subst h; subst hS; show St.le _ _
    refine St.le_trans (le_headV 192 1 322 (A.nadd 0 (A.toN 0)) (A.nsub (A.toN 24) (A.toN 0)) (by subst hA; rfl) c50 (by decide) (by decide) rfl rfl rfl) ?_; rw [c49]; exact le_sparse rfl zl ⟨rfl, rfl, rfl, oS, oW (by subst hGD; exact fun i hi j hj => congrArg (fun x => (oncL LEN gd 1 (encI .i64)) x j) (part_gd hl48 (by rw [c49]; exact hi))), trivial⟩ rfl
   revert h; refine cu (fun y51 => some (sparse 49 [(2, .c (.ptr 128 0)), (3, .c (.ptr 192 0))] [(128, .var [.v (.slice none 0 0), .v (.slice none 0 0)]), (192, .var [.os 320 0 (LEN y1.1.fEntries), .os 322 0 (LEN y1.1.fBuckets)]), (5, .var [.bs (LEN y51.1) 1 (row GD (encI .u8) y51.1), .v (.int .i64 y51.2.1), .v (.int .i64 y51.2.2.1)]), (320, .arr .rw [] (LEN y1.1.fEntries) 5 (row GD (encSpatialEntry) y51.2.2.2)), (322, .arr .rw [] (LEN y1.1.fBuckets) 1 (row GD (oncL LEN GD 1 (encI .i64)) y1.1.fBuckets))])) ?_ ?_
   ·intro y51 S hS h; cbv; revert h; refine fk ?_ ?_ <;> intro h <;> cbv
    ·revert h; refine cu (fun y61 => some (sparse 49 [(2, .c (.ptr 128 0)), (3, .c (.ptr 192 0))] [(128, .var [.v (.slice none 0 0), .v (.slice none 0 0)]), (192, .var [.os 320 0 (LEN y1.1.fEntries), .os 322 0 (LEN y1.1.fBuckets)]), (5, .var [.bs (LEN y61.1) 1 (row GD (encI .u8) y61.1), .v (.int .i64 y61.2.1), .v (.int .i64 y61.2.2.1)]), (320, .arr .rw [] (LEN y1.1.fEntries) 5 (row GD (encSpatialEntry) y61.2.2.2)), (322, .arr .rw [] (LEN y1.1.fBuckets) 1 (row GD (oncL LEN GD 1 (encI .i64)) y1.1.fBuckets))])) ?_ ?_
     ·intro y61 S hS h; cbv; revert h; refine fk ?_ ?_ <;> intro h <;> cbv
      ·revert h; refine rk [(5, 5)] [(5, 5)] (hf_spec_l01Next_mPbb _ _) (fun _ => yf) fun y71 h => ?_; cbv; revert h; refine ra fun c73 h => ?_; revert h; refine rl fun l74 hl74 h => ?_; refine ai c73 ?_; refine ⟨_, rfl, _, row GD (encSpatialEntry) l74, rfl, wkOf (us hA hLEN hGD hl74 c73 rfl), ?_⟩; cbv; exact dn
      exact dn
     rintro ⟨w67, w68, w69, w70⟩ h; replace h := oz (oz (oz (oz h))); dsimp only at h; cbv; exact dn
    revert h; refine cu (fun y76 => some (sparse 49 [(2, .c (.ptr 128 0)), (3, .c (.ptr 192 0))] [(128, .var [.v (.slice none 0 0), .v (.slice none 0 0)]), (192, .var [.os 320 0 (LEN y1.1.fEntries), .os 322 0 (LEN y1.1.fBuckets)]), (5, .var [.bs (LEN y3.2.gcode) 1 (row GD (encI .u8) y3.2.gcode), .v (.int .i64 y3.2.gat), .v (.int .i64 y3.2.gseed)]), (320, .arr .rw [] (LEN y1.1.fEntries) 5 (row GD (encSpatialEntry) y76)), (322, .arr .rw [] (LEN y1.1.fBuckets) 1 (row GD (oncL LEN GD 1 (encI .i64)) y1.1.fBuckets))])) ?_ fun w82 => rz fun h => ?_
    ·intro y76 S hS h; cbv; revert h; refine fk ?_ ?_ <;> intro h <;> cbv
     ·revert h; refine cu (fun y83 => some (sparse 49 [(2, .c (.ptr 128 0)), (3, .c (.ptr 192 0))] [(128, .var [.v (.slice none 0 0), .v (.slice none 0 0)]), (192, .var [.os 320 0 (LEN y1.1.fEntries), .os 322 0 (LEN y1.1.fBuckets)]), (5, .var [.bs (LEN y3.2.gcode) 1 (row GD (encI .u8) y3.2.gcode), .v (.int .i64 y3.2.gat), .v (.int .i64 y3.2.gseed)]), (320, .arr .rw [] (LEN y1.1.fEntries) 5 (row GD (encSpatialEntry) y83)), (322, .arr .rw [] (LEN y1.1.fBuckets) 1 (row GD (oncL LEN GD 1 (encI .i64)) y1.1.fBuckets))])) ?_ fun w89 => rz fun h => ?_
      ·intro y83 S hS h; cbv; revert h; refine fk ?_ ?_ <;> intro h <;> cbv
       ·revert h; refine ra fun c90 h => ?_; revert h; refine rl fun l91 hl91 h => ?_; refine ai c90 ?_; refine ⟨_, rfl, _, row GD (encSpatialEntry) l91, rfl, wkOf (us hA hLEN hGD hl91 c90 rfl), ?_⟩; cbv; exact dn
       exact dn
      cbv; exact dn
     exact dn
    cbv; exact dn
   rintro ⟨w57, w58, w59, w60⟩ h; replace h := oz (oz (oz (oz h))); dsimp only at h; cbv; exact dn
  rintro ⟨w41, w42, w43, w44, w45⟩ h; replace h := oz (oz (oz (oz (oz h)))); dsimp only at h; cbv; exact dn
 rintro ⟨w11, w12, w13, w14, w15⟩ h; replace h := oz (oz (oz (oz (oz h)))); dsimp only at h; cbv; revert h; refine rq fun c97 h => ?_; injection h with h; subst h
 refine ⟨(sparse 49 [(2, .c (.ptr 128 0))] [(128, .var [.os 64000 0 (LEN w15), .os 64002 0 (LEN w14)]), (5, .var [.bs (LEN w11) 1 (row GD (encI .u8) w11), .v (.int .i64 w12), .v (.int .i64 w13)]), (64000, .arr .rw [] (LEN w15) 5 (row GD (encSpatialEntry) w15)), (64002, .arr .rw [] (LEN w14) 1 (row GD (oncL LEN GD 1 (encI .i64)) w14))]), ?_, ?_⟩
 ·refine St.le_trans (le_ren 320 64000 (by decide) rfl) ?_; refine St.le_trans (le_ren 322 64002 (by decide) rfl) ?_; rw [c97]; exact zb
 ·exact ⟨lR _, zo, rfl⟩

/-- spec.l11DrawWindow -/
noncomputable def F_spec_l11DrawWindow_mPb (a0 : Tl01Source) : Option (TRect × Tl01Source) :=
 (F_spec_l01Next_mPbb a0 16).bind fun y1 =>
 br (std.eq y1.1 0)
 ((F_spec_l01Next_mPbb y1.2 90).bind fun y3 =>
 (F_spec_l01Next_mPbb y3.2 90).bind fun y5 =>
 some ((TRect.mk (std.sub .i64 y3.1 45) 0 (std.sub .i64 y5.1 45) 3), y5.2))
 ((F_spec_l11DrawBox_mPb y1.2).bind fun y7 =>
 some (y7.1, y7.2))
set_option maxHeartbeats 4000000 in
theorem run_spec_l11DrawWindow_mPb (a0 : Tl01Source) (r : TRect × Tl01Source) (h : F_spec_l11DrawWindow_mPb a0 = some r) : Fun Try.prog 17 [.c (.ptr 5 0)] [(5, .var [.bs (len a0.gcode) 1 (row gd (encI .u8) a0.gcode), .v (.int .i64 a0.gat), .v (.int .i64 a0.gseed)])] (.agg [.v (.int .i64 r.1.fX0), .v (.int .i64 r.1.fY0), .v (.int .i64 r.1.fX1), .v (.int .i64 r.1.fY1)]) [(5, .var [.bs (len r.2.gcode) 1 (row gd (encI .u8) r.2.gcode), .v (.int .i64 r.2.gat), .v (.int .i64 r.2.gseed)])] false := by
 refine ow [] Try.func17 Try.ntmps17 ?_ (hv := (fun h => by cases h)); unfold F_spec_l11DrawWindow_mPb at h; have hf_spec_l01Next_mPbb := @run_spec_l01Next_mPbb; have hf_spec_l11DrawBox_mPb := @run_spec_l11DrawBox_mPb; generalize hLEN : @len = LEN, hGD : @gd = GD, hA : std = A, hP : Try.prog = P at *; cbv; revert h; refine rk [(5, 5)] [(5, 5)] (hf_spec_l01Next_mPbb _ _) (fun _ => yf) fun y1 h => ?_
 cbv; revert h; refine fk ?_ ?_ <;> intro h <;> cbv
 ·revert h; refine rk [(5, 5)] [(5, 5)] (hf_spec_l01Next_mPbb _ _) (fun _ => yf) fun y3 h => ?_; cbv; revert h; refine rk [(5, 5)] [(5, 5)] (hf_spec_l01Next_mPbb _ _) (fun _ => yf) fun y5 h => ?_; cbv; exact df
 revert h; refine rk [(5, 5)] [(5, 5)] (hf_spec_l11DrawBox_mPb _) (fun _ => yf) fun y7 h => ?_; cbv; exact df

/-- spec.DrawEntriesIn -/
noncomputable def F_spec_DrawEntriesIn (a0 : List Int) : Option (TSpatialIndex × TRect) :=
 (F_spec_l01From a0).bind fun y1 =>
 (F_spec_l11DrawAny_mPb y1).bind fun y3 =>
 (F_spec_l11DrawWindow_mPb y3.2).bind fun y5 =>
 some (y3.1, y5.1)
set_option maxHeartbeats 4000000 in
theorem run_spec_DrawEntriesIn (a0 : List Int) (r : TSpatialIndex × TRect) (h : F_spec_DrawEntriesIn a0 = some r) : Fun Try.prog 6 [.c (.bs (len a0) 1 (row gd (encI .u8) a0))] [] (.tup [.agg [.os 64000 0 (len r.1.fEntries), .os 64002 0 (len r.1.fBuckets)], .agg [.v (.int .i64 r.2.fX0), .v (.int .i64 r.2.fY0), .v (.int .i64 r.2.fX1), .v (.int .i64 r.2.fY1)]]) [(64000, .arr .rw [] (len r.1.fEntries) 5 (row gd (encSpatialEntry) r.1.fEntries)), (64002, .arr .rw [] (len r.1.fBuckets) 1 (row gd (oncL len gd 1 (encI .i64)) r.1.fBuckets))] true := by
 refine ow [] Try.func6 Try.ntmps6 ?_ (hv := (fun _ => ⟨(by simp [AV.flat, AV.flat1, AC.flat]), ⟨fun i _ j _ => val_flat (vl_encSpatialEntry _ _), fun i _ j _ => fl_oncL (fun _ _ => rfl) _ _, trivial⟩⟩)); unfold F_spec_DrawEntriesIn at h; have hf_spec_l01From := @run_spec_l01From; have hf_spec_l11DrawAny_mPb := @run_spec_l11DrawAny_mPb; have hf_spec_l11DrawWindow_mPb := @run_spec_l11DrawWindow_mPb
 generalize hLEN : @len = LEN, hGD : @gd = GD, hA : std = A, hP : Try.prog = P at *; cbv; revert h; refine rk [] [(64000, 448)] (hf_spec_l01From _) (fun _ => zf) fun y1 h => ?_; cbv
 revert h; refine rk [(5, 448)] [(64000, 576), (64002, 578), (5, 448)] (hf_spec_l11DrawAny_mPb _) (fun _ => ⟨les_cons (lR _) (les_nil), ⟨rfl, trivial⟩, rfl, rfl, rfl, rfl, ⟨fun h => absurd (show (64000 : Nat) % 2 = 1 from h) (by decide), fun h => absurd (show (64002 : Nat) % 2 = 1 from h) (by decide), fun _ => rfl, trivial⟩, rfl⟩) fun y3 h => ⟨_, rfl, _, _, rfl, fun _ _ _ _ => .refl _, _, _, rfl, fun _ _ _ _ => .refl _, ?_⟩
 cbv; revert h; refine rk [(5, 448)] [(5, 448)] (hf_spec_l11DrawWindow_mPb _) (fun _ => yf) fun y5 h => ?_; cbv; injection h with h; subst h; exact ⟨_, St.le_trans (le_ren 576 64000 (by decide) rfl) ((le_ren 578 64002 (by decide) rfl)), lR _, zo, rfl⟩

/-- impl.within -/
noncomputable def F_impl_within (a0 : Int) (a1 : Int) (a2 : Int) : Option (Bool) :=
 ((
    br (std.le a1 a0)
    (some (std.le a0 a2))
    (some false)
  ) : Option (Bool)).bind fun y1 =>
 letO y1 fun w7 =>
 some w7
set_option maxHeartbeats 4000000 in
theorem run_impl_within (a0 : Int) (a1 : Int) (a2 : Int) (r : Bool) (h : F_impl_within a0 a1 a2 = some r) : Fun Try.prog 37 [.c (.v (.int .i64 a0)), .c (.v (.int .i64 a1)), .c (.v (.int .i64 a2))] [] (.c (.v (.bool r))) [] true := by
 refine ow [1] Try.func37 Try.ntmps37 ?_; unfold F_impl_within at h; generalize hLEN : @len = LEN, hGD : @gd = GD, hA : std = A, hP : Try.prog = P at *; cbv; revert h; refine cu (fun y1 => (sparse 15 [(6, .c (.v (.bool y1)))] [])) (fun y1 S hS h => rg) fun w7 => rz fun h => ?_; cbv; exact df
end Go.Proofs.Ythjpkcpoepnolaa.AM
