/-
  What the functions that the law reaches compute, and that they do. No condition.
-/
import Derived.Test.YthjpkcpoepnolaaAmT
import Derived.Test.YthjpkcpoepnolaaAmE
import Derived.Shelf.SlicesG.CompactI
import Derived.Shelf.SortM.Plain
import Derived.Shelf.SortM.SortNone
import Derived.Test.YthjpkcpoepnolaaChecked
namespace Go.Proofs.Ythjpkcpoepnolaa.AM
open Go Go.Proofs Go.RowKit
set_option linter.unusedVariables false
set_option linter.unusedSimpArgs false
set_option maxRecDepth 100000

theorem mixed : Try.prog.follows .mixedOrders = true := by kernel_rfl
theorem ow (J : List Nat) {f : FuncId} {fn : Func} {c : Code} {n : Nat} {rs : List ResultVar} {args : List AV} {r : AV} {o0 o1 : List (Nat × AO)} {fl : Bool} (hf : Try.prog.funcs[f]? = some fn) (hn : fn.ntmps = n) (h : wp std Try.prog T (oneOf J) c (startSt n args o0) (endsIn T rs r o1)) (hb : fn.body = some c := by rfl) (hs : fn.results.toList = rs := by rfl) (ha : (fn.name == "runtime.NumGoroutine") = false := by kernel_rfl) (hw : wfO o0 := by exact trivial) (hv : fl = true → r.flat ∧ flatO o1 := by exact fun _ => ⟨trivial, trivial⟩) : Fun Try.prog f args o0 r o1 fl := Fun.of_wp (oneOf J) tok mixed hf ha hb hn hs hw hv h
structure TRect where
 fX0 : Int
 fY0 : Int
 fX1 : Int
 fY1 : Int
instance : Inhabited TRect := ⟨⟨default, default, default, default⟩⟩
def encRect (x : TRect) : Nat → AC := fun j => match j with
 | 0 => .v (.int .i64 x.fX0)
 | 1 => .v (.int .i64 x.fY0)
 | 2 => .v (.int .i64 x.fX1)
 | _ => .v (.int .i64 x.fY1)
theorem pl_encRect : ∀ (x : TRect) (j : Nat), plainC (encRect x j) = true := by
 intro x j
 unfold encRect
 split <;> rfl
theorem vl_encRect : ∀ (x : TRect) (j : Nat), valC (encRect x j) = true := by
 intro x j
 unfold encRect
 split <;> rfl
structure TSpatialEntry where
 fId : Int
 fBox : TRect
instance : Inhabited TSpatialEntry := ⟨⟨default, default⟩⟩
def encSpatialEntry (x : TSpatialEntry) : Nat → AC := fun j => match j with
 | 0 => .v (.int .i64 x.fId)
 | 1 => .v (.int .i64 x.fBox.fX0)
 | 2 => .v (.int .i64 x.fBox.fY0)
 | 3 => .v (.int .i64 x.fBox.fX1)
 | _ => .v (.int .i64 x.fBox.fY1)
theorem pl_encSpatialEntry : ∀ (x : TSpatialEntry) (j : Nat), plainC (encSpatialEntry x j) = true := by
 intro x j
 unfold encSpatialEntry
 split <;> rfl
theorem vl_encSpatialEntry : ∀ (x : TSpatialEntry) (j : Nat), valC (encSpatialEntry x j) = true := by
 intro x j
 unfold encSpatialEntry
 split <;> rfl
structure TSpatialIndex where
 fEntries : List TSpatialEntry
 fBuckets : List (List Int)
instance : Inhabited TSpatialIndex := ⟨⟨default, default⟩⟩
def encSpatialIndex (LEN : {α : Type} → List α → Nat) (GD : {α : Type} → [Inhabited α] → List α → Nat → α) (x : TSpatialIndex) : Nat → AC := fun j => match j with
 | 0 => .bs (LEN x.fEntries) 5 (row GD (encSpatialEntry) x.fEntries)
 | _ => .bs (LEN x.fBuckets) 1 (row GD (encL LEN GD 1 (encI .i64)) x.fBuckets)
theorem pl_encSpatialIndex {LEN : {α : Type} → List α → Nat} {GD : {α : Type} → [Inhabited α] → List α → Nat → α} : ∀ (x : TSpatialIndex) (j : Nat), plainC (encSpatialIndex LEN GD x j) = true := by
 intro x j
 unfold encSpatialIndex
 split <;> rfl
/-- laws.szSpatialEntryS -/
noncomputable def F_laws_szSpatialEntryS (a0 : List TSpatialEntry) (a1 : Int) : Option (Int) :=
 br (std.lt (std.sub .i64 a1 (std.ofN (len a0))) 0)
 (some (-1))
 (some (std.sub .i64 a1 (std.ofN (len a0))))
set_option maxHeartbeats 4000000 in
theorem run_laws_szSpatialEntryS (a0 : List TSpatialEntry) (a1 : Int) (r : Int) (h : F_laws_szSpatialEntryS a0 a1 = some r) : Fun Try.prog 24 [.c (.bs (len a0) 5 (row gd (encSpatialEntry) a0)), .c (.v (.int .i64 a1))] [] (.c (.v (.int .i64 r))) [] true := by
 refine ow [] Try.func24 Try.ntmps24 ?_; unfold F_laws_szSpatialEntryS at h; generalize hLEN : @len = LEN, hGD : @gd = GD, hA : std = A, hP : Try.prog = P at *; cbv; revert h; refine fk ?_ ?_ <;> intro h <;> cbv
 ·exact df
 exact df

/-- laws.szInt64S -/
noncomputable def F_laws_szInt64S (a0 : List Int) (a1 : Int) : Option (Int) :=
 br (std.lt (std.sub .i64 a1 (std.ofN (len a0))) 0)
 (some (-1))
 (some (std.sub .i64 a1 (std.ofN (len a0))))
set_option maxHeartbeats 4000000 in
theorem run_laws_szInt64S (a0 : List Int) (a1 : Int) (r : Int) (h : F_laws_szInt64S a0 a1 = some r) : Fun Try.prog 45 [.c (.bs (len a0) 1 (row gd (encI .i64) a0)), .c (.v (.int .i64 a1))] [] (.c (.v (.int .i64 r))) [] true := by
 refine ow [] Try.func45 Try.ntmps45 ?_; unfold F_laws_szInt64S at h; generalize hLEN : @len = LEN, hGD : @gd = GD, hA : std = A, hP : Try.prog = P at *; cbv; revert h; refine fk ?_ ?_ <;> intro h <;> cbv
 ·exact df
 exact df

noncomputable def L_laws_szInt64SS_x3 (a0 : List (List Int)) : (Int × Int) → Option ((Int × Int) ⊕ ((Int) ⊕ (Int))) := fun x3 =>
 letO x3.1 fun v1 =>
 letO x3.2 fun v2 =>
 br (std.lt v2 (std.ofN (len a0)))
 (req (std.inR v2 (len a0)) <|
 (F_laws_szInt64S (gd a0 (std.toN v2)) v1).bind fun y16 =>
 br (std.lt y16 0)
 (some (.inr (.inl (-1))))
 (some (.inl (y16, std.add .i64 v2 1))))
 (some (.inr (.inr v1)))
/-- laws.szInt64SS -/
noncomputable def F_laws_szInt64SS (a0 : List (List Int)) (a1 : Int) : Option (Int) :=
 br (std.lt (std.sub .i64 a1 (std.ofN (len a0))) 0)
 (some (-1))
 ((whileP (σ := Int × Int) (ρ := (Int) ⊕ (Int)) (L_laws_szInt64SS_x3 a0) (std.sub .i64 a1 (std.ofN (len a0)), 0)).bind fun y4 =>
 (match y4 with
  | .inl y4k0 => (
    letO y4k0 fun w20 =>
    some w20)
  | .inr y4m0 =>
    letO y4m0 fun y4k1 =>
    letO y4k1 fun w21 =>
    some w21))
set_option maxHeartbeats 4000000 in
theorem run_laws_szInt64SS (a0 : List (List Int)) (a1 : Int) (r : Int) (h : F_laws_szInt64SS a0 a1 = some r) : Fun Try.prog 25 [.c (.bs (len a0) 1 (row gd (encL len gd 1 (encI .i64)) a0)), .c (.v (.int .i64 a1))] [] (.c (.v (.int .i64 r))) [] true := by
 refine ow [] Try.func25 Try.ntmps25 ?_; unfold F_laws_szInt64SS at h; unfold L_laws_szInt64SS_x3 at h; have hf_laws_szInt64S := @run_laws_szInt64S; generalize hLEN : @len = LEN, hGD : @gd = GD, hA : std = A, hP : Try.prog = P at *; cbv; revert h; refine fk ?_ ?_ <;> intro h <;> cbv
 ·exact df
 revert h; refine lc (fun x => (sparse 27 [(0, .c (.bs (LEN a0) 1 (row GD (encL LEN GD 1 (encI .i64)) a0))), (1, .c (.v (.int .i64 x.1))), (5, .c (.v (.int .i64 x.2)))] [])) (fun y e s => (match y with | .inl w => e = .ret ∧ s.le (sparse 27 [(4, .c (.v (.int .i64 w)))] []) | .inr w0 => (fun (w : Int) => e = .exit 0 ∧ s.le (sparse 27 [(1, .c (.v (.int .i64 w)))] [])) w0)) zb ?_ ?_
 ·rintro ⟨v1, v2⟩ z h K hK hY; replace h := oz (oz h); dsimp only at h; cbv; revert h; refine fk ?_ ?_ <;> intro h <;> cbv
  ·revert h; refine ra fun c15 h => ?_; revert h; refine rk0 (hf_laws_szInt64S _ _) fun y16 h => ?_; cbv; revert h; refine fk ?_ ?_ <;> intro h <;> cbv
   ·exact dy
   exact dm
  exact dy
 intro y4 h e13 s14 q12 hne; rcases y4 with y4k0 | y4m0
 ·replace h := h; obtain ⟨rfl, q12⟩ := q12; revert h; refine rz fun h => ?_; cbv; injection h with h; subst h; exact ⟨_, q12, lR _, zo, rfl⟩
 ·revert h; refine rz fun h => ?_; obtain ⟨rfl, q12⟩ := q12; revert h; refine rz fun h => ?_; cbv; refine ⟨_, q12, ?_⟩; cbv; exact df

/-- laws.szSpatialIndex -/
noncomputable def F_laws_szSpatialIndex (a0 : TSpatialIndex) (a1 : Int) : Option (Int) :=
 (F_laws_szSpatialEntryS a0.fEntries a1).bind fun y1 =>
 br (std.lt y1 0)
 (some (-1))
 ((F_laws_szInt64SS a0.fBuckets y1).bind fun y3 =>
 br (std.lt y3 0)
 (some (-1))
 (some y3))
set_option maxHeartbeats 4000000 in
theorem run_laws_szSpatialIndex (a0 : TSpatialIndex) (a1 : Int) (r : Int) (h : F_laws_szSpatialIndex a0 a1 = some r) : Fun Try.prog 10 [.agg [.bs (len a0.fEntries) 5 (row gd (encSpatialEntry) a0.fEntries), .bs (len a0.fBuckets) 1 (row gd (encL len gd 1 (encI .i64)) a0.fBuckets)], .c (.v (.int .i64 a1))] [] (.c (.v (.int .i64 r))) [] true := by
 refine ow [] Try.func10 Try.ntmps10 ?_; unfold F_laws_szSpatialIndex at h; have hf_laws_szInt64SS := @run_laws_szInt64SS; have hf_laws_szSpatialEntryS := @run_laws_szSpatialEntryS; generalize hLEN : @len = LEN, hGD : @gd = GD, hA : std = A, hP : Try.prog = P at *; cbv; revert h; refine rk0 (hf_laws_szSpatialEntryS _ _) fun y1 h => ?_; cbv; revert h; refine fk ?_ ?_ <;> intro h <;> cbv
 ·exact df
 revert h; refine rk0 (hf_laws_szInt64SS _ _) fun y3 h => ?_; cbv; revert h; refine fk ?_ ?_ <;> intro h <;> cbv
 ·exact df
 exact df

/-- laws.toRect -/
noncomputable def F_laws_toRect (a0 : TRect) : Option (TRect) :=
 some a0
set_option maxHeartbeats 4000000 in
theorem run_laws_toRect (a0 : TRect) (r : TRect) (h : F_laws_toRect a0 = some r) : Fun Try.prog 13 [.agg [.v (.int .i64 a0.fX0), .v (.int .i64 a0.fY0), .v (.int .i64 a0.fX1), .v (.int .i64 a0.fY1)]] [] (.agg [.v (.int .i64 r.fX0), .v (.int .i64 r.fY0), .v (.int .i64 r.fX1), .v (.int .i64 r.fY1)]) [] true := by
 refine ow [] Try.func13 Try.ntmps13 ?_ (hv := (fun _ => ⟨(by simp [AV.flat, AV.flat1, AC.flat]), trivial⟩)); unfold F_laws_toRect at h; generalize hLEN : @len = LEN, hGD : @gd = GD, hA : std = A, hP : Try.prog = P at *; cbv; exact df

/-- laws.toSpatialEntry -/
noncomputable def F_laws_toSpatialEntry (a0 : TSpatialEntry) : Option (TSpatialEntry) :=
 (F_laws_toRect a0.fBox).bind fun y1 =>
 some (TSpatialEntry.mk a0.fId y1)
set_option maxHeartbeats 4000000 in
theorem run_laws_toSpatialEntry (a0 : TSpatialEntry) (r : TSpatialEntry) (h : F_laws_toSpatialEntry a0 = some r) : Fun Try.prog 49 [.agg [.v (.int .i64 a0.fId), .v (.int .i64 a0.fBox.fX0), .v (.int .i64 a0.fBox.fY0), .v (.int .i64 a0.fBox.fX1), .v (.int .i64 a0.fBox.fY1)]] [] (.agg [.v (.int .i64 r.fId), .v (.int .i64 r.fBox.fX0), .v (.int .i64 r.fBox.fY0), .v (.int .i64 r.fBox.fX1), .v (.int .i64 r.fBox.fY1)]) [] true := by
 refine ow [] Try.func49 Try.ntmps49 ?_ (hv := (fun _ => ⟨(by simp [AV.flat, AV.flat1, AC.flat]), trivial⟩)); unfold F_laws_toSpatialEntry at h; have hf_laws_toRect := @run_laws_toRect; generalize hLEN : @len = LEN, hGD : @gd = GD, hA : std = A, hP : Try.prog = P at *; cbv; revert h; refine rk0 (hf_laws_toRect _) fun y1 h => ?_; cbv; exact df
noncomputable def L_laws_toSpatialEntryS_x7 (a0 : List TSpatialEntry) (l1 : List TSpatialEntry) : (Int × (List TSpatialEntry)) → Option ((Int × (List TSpatialEntry)) ⊕ (((List TSpatialEntry)))) := fun x7 =>
 letO x7.1 fun v5 =>
 letO x7.2 fun v6 =>
 br (std.lt v5 (std.ofN (len a0)))
 (req (std.inR v5 (len a0)) <|
 (F_laws_toSpatialEntry (gd a0 (std.toN v5))).bind fun y20 =>
 req (std.inR v5 (len l1)) <|
 req (len l1 = len v6) <|
 letO (List.set v6 (std.nadd 0 (std.toN v5)) y20) fun l23 =>
 some (.inl (std.add .i64 v5 1, l23)))
 (some (.inr v6))
/-- laws.toSpatialEntryS -/
noncomputable def F_laws_toSpatialEntryS (a0 : List TSpatialEntry) : Option (List TSpatialEntry) :=
 req (std.nneg (std.ofN (len a0))) <|
 req (std.room (std.toN (std.ofN (len a0))) 40) <|
 letO (List.replicate (std.toN (std.ofN (len a0))) (TSpatialEntry.mk 0 (TRect.mk 0 0 0 0))) fun l1 =>
 (whileP (σ := Int × (List TSpatialEntry)) (ρ := ((List TSpatialEntry))) (L_laws_toSpatialEntryS_x7 a0 l1) (0, l1)).bind fun y8 =>
 letO y8 fun y8k0 =>
 letO y8k0 fun w26 =>
 req (len l1 = len w26) <|
 some w26
set_option maxHeartbeats 4000000 in
theorem run_laws_toSpatialEntryS (a0 : List TSpatialEntry) (r : List TSpatialEntry) (h : F_laws_toSpatialEntryS a0 = some r) : Fun Try.prog 30 [.c (.bs (len a0) 5 (row gd (encSpatialEntry) a0))] [] (.c (.os 64000 0 (len r))) [(64000, .arr .rw [] (len r) 5 (row gd (encSpatialEntry) r))] true := by
 refine ow [] Try.func30 Try.ntmps30 ?_ (hv := (fun _ => ⟨trivial, ⟨fun i _ j _ => val_flat (vl_encSpatialEntry _ _), trivial⟩⟩)); unfold F_laws_toSpatialEntryS at h; unfold L_laws_toSpatialEntryS_x7 at h; have hf_laws_toSpatialEntry := @run_laws_toSpatialEntry; generalize hLEN : @len = LEN, hGD : @gd = GD, hA : std = A, hP : Try.prog = P at *; cbv
 revert h; refine rq fun c3 => rq fun c4 => rl fun l1 hl1 h => ?_; have e2 : A.toN (A.ofN (LEN a0)) = LEN l1 := by subst hl1 hLEN hA; exact rep_len rfl
 refine And.intro (by first | exact ⟨c3, c4⟩ | exact ⟨rfl, c3, trivial, trivial, trivial, c4⟩ | (refine ⟨?_, ?_, ?_, ?_, ?_, ?_⟩ <;> first | exact c3 | exact c4 | trivial)) ?_; refine ⟨_, (co e2), _, row GD (encSpatialEntry) l1, e2, wkOf ?_, ?_⟩
 ·subst hGD hLEN; exact upd_repL hl1 zr
 cbv; revert h; refine ln (.exit 0) (fun x => (sparse 23 [(0, .c (.bs (LEN a0) 5 (row GD (encSpatialEntry) a0))), (3, .c (.os 448 0 (LEN l1))), (4, .c (.v (.int .i64 x.1)))] [(448, .arr .rw [] (LEN l1) 5 (row GD (encSpatialEntry) x.2))])) (fun w => (sparse 23 [(3, .c (.os 448 0 (LEN l1)))] [(448, .arr .rw [] (LEN l1) 5 (row GD (encSpatialEntry) w))])) zb ?_ ?_
 ·rintro ⟨v5, v6⟩ z h K hK hY; replace h := oz (oz h); dsimp only at h; cbv; revert h; refine fk ?_ ?_ <;> intro h <;> cbv
  ·revert h; refine ra fun c19 h => ?_; revert h; refine rk0 (hf_laws_toSpatialEntry _) fun y20 h => ?_; cbv; revert h; refine ra fun c22 h => ?_; revert h; refine rq fun c24 => rl fun l23 hl23 h => ?_; refine ai c22 ?_; refine ⟨_, rfl, _, row GD (encSpatialEntry) l23, rfl, wkOf (us hA hLEN hGD hl23 c22 c24), ?_⟩; cbv; exact dm
  exact dx
 intro w26 h s q16; replace h := oz (oz h); cbv; refine ⟨_, q16, ?_⟩; cbv; revert h; refine rq fun c27 h => ?_; injection h with h; subst h; refine ⟨(sparse 23 [(2, .c (.os 64000 0 (LEN w26)))] [(64000, .arr .rw [] (LEN w26) 5 (row GD (encSpatialEntry) w26))]), ?_, ?_⟩
 ·refine St.le_trans (le_ren 448 64000 (by decide) rfl) ?_; rw [c27]; exact zb
 ·exact ⟨lR _, zo, rfl⟩

noncomputable def L_laws_toInt64S_x7 (a0 : List Int) (l1 : List Int) : (Int × (List Int)) → Option ((Int × (List Int)) ⊕ (((List Int)))) := fun x7 =>
 letO x7.1 fun v5 =>
 letO x7.2 fun v6 =>
 br (std.lt v5 (std.ofN (len a0)))
 (req (std.inR v5 (len a0)) <|
 req (std.inR v5 (len l1)) <|
 req (len l1 = len v6) <|
 letO (List.set v6 (std.nadd 0 (std.toN v5)) (gd a0 (std.toN v5))) fun l21 =>
 some (.inl (std.add .i64 v5 1, l21)))
 (some (.inr v6))
/-- laws.toInt64S -/
noncomputable def F_laws_toInt64S (a0 : List Int) : Option (List Int) :=
 req (std.nneg (std.ofN (len a0))) <|
 req (std.room (std.toN (std.ofN (len a0))) 8) <|
 letO (List.replicate (std.toN (std.ofN (len a0))) 0) fun l1 =>
 (whileP (σ := Int × (List Int)) (ρ := ((List Int))) (L_laws_toInt64S_x7 a0 l1) (0, l1)).bind fun y8 =>
 letO y8 fun y8k0 =>
 letO y8k0 fun w24 =>
 req (len l1 = len w24) <|
 some w24
set_option maxHeartbeats 4000000 in
theorem run_laws_toInt64S (a0 : List Int) (r : List Int) (h : F_laws_toInt64S a0 = some r) : Fun Try.prog 50 [.c (.bs (len a0) 1 (row gd (encI .i64) a0))] [] (.c (.os 64000 0 (len r))) [(64000, .arr .rw [] (len r) 1 (row gd (encI .i64) r))] true := by
 refine ow [] Try.func50 Try.ntmps50 ?_ (hv := (fun _ => ⟨trivial, ⟨fun i _ j _ => val_flat (rfl), trivial⟩⟩)); unfold F_laws_toInt64S at h; unfold L_laws_toInt64S_x7 at h; generalize hLEN : @len = LEN, hGD : @gd = GD, hA : std = A, hP : Try.prog = P at *; cbv; revert h; refine rq fun c3 => rq fun c4 => rl fun l1 hl1 h => ?_
 have e2 : A.toN (A.ofN (LEN a0)) = LEN l1 := by subst hl1 hLEN hA; exact rep_len rfl
 refine And.intro (by first | exact ⟨c3, c4⟩ | exact ⟨rfl, c3, trivial, trivial, trivial, c4⟩ | (refine ⟨?_, ?_, ?_, ?_, ?_, ?_⟩ <;> first | exact c3 | exact c4 | trivial)) ?_; refine ⟨_, (co e2), _, row GD (encI .i64) l1, e2, wkOf ?_, ?_⟩
 ·subst hGD hLEN; exact upd_repL hl1 zr
 cbv; revert h; refine ln (.exit 0) (fun x => (sparse 22 [(0, .c (.bs (LEN a0) 1 (row GD (encI .i64) a0))), (3, .c (.os 448 0 (LEN l1))), (4, .c (.v (.int .i64 x.1)))] [(448, .arr .rw [] (LEN l1) 1 (row GD (encI .i64) x.2))])) (fun w => (sparse 22 [(3, .c (.os 448 0 (LEN l1)))] [(448, .arr .rw [] (LEN l1) 1 (row GD (encI .i64) w))])) zb ?_ ?_
 ·rintro ⟨v5, v6⟩ z h K hK hY; replace h := oz (oz h); dsimp only at h; cbv; revert h; refine fk ?_ ?_ <;> intro h <;> cbv
  ·revert h; refine ra fun c19 h => ?_; revert h; refine ra fun c20 h => ?_; revert h; refine rq fun c22 => rl fun l21 hl21 h => ?_; refine ai c20 ?_; refine ⟨_, rfl, _, row GD (encI .i64) l21, rfl, wkOf (us hA hLEN hGD hl21 c20 c22), ?_⟩; cbv; exact dm
  exact dx
 intro w24 h s q16; replace h := oz (oz h); cbv; refine ⟨_, q16, ?_⟩; cbv; revert h; refine rq fun c25 h => ?_; injection h with h; subst h; refine ⟨(sparse 22 [(2, .c (.os 64000 0 (LEN w24)))] [(64000, .arr .rw [] (LEN w24) 1 (row GD (encI .i64) w24))]), ?_, ?_⟩
 ·refine St.le_trans (le_ren 448 64000 (by decide) rfl) ?_; rw [c25]; exact zb
 ·exact ⟨lR _, zo, rfl⟩

noncomputable def L_laws_toInt64SS_x14 (a0 : List (List Int)) (w7 : List (List Int)) : (Int × (List (List Int))) → Option ((Int × (List (List Int))) ⊕ (((List (List Int))))) := fun x14 =>
 letO x14.1 fun v12 =>
 letO x14.2 fun v13 =>
 br (std.lt v12 (std.ofN (len a0)))
 (((
    req (std.inR v12 (len a0)) <|
    (F_laws_toInt64S (gd a0 (std.toN v12))).bind fun y34 =>
    req (std.inR v12 (len w7)) <|
    req (len w7 = len v13) <|
    letO (List.set v13 (std.nadd 0 (std.toN v12)) y34) fun l37 =>
    some l37
  ) : Option ((List (List Int)))).bind fun y26 =>
 letO y26 fun w32 =>
 some (.inl (std.add .i64 v12 1, w32)))
 (some (.inr v13))
/-- laws.toInt64SS -/
noncomputable def F_laws_toInt64SS (a0 : List (List Int)) : Option (List (List Int)) :=
 ((
    req (std.nneg (std.ofN (len a0))) <|
    req (std.room (std.toN (std.ofN (len a0))) 24) <|
    letO (List.replicate (std.toN (std.ofN (len a0))) ([] : List Int)) fun l8 =>
    some l8
  ) : Option ((List (List Int)))).bind fun y1 =>
 letO y1 fun w7 =>
 (whileP (σ := Int × (List (List Int))) (ρ := ((List (List Int)))) (L_laws_toInt64SS_x14 a0 w7) (0, w7)).bind fun y15 =>
 letO y15 fun y15k0 =>
 letO y15k0 fun w40 =>
 req (len w7 = len w40) <|
 some w40
set_option maxHeartbeats 4000000 in
theorem run_laws_toInt64SS (a0 : List (List Int)) (r : List (List Int)) (h : F_laws_toInt64SS a0 = some r) : Fun Try.prog 31 [.c (.bs (len a0) 1 (row gd (encL len gd 1 (encI .i64)) a0))] [] (.c (.os 64000 0 (len r))) [(64000, .arr .rw [] (len r) 1 (row gd (oncL len gd 1 (encI .i64)) r))] true := by
 refine ow [1, 5] Try.func31 Try.ntmps31 ?_ (hv := (fun _ => ⟨trivial, ⟨fun i _ j _ => fl_oncL (fun _ _ => rfl) _ _, trivial⟩⟩)); unfold F_laws_toInt64SS at h; unfold L_laws_toInt64SS_x14 at h; have hf_laws_toInt64S := @run_laws_toInt64S; generalize hLEN : @len = LEN, hGD : @gd = GD, hA : std = A, hP : Try.prog = P at *; cbv
 revert h; refine cu (fun y1 => (sparse 23 [(0, .c (.bs (LEN a0) 1 (row GD (encL LEN GD 1 (encI .i64)) a0))), (3, .c (.os 448 0 (LEN y1)))] [(448, .arr .rw [] (LEN y1) 1 (row GD (oncL LEN GD 1 (encI .i64)) y1))])) ?_ fun w7 => rz fun h => ?_
 ·intro y1 S hS h; cbv; revert h; refine rq fun c10 => rq fun c11 => rl fun l8 hl8 h => ?_; have e9 : A.toN (A.ofN (LEN a0)) = LEN l8 := by subst hl8 hLEN hA; exact rep_len rfl
  refine And.intro (by first | exact ⟨c10, c11⟩ | exact ⟨rfl, c10, trivial, trivial, trivial, c11⟩ | (refine ⟨?_, ?_, ?_, ?_, ?_, ?_⟩ <;> first | exact c10 | exact c11 | trivial)) ?_; refine ⟨_, (co e9), _, (fun _ j => ([.v (.slice none 0 0)] : List AC).getD j .junk), e9, wkOf ?_, ?_⟩
  ·exact fun _ _ => zr
  cbv; injection h with h; subst h; subst hS; show St.le _ _; refine St.le_trans (le_nilG (get' := (fun _ j => ([.ow (LEN ([] : List Int)) 1 (row GD (encI .i64) ([] : List Int))] : List AC).getD j .junk)) 448 rfl ?_) ?_
  ·subst hLEN; intro i _ j hj; match j, hj with | 0, _ => exact (.inr ⟨rfl, _, _, rfl⟩) | (j_ + 1), h_ => exact absurd h_ (by omega)
  exact le_sparse rfl zl ⟨oP (fun _ _ => rfl) (by subst hGD hLEN hA; exact upd_repL hl8 (g := fun j => _) zr), trivial⟩ rfl
 cbv; revert h; refine ln (.exit 0) (fun x => (sparse 23 [(0, .c (.bs (LEN a0) 1 (row GD (encL LEN GD 1 (encI .i64)) a0))), (3, .c (.os 448 0 (LEN w7))), (4, .c (.v (.int .i64 x.1)))] [(448, .arr .rw [] (LEN w7) 1 (row GD (oncL LEN GD 1 (encI .i64)) x.2))])) (fun w => (sparse 23 [(3, .c (.os 448 0 (LEN w7)))] [(448, .arr .rw [] (LEN w7) 1 (row GD (oncL LEN GD 1 (encI .i64)) w))])) zb ?_ ?_
 ·rintro ⟨v12, v13⟩ z h K hK hY; replace h := oz (oz h); dsimp only at h; cbv; revert h; refine fk ?_ ?_ <;> intro h <;> cbv
  ·revert h; refine cu (fun y26 => (sparse 23 [(0, .c (.bs (LEN a0) 1 (row GD (encL LEN GD 1 (encI .i64)) a0))), (3, .c (.os 448 0 (LEN w7))), (4, .c (.v (.int .i64 v12)))] [(448, .arr .rw [] (LEN w7) 1 (row GD (oncL LEN GD 1 (encI .i64)) y26))])) ?_ fun w32 => rz fun h => ?_
   ·intro y26 S hS h; cbv; revert h; refine ra fun c33 h => ?_; revert h; refine rk [] [(64000, 1280)] (hf_laws_toInt64S _) (fun _ => zf) fun y34 h => ⟨_, rfl, _, _, rfl, fun _ _ _ _ => .refl _, ?_⟩
    cbv; revert h; refine ra fun c36 h => ?_; refine ai c36 ?_; refine ⟨_, rfl, _, (patchC (row GD (oncL LEN GD 1 (encI .i64)) v13) (A.nadd 0 (A.toN v12)) [.os 1280 0 (LEN y34)]), rfl, wkOf (patch_of zr), ?_⟩; cbv; revert h; refine rq fun c38 => rl fun l37 hl37 h => ?_; injection h with h; subst h; subst hS; show St.le _ _
    refine St.le_trans (le_foldP 448 0 1280 rfl rfl rfl (by decide) (by subst hA; exact idx_lt c36) (by decide) rfl (fun _ _ => rfl)) ?_; exact le_sparse rfl zl ⟨oP (fun _ _ => rfl) (by subst hGD hLEN hA; exact patch_set hl37 (idx_lt (by rw [← c38]; exact c36)) zr), trivial⟩ rfl
   cbv; exact dm
  exact dx
 intro w40 h s q23; replace h := oz (oz h); cbv; refine ⟨_, q23, ?_⟩; cbv; revert h; refine rq fun c41 h => ?_; injection h with h; subst h; refine ⟨(sparse 23 [(2, .c (.os 64000 0 (LEN w40)))] [(64000, .arr .rw [] (LEN w40) 1 (row GD (oncL LEN GD 1 (encI .i64)) w40))]), ?_, ?_⟩
 ·refine St.le_trans (le_ren 448 64000 (by decide) rfl) ?_; rw [c41]; exact zb
 ·exact ⟨lR _, zo, rfl⟩

/-- laws.toSpatialIndex -/
noncomputable def F_laws_toSpatialIndex (a0 : TSpatialIndex) : Option (TSpatialIndex) :=
 (F_laws_toSpatialEntryS a0.fEntries).bind fun y1 =>
 (F_laws_toInt64SS a0.fBuckets).bind fun y3 =>
 some (TSpatialIndex.mk y1 y3)
set_option maxHeartbeats 4000000 in
theorem run_laws_toSpatialIndex (a0 : TSpatialIndex) (r : TSpatialIndex) (h : F_laws_toSpatialIndex a0 = some r) : Fun Try.prog 12 [.agg [.bs (len a0.fEntries) 5 (row gd (encSpatialEntry) a0.fEntries), .bs (len a0.fBuckets) 1 (row gd (encL len gd 1 (encI .i64)) a0.fBuckets)]] [] (.agg [.os 64000 0 (len r.fEntries), .os 64002 0 (len r.fBuckets)]) [(64000, .arr .rw [] (len r.fEntries) 5 (row gd (encSpatialEntry) r.fEntries)), (64002, .arr .rw [] (len r.fBuckets) 1 (row gd (oncL len gd 1 (encI .i64)) r.fBuckets))] true := by
 refine ow [] Try.func12 Try.ntmps12 ?_ (hv := (fun _ => ⟨(by simp [AV.flat, AV.flat1, AC.flat]), ⟨fun i _ j _ => val_flat (vl_encSpatialEntry _ _), fun i _ j _ => fl_oncL (fun _ _ => rfl) _ _, trivial⟩⟩)); unfold F_laws_toSpatialIndex at h; have hf_laws_toInt64SS := @run_laws_toInt64SS; have hf_laws_toSpatialEntryS := @run_laws_toSpatialEntryS
 generalize hLEN : @len = LEN, hGD : @gd = GD, hA : std = A, hP : Try.prog = P at *; cbv; revert h; refine rk [] [(64000, 384)] (hf_laws_toSpatialEntryS _) (fun _ => zf) fun y1 h => ⟨_, rfl, _, _, rfl, fun _ _ _ _ => .refl _, ?_⟩
 cbv; revert h; refine rk [] [(64000, 640)] (hf_laws_toInt64SS _) (fun _ => zf) fun y3 h => ⟨_, rfl, _, _, rfl, fun _ _ _ _ => .refl _, ?_⟩
 cbv; injection h with h; subst h; exact ⟨_, St.le_trans (le_ren 384 64000 (by decide) rfl) ((le_ren 640 64002 (by decide) rfl)), lR _, zo, rfl⟩

/-- spec.l09In -/
noncomputable def F_spec_l09In (a0 : Int) (a1 : Int) (a2 : Int) : Option (Bool) :=
 ((
    br (std.le a1 a0)
    (some (std.le a0 a2))
    (some false)
  ) : Option (Bool)).bind fun y1 =>
 letO y1 fun w7 =>
 some w7
set_option maxHeartbeats 4000000 in
theorem run_spec_l09In (a0 : Int) (a1 : Int) (a2 : Int) (r : Bool) (h : F_spec_l09In a0 a1 a2 = some r) : Fun Try.prog 46 [.c (.v (.int .i64 a0)), .c (.v (.int .i64 a1)), .c (.v (.int .i64 a2))] [] (.c (.v (.bool r))) [] true := by
 refine ow [1] Try.func46 Try.ntmps46 ?_; unfold F_spec_l09In at h; generalize hLEN : @len = LEN, hGD : @gd = GD, hA : std = A, hP : Try.prog = P at *; cbv; revert h; refine cu (fun y1 => (sparse 15 [(6, .c (.v (.bool y1)))] [])) (fun y1 S hS h => rg) fun w7 => rz fun h => ?_; cbv; exact df

/-- spec.l09Rect -/
noncomputable def F_spec_l09Rect (a0 : TRect) : Option (Bool) :=
 ((
    br (std.le (-40) a0.fX0)
    (br (std.lt a0.fX0 a0.fX1)
    (br (std.le a0.fX1 40)
    (br (std.le (-40) a0.fY0)
    (br (std.lt a0.fY0 a0.fY1)
    (some (std.le a0.fY1 40))
    (some false))
    (some false))
    (some false))
    (some false))
    (some false)
  ) : Option (Bool)).bind fun y1 =>
 letO y1 fun w7 =>
 some w7
set_option maxHeartbeats 4000000 in
theorem run_spec_l09Rect (a0 : TRect) (r : Bool) (h : F_spec_l09Rect a0 = some r) : Fun Try.prog 27 [.agg [.v (.int .i64 a0.fX0), .v (.int .i64 a0.fY0), .v (.int .i64 a0.fX1), .v (.int .i64 a0.fY1)]] [] (.c (.v (.bool r))) [] true := by
 refine ow [1] Try.func27 Try.ntmps27 ?_; unfold F_spec_l09Rect at h; generalize hLEN : @len = LEN, hGD : @gd = GD, hA : std = A, hP : Try.prog = P at *; cbv; revert h; refine cu (fun y1 => (sparse 35 [(2, .c (.v (.bool y1)))] [])) (fun y1 S hS h => rg) fun w7 => rz fun h => ?_; cbv; exact df
/-- spec.l11Bucket -/
noncomputable def F_spec_l11Bucket (a0 : Int) : Option (TRect) :=
 req (std.nz 5) <|
 req (std.nz 5) <|
 some (TRect.mk (std.add .i64 (-40) (std.mul .i64 16 (std.rem a0 5))) (std.add .i64 (-40) (std.mul .i64 16 (std.quo .i64 a0 5))) (std.add .i64 (std.add .i64 (-40) (std.mul .i64 16 (std.rem a0 5))) 16) (std.add .i64 (std.add .i64 (-40) (std.mul .i64 16 (std.quo .i64 a0 5))) 16))
set_option maxHeartbeats 4000000 in
theorem run_spec_l11Bucket (a0 : Int) (r : TRect) (h : F_spec_l11Bucket a0 = some r) : Fun Try.prog 29 [.c (.v (.int .i64 a0))] [] (.agg [.v (.int .i64 r.fX0), .v (.int .i64 r.fY0), .v (.int .i64 r.fX1), .v (.int .i64 r.fY1)]) [] true := by
 refine ow [] Try.func29 Try.ntmps29 ?_ (hv := (fun _ => ⟨(by simp [AV.flat, AV.flat1, AC.flat]), trivial⟩)); unfold F_spec_l11Bucket at h; generalize hLEN : @len = LEN, hGD : @gd = GD, hA : std = A, hP : Try.prog = P at *; cbv; revert h; refine ra fun c1 h => ?_; revert h; refine ra fun c2 h => ?_; exact df

/-- spec.l11Overlap -/
noncomputable def F_spec_l11Overlap (a0 : TRect) (a1 : TRect) : Option (Bool) :=
 ((
    br (std.lt a0.fX0 a1.fX1)
    (br (std.lt a1.fX0 a0.fX1)
    (br (std.lt a0.fY0 a1.fY1)
    (some (std.lt a1.fY0 a0.fY1))
    (some false))
    (some false))
    (some false)
  ) : Option (Bool)).bind fun y1 =>
 letO y1 fun w7 =>
 some w7
set_option maxHeartbeats 4000000 in
theorem run_spec_l11Overlap (a0 : TRect) (a1 : TRect) (r : Bool) (h : F_spec_l11Overlap a0 a1 = some r) : Fun Try.prog 28 [.agg [.v (.int .i64 a0.fX0), .v (.int .i64 a0.fY0), .v (.int .i64 a0.fX1), .v (.int .i64 a0.fY1)], .agg [.v (.int .i64 a1.fX0), .v (.int .i64 a1.fY0), .v (.int .i64 a1.fX1), .v (.int .i64 a1.fY1)]] [] (.c (.v (.bool r))) [] true := by
 refine ow [1] Try.func28 Try.ntmps28 ?_; unfold F_spec_l11Overlap at h; generalize hLEN : @len = LEN, hGD : @gd = GD, hA : std = A, hP : Try.prog = P at *; cbv; revert h; refine cu (fun y1 => (sparse 31 [(4, .c (.v (.bool y1)))] [])) (fun y1 S hS h => rg) fun w7 => rz fun h => ?_; cbv; exact df

noncomputable def L_spec_l11Made_x19 (a0 : List TSpatialEntry) (v1 : Int) : (Int × (List Int)) → Option ((Int × (List Int)) ⊕ (((List Int)))) := fun x19 =>
 letO x19.1 fun v17 =>
 letO x19.2 fun v18 =>
 br (std.lt v17 (std.ofN (len a0)))
 (req (std.inR v17 (len a0)) <|
 (F_spec_l11Bucket v1).bind fun y32 =>
 (F_spec_l11Overlap (gd a0 (std.toN v17)).fBox y32).bind fun y34 =>
 ((
    br y34
    (req (std.inR v17 (len a0)) <|
    letO ([(gd a0 (std.toN v17)).fId] : List Int) fun l44 =>
    req (std.room (std.nadd (len v18) (len l44)) 8) <|
    letO (v18 ++ l44) fun l46 =>
    some l46)
    (some v18)
  ) : Option ((List Int))).bind fun y36 =>
 letO y36 fun w42 =>
 some (.inl (std.add .i64 v17 1, w42)))
 (some (.inr v18))
noncomputable def L_spec_l11Made_x3 (a0 : List TSpatialEntry) : (Int × (List (List Int))) → Option ((Int × (List (List Int))) ⊕ (((List (List Int))))) := fun x3 =>
 letO x3.1 fun v1 =>
 letO x3.2 fun v2 =>
 br (std.lt v1 25)
 (letO ([] : List Int) fun l15 =>
 (whileP (σ := Int × (List Int)) (ρ := ((List Int))) (L_spec_l11Made_x19 a0 v1) (0, l15)).bind fun y20 =>
 letO y20 fun y20k0 =>
 letO y20k0 fun w51 =>
 ((
    letO ([w51] : List (List Int)) fun l59 =>
    req (std.room (std.nadd (len v2) (len l59)) 24) <|
    letO (v2 ++ l59) fun l61 =>
    some l61
  ) : Option ((List (List Int)))).bind fun y52 =>
 letO y52 fun w58 =>
 some (.inl (std.add .i64 v1 1, w58)))
 (some (.inr v2))
/-- spec.l11Made -/
noncomputable def F_spec_l11Made (a0 : List TSpatialEntry) : Option (TSpatialIndex) :=
 (whileP (σ := Int × (List (List Int))) (ρ := ((List (List Int)))) (L_spec_l11Made_x3 a0) (0, ([] : List (List Int)))).bind fun y4 =>
 letO y4 fun y4k0 =>
 letO y4k0 fun w65 =>
 some (TSpatialIndex.mk a0 w65)
set_option maxHeartbeats 4000000 in
theorem run_spec_l11Made (a0 : List TSpatialEntry) (r : TSpatialIndex) (h : F_spec_l11Made a0 = some r) : Fun Try.prog 47 [.c (.bs (len a0) 5 (row gd (encSpatialEntry) a0))] [] (.agg [.bs (len r.fEntries) 5 (row gd (encSpatialEntry) r.fEntries), .os 64000 0 (len r.fBuckets)]) [(64000, .arr .rw [] (len r.fBuckets) 1 (row gd (oncL len gd 1 (encI .i64)) r.fBuckets))] false := by
 refine ow [11, 100027] Try.func47 Try.ntmps47 ?_ (hv := (fun h => by cases h)); unfold F_spec_l11Made at h; unfold L_spec_l11Made_x3 at h; unfold L_spec_l11Made_x19 at h; have hf_spec_l11Bucket := @run_spec_l11Bucket; have hf_spec_l11Overlap := @run_spec_l11Overlap; generalize hLEN : @len = LEN, hGD : @gd = GD, hA : std = A, hP : Try.prog = P at *; cbv
 revert h; refine ln (.exit 0) (fun x => (sparse 43 [(0, .c (.bs (LEN a0) 5 (row GD (encSpatialEntry) a0))), (2, .c (.ptr 128 0)), (3, .c (.ptr 192 0)), (4, .c (.v (.int .i64 x.1)))] [(128, .var [.v (.slice none 0 0), .v (.slice none 0 0)]), (192, .var [.bs (LEN a0) 5 (row GD (encSpatialEntry) a0), .os 2560 0 (LEN x.2)]), (2560, .arr .rw [] (LEN x.2) 1 (row GD (oncL LEN GD 1 (encI .i64)) x.2))])) (fun w => (sparse 43 [(2, .c (.ptr 128 0)), (3, .c (.ptr 192 0))] [(128, .var [.v (.slice none 0 0), .v (.slice none 0 0)]), (192, .var [.bs (LEN a0) 5 (row GD (encSpatialEntry) a0), .os 2560 0 (LEN w)]), (2560, .arr .rw [] (LEN w) 1 (row GD (oncL LEN GD 1 (encI .i64)) w))])) ?_ ?_ ?_
 ·show St.le _ _; refine St.le_trans (le_nilV 192 1 2560 1 (row GD (oncL LEN GD 1 (encI .i64)) ([] : List (List Int))) (by decide) (by decide) rfl rfl) ?_; subst hLEN; exact zb
 ·rintro ⟨v1, v2⟩ z h K hK hY; replace h := oz (oz h); dsimp only at h; cbv; revert h; refine fk ?_ ?_ <;> intro h <;> cbv
  ·revert h; refine rl fun l15 hl15 h => ?_; have e16 : 0 = LEN l15 := by subst hl15 hLEN; rfl
   refine ⟨_, (co e16), _, row GD (encI .i64) l15, e16, wkOf ?_, ?_⟩
   ·intro i hi j hj; rw [← e16] at hi; subst hl15; subst hGD; omega
   cbv
   revert h; refine ln (.exit 2) (fun x => (sparse 43 [(0, .c (.bs (LEN a0) 5 (row GD (encSpatialEntry) a0))), (2, .c (.ptr 128 0)), (3, .c (.ptr 192 0)), (4, .c (.v (.int .i64 v1))), (5, .c (.os 832 0 (LEN x.2))), (6, .c (.v (.int .i64 x.1)))] [(128, .var [.v (.slice none 0 0), .v (.slice none 0 0)]), (192, .var [.bs (LEN a0) 5 (row GD (encSpatialEntry) a0), .os 2560 0 (LEN v2)]), (832, .arr .rw [] (LEN x.2) 1 (row GD (encI .i64) x.2)), (2560, .arr .rw [] (LEN v2) 1 (row GD (oncL LEN GD 1 (encI .i64)) v2))])) (fun w => (sparse 43 [(0, .c (.bs (LEN a0) 5 (row GD (encSpatialEntry) a0))), (2, .c (.ptr 128 0)), (3, .c (.ptr 192 0)), (4, .c (.v (.int .i64 v1))), (5, .c (.os 832 0 (LEN w)))] [(128, .var [.v (.slice none 0 0), .v (.slice none 0 0)]), (192, .var [.bs (LEN a0) 5 (row GD (encSpatialEntry) a0), .os 2560 0 (LEN v2)]), (832, .arr .rw [] (LEN w) 1 (row GD (encI .i64) w)), (2560, .arr .rw [] (LEN v2) 1 (row GD (oncL LEN GD 1 (encI .i64)) v2))])) zb ?_ ?_
   ·rintro ⟨v17, v18⟩ z h K hK hY; replace h := oz (oz h); dsimp only at h; cbv; revert h; refine fk ?_ ?_ <;> intro h <;> cbv
    ·revert h; refine ra fun c31 h => ?_; revert h; refine rk0 (hf_spec_l11Bucket _) fun y32 h => ?_; cbv; revert h; refine rk0 (hf_spec_l11Overlap _ _) fun y34 h => ?_; cbv
     revert h; refine cu (fun y36 => some (sparse 43 [(0, .c (.bs (LEN a0) 5 (row GD (encSpatialEntry) a0))), (2, .c (.ptr 128 0)), (3, .c (.ptr 192 0)), (4, .c (.v (.int .i64 v1))), (5, .c (.os 832 0 (LEN y36))), (6, .c (.v (.int .i64 v17)))] [(128, .var [.v (.slice none 0 0), .v (.slice none 0 0)]), (192, .var [.bs (LEN a0) 5 (row GD (encSpatialEntry) a0), .os 2560 0 (LEN v2)]), (832, .arr .rw [] (LEN y36) 1 (row GD (encI .i64) y36)), (2560, .arr .rw [] (LEN v2) 1 (row GD (oncL LEN GD 1 (encI .i64)) v2))])) ?_ fun w42 => rz fun h => ?_
     ·intro y36 S hS h; cbv; revert h; refine fk ?_ ?_ <;> intro h <;> cbv
      ·revert h; refine ra fun c43 h => ?_; revert h; refine rl fun l44 hl44 h => ?_; have e45 : 1 = LEN l44 := by subst hl44 hLEN; rfl
       refine ⟨_, (co e45), _, row GD (encI .i64) l44, e45, wkOf ?_, ?_⟩
       ·intro i hi j hj; rw [← e45] at hi; subst hl44; subst hGD; obtain rfl : i = 0 := (by omega); all_goals obtain rfl : j = 0 := by omega
        all_goals rfl
       cbv; revert h; refine rq fun c48 => rl fun l46 hl46 h => ?_; have e47 := nl hA hLEN hl46; refine ⟨c48, _, (co e47), _, row GD (encI .i64) l46, e47, wkOf ?_, ?_⟩
       ·subst hGD hLEN hA; exact app_os (off := 0) (fun _ _ => rfl) hl46 (Nat.le_refl _)
       cbv; exact dn
      exact dn
     cbv; exact dm
    exact dx
   intro w51 h s q28; replace h := oz (oz h); cbv; refine ⟨_, q28, ?_⟩; cbv
   revert h; refine cu (fun y52 => (sparse 43 [(0, .c (.bs (LEN a0) 5 (row GD (encSpatialEntry) a0))), (2, .c (.ptr 128 0)), (3, .c (.ptr 192 0)), (4, .c (.v (.int .i64 v1)))] [(128, .var [.v (.slice none 0 0), .v (.slice none 0 0)]), (192, .var [.bs (LEN a0) 5 (row GD (encSpatialEntry) a0), .os 2560 0 (LEN y52)]), (2560, .arr .rw [] (LEN y52) 1 (row GD (oncL LEN GD 1 (encI .i64)) y52))])) ?_ fun w58 => rz fun h => ?_
   ·intro y52 S hS h; cbv; revert h; refine rl fun l59 hl59 h => ?_; have e60 : 1 = LEN l59 := by subst hl59 hLEN; rfl
    refine ⟨_, (co e60), _, (patchC (fun _ _ => AC.junk) 0 [.os 832 0 (LEN w51)]), e60, wkOf ?_, ?_⟩
    ·refine patch_one (by subst hl59 hLEN; rfl) ?_; exact zr
    cbv; revert h; refine rq fun c63 => rl fun l61 hl61 h => ?_; have e62 := nl hA hLEN hl61; refine ⟨c63, _, (co e62), _, (patchC (row GD (oncL LEN GD 1 (encI .i64)) v2) (LEN v2) [.os 832 0 (LEN w51)]), e62, wkOf ?_, ?_⟩
    ·subst hLEN hA; refine patch_joinG (by first | (rw [hl61]; simp [len]; done) | (rw [hl61]; simp [len]; omega) | (subst_vars; simp [len])) ?_; exact zr
    cbv; rw [hl59] at hl61; injection h with h; subst h; subst hS; show St.le _ _; refine St.le_trans (le_foldP 2560 0 832 rfl rfl rfl (by decide) (by subst hLEN; exact app_lt hl61) (by decide) rfl (fun _ _ => rfl)) ?_; exact le_sparse rfl zl ⟨rfl, rfl, oP (fun _ _ => rfl) (by subst hGD hLEN hA; exact patch_app hl61 (Nat.le_refl _) zr), trivial⟩ rfl
   cbv; exact dm
  exact dx
 intro w65 h s q12; replace h := oz (oz h); cbv; refine ⟨_, q12, ?_⟩; cbv; injection h with h; subst h; exact ⟨_, le_ren 2560 64000 (by decide) rfl, lR _, zo, rfl⟩

noncomputable def L_spec_l11SameInts_x2 (a0 : List Int) (a1 : List Int) : (Int) → Option ((Int) ⊕ ((Unit) ⊕ (Unit))) := fun x2 =>
 letO x2 fun v1 =>
 br (std.lt v1 (std.ofN (len a0)))
 (req (std.inR v1 (len a0)) <|
 req (std.inR v1 (len a1)) <|
 br (std.not (std.eq (gd a0 (std.toN v1)) (gd a1 (std.toN v1))))
 (some (.inr (.inl ())))
 (some (.inl (std.add .i64 v1 1))))
 (some (.inr (.inr ())))
/-- spec.l11SameInts -/
noncomputable def F_spec_l11SameInts (a0 : List Int) (a1 : List Int) : Option (Bool) :=
 br (std.not (std.eq (std.ofN (len a0)) (std.ofN (len a1))))
 (some false)
 ((whileP (σ := Int) (ρ := (Unit) ⊕ (Unit)) (L_spec_l11SameInts_x2 a0 a1) 0).bind fun y3 =>
 (match y3 with
  | .inl y3k0 => (
    some false)
  | .inr y3m0 =>
    some true))
set_option maxHeartbeats 4000000 in
theorem run_spec_l11SameInts (a0 : List Int) (a1 : List Int) (r : Bool) (h : F_spec_l11SameInts a0 a1 = some r) : Fun Try.prog 48 [.c (.bs (len a0) 1 (row gd (encI .i64) a0)), .c (.bs (len a1) 1 (row gd (encI .i64) a1))] [] (.c (.v (.bool r))) [] true := by
 refine ow [] Try.func48 Try.ntmps48 ?_; unfold F_spec_l11SameInts at h; unfold L_spec_l11SameInts_x2 at h; generalize hLEN : @len = LEN, hGD : @gd = GD, hA : std = A, hP : Try.prog = P at *; cbv; revert h; refine fk ?_ ?_ <;> intro h <;> cbv
 ·exact df
 revert h; refine lc (fun x => (sparse 26 [(0, .c (.bs (LEN a0) 1 (row GD (encI .i64) a0))), (1, .c (.bs (LEN a1) 1 (row GD (encI .i64) a1))), (5, .c (.v (.int .i64 x)))] [])) (fun y e s => (match y with | .inl w => e = .ret ∧ s.le (sparse 26 [(4, .c (.v (.bool false)))] []) | .inr w0 => (fun (w : Unit) => e = .exit 0 ∧ s.le (sparse 26 [] [])) w0)) zb ?_ ?_
 ·intro v1 z h K hK hY; replace h := oz h; cbv; revert h; refine fk ?_ ?_ <;> intro h <;> cbv
  ·revert h; refine ra fun c14 h => ?_; revert h; refine ra fun c15 h => ?_; revert h; refine fk ?_ ?_ <;> intro h <;> cbv
   ·exact dy
   exact dm
  exact dy
 intro y3 h e12 s13 q11 hne; rcases y3 with y3k0 | y3m0
 ·replace h := h; obtain ⟨rfl, q11⟩ := q11; cbv; injection h with h; subst h; exact ⟨_, q11, lR _, zo, rfl⟩
 ·obtain ⟨rfl, q11⟩ := q11; cbv; refine ⟨_, q11, ?_⟩; cbv; exact df

noncomputable def L_spec_IsValidIndex_x44 (a0 : TSpatialIndex) (y41 : TSpatialIndex) : (Int) → Option ((Int) ⊕ ((Bool) ⊕ (Unit))) := fun x44 =>
 letO x44 fun v43 =>
 br (std.lt v43 25)
 (((
    req (std.inR v43 (len a0.fBuckets)) <|
    req (std.inR v43 (len y41.fBuckets)) <|
    (F_spec_l11SameInts (gd a0.fBuckets (std.toN v43)) (gd y41.fBuckets (std.nadd 0 (std.toN v43)))).bind fun y65 =>
    some (!(y65))
  ) : Option (Bool)).bind fun y56 =>
 letO y56 fun w62 =>
 br w62
 (some (.inr (.inl false)))
 (some (.inl (std.add .i64 v43 1))))
 (some (.inr (.inr ())))
noncomputable def L_spec_IsValidIndex_x10 (a0 : TSpatialIndex) : (Int) → Option ((Int) ⊕ ((Bool) ⊕ (Unit))) := fun x10 =>
 letO x10 fun v9 =>
 br (std.lt v9 (std.ofN (len a0.fEntries)))
 (req (std.inR v9 (len a0.fEntries)) <|
 ((
    (F_spec_l09In (gd a0.fEntries (std.toN v9)).fId 1 9999).bind fun y30 =>
    br (!(y30))
    (some true)
    ((F_spec_l09Rect (gd a0.fEntries (std.toN v9)).fBox).bind fun y32 =>
    br (!(y32))
    (some true)
    (br (std.lt 0 v9)
    (req (std.inR (std.sub .i64 v9 1) (len a0.fEntries)) <|
    some (std.le (gd a0.fEntries (std.toN v9)).fId (gd a0.fEntries (std.toN (std.sub .i64 v9 1))).fId))
    (some false)))
  ) : Option (Bool)).bind fun y23 =>
 letO y23 fun w29 =>
 br w29
 (some (.inr (.inl false)))
 (some (.inl (std.add .i64 v9 1))))
 (some (.inr (.inr ())))
/-- spec.IsValidIndex -/
noncomputable def F_spec_IsValidIndex (a0 : TSpatialIndex) : Option (Bool) :=
 ((
    br (std.lt 40 (std.ofN (len a0.fEntries)))
    (some true)
    (some (std.not (std.eq (std.ofN (len a0.fBuckets)) 25)))
  ) : Option (Bool)).bind fun y1 =>
 letO y1 fun w7 =>
 br w7
 (some false)
 ((whileP (σ := Int) (ρ := (Bool) ⊕ (Unit)) (L_spec_IsValidIndex_x10 a0) 0).bind fun y11 =>
 (match y11 with
  | .inl y11k0 => (
    letO y11k0 fun w40 =>
    some w40)
  | .inr y11m0 =>
    (F_spec_l11Made a0.fEntries).bind fun y41 =>
    (whileP (σ := Int) (ρ := (Bool) ⊕ (Unit)) (L_spec_IsValidIndex_x44 a0 y41) 0).bind fun y45 =>
    (match y45 with
     | .inl y45k0 => (
       letO y45k0 fun w69 =>
       some w69)
     | .inr y45m0 =>
       some true)))
set_option maxHeartbeats 4000000 in
theorem run_spec_IsValidIndex (a0 : TSpatialIndex) (r : Bool) (h : F_spec_IsValidIndex a0 = some r) : Fun Try.prog 26 [.agg [.bs (len a0.fEntries) 5 (row gd (encSpatialEntry) a0.fEntries), .bs (len a0.fBuckets) 1 (row gd (encL len gd 1 (encI .i64)) a0.fBuckets)]] [] (.c (.v (.bool r))) [] true := by
 refine ow [1, 7, 13] Try.func26 Try.ntmps26 ?_; unfold F_spec_IsValidIndex at h; unfold L_spec_IsValidIndex_x10 at h; unfold L_spec_IsValidIndex_x44 at h; have hf_spec_l09In := @run_spec_l09In; have hf_spec_l09Rect := @run_spec_l09Rect; have hf_spec_l11Made := @run_spec_l11Made; have hf_spec_l11SameInts := @run_spec_l11SameInts
 generalize hLEN : @len = LEN, hGD : @gd = GD, hA : std = A, hP : Try.prog = P at *; cbv; revert h; refine cu (fun y1 => (sparse 74 [(1, .c (.ptr 64 0)), (16, .c (.v (.bool y1)))] [(64, .var [.bs (LEN a0.fEntries) 5 (row GD (encSpatialEntry) a0.fEntries), .bs (LEN a0.fBuckets) 1 (row GD (encL LEN GD 1 (encI .i64)) a0.fBuckets)])])) (fun y1 S hS h => rg) fun w7 => rz fun h => ?_; cbv
 revert h; refine fk ?_ ?_ <;> intro h <;> cbv
 ·exact df
 revert h; refine lc (fun x => (sparse 74 [(1, .c (.ptr 64 0)), (3, .c (.v (.int .i64 x)))] [(64, .var [.bs (LEN a0.fEntries) 5 (row GD (encSpatialEntry) a0.fEntries), .bs (LEN a0.fBuckets) 1 (row GD (encL LEN GD 1 (encI .i64)) a0.fBuckets)])])) (fun y e s => (match y with | .inl w => e = .ret ∧ s.le (sparse 74 [(2, .c (.v (.bool w)))] []) | .inr w0 => (fun (w : Unit) => e = .exit 0 ∧ s.le (sparse 74 [(1, .c (.ptr 64 0))] [(64, .var [.bs (LEN a0.fEntries) 5 (row GD (encSpatialEntry) a0.fEntries), .bs (LEN a0.fBuckets) 1 (row GD (encL LEN GD 1 (encI .i64)) a0.fBuckets)])])) w0)) zb ?_ ?_
 ·intro v9 z h K hK hY; replace h := oz h; cbv; revert h; refine fk ?_ ?_ <;> intro h <;> cbv
  ·revert h; refine ra fun c22 h => ?_; revert h; refine cu (fun y23 => (sparse 74 [(1, .c (.ptr 64 0)), (3, .c (.v (.int .i64 v9))), (54, .c (.v (.bool y23)))] [(64, .var [.bs (LEN a0.fEntries) 5 (row GD (encSpatialEntry) a0.fEntries), .bs (LEN a0.fBuckets) 1 (row GD (encL LEN GD 1 (encI .i64)) a0.fBuckets)])])) ?_ fun w29 => rz fun h => ?_
   ·intro y23 S hS h; cbv; revert h; refine rk0 (hf_spec_l09In _ _ _) fun y30 h => ?_; cbv; revert h; refine fk ?_ ?_ <;> intro h <;> cbv
    ·exact dn
    revert h; refine rk0 (hf_spec_l09Rect _) fun y32 h => ?_; cbv; revert h; refine fk ?_ ?_ <;> intro h <;> cbv
    ·exact dn
    revert h; refine fk ?_ ?_ <;> intro h <;> cbv
    ·revert h; refine ra fun c34 h => ?_; exact dn
    exact dn
   cbv; revert h; refine fk ?_ ?_ <;> intro h <;> cbv
   ·exact dy
   exact dm
  exact dy
 intro y11 h e20 s21 q19 hne; rcases y11 with y11k0 | y11m0
 ·replace h := h; obtain ⟨rfl, q19⟩ := q19; revert h; refine rz fun h => ?_; cbv; injection h with h; subst h; exact ⟨_, q19, lR _, zo, rfl⟩
 ·obtain ⟨rfl, q19⟩ := q19; cbv; refine ⟨_, q19, ?_⟩; cbv; revert h; refine rk [] [(64000, 3648)] (hf_spec_l11Made _) (fun _ => zf) fun y41 h => ⟨_, rfl, _, _, rfl, fun _ _ _ _ => .refl _, ?_⟩
  cbv
  revert h; refine lc (fun x => (sparse 74 [(1, .c (.ptr 64 0)), (5, .c (.ptr 320 0)), (6, .c (.v (.int .i64 x)))] [(64, .var [.bs (LEN a0.fEntries) 5 (row GD (encSpatialEntry) a0.fEntries), .bs (LEN a0.fBuckets) 1 (row GD (encL LEN GD 1 (encI .i64)) a0.fBuckets)]), (320, .var [.bs (LEN y41.fEntries) 5 (row GD (encSpatialEntry) y41.fEntries), .os 3648 0 (LEN y41.fBuckets)]), (3648, .arr .rw [] (LEN y41.fBuckets) 1 (row GD (oncL LEN GD 1 (encI .i64)) y41.fBuckets))])) (fun y e s => (match y with | .inl w => e = .ret ∧ s.le (sparse 74 [(2, .c (.v (.bool w)))] []) | .inr w0 => (fun (w : Unit) => e = .exit 2 ∧ s.le (sparse 74 [] [])) w0)) zb ?_ ?_
  ·intro v43 z h K hK hY; replace h := oz h; cbv; revert h; refine fk ?_ ?_ <;> intro h <;> cbv
   ·revert h; refine cu (fun y56 => (sparse 74 [(1, .c (.ptr 64 0)), (5, .c (.ptr 320 0)), (6, .c (.v (.int .i64 v43))), (73, .c (.v (.bool y56)))] [(64, .var [.bs (LEN a0.fEntries) 5 (row GD (encSpatialEntry) a0.fEntries), .bs (LEN a0.fBuckets) 1 (row GD (encL LEN GD 1 (encI .i64)) a0.fBuckets)]), (320, .var [.bs (LEN y41.fEntries) 5 (row GD (encSpatialEntry) y41.fEntries), .os 3648 0 (LEN y41.fBuckets)]), (3648, .arr .rw [] (LEN y41.fBuckets) 1 (row GD (oncL LEN GD 1 (encI .i64)) y41.fBuckets))])) ?_ fun w62 => rz fun h => ?_
    ·intro y56 S hS h; cbv; revert h; refine ra fun c63 h => ?_; revert h; refine ra fun c64 h => ?_; refine ai c64 ?_; refine ⟨_, rfl, _, (patchC (row GD (oncL LEN GD 1 (encI .i64)) y41.fBuckets) (A.nadd 0 (A.toN v43)) [.os 4546 0 (LEN (GD y41.fBuckets (A.nadd 0 (A.toN v43))))]), rfl, wkOf (patch_of zr), ?_⟩
     refine ⟨_, row GD (encI .i64) (GD y41.fBuckets (A.nadd 0 (A.toN v43))), rfl, wkOf (fun i _ j _ => plain_cp (rfl)), ?_⟩; cbv; revert h; refine rk [] [] (hf_spec_l11SameInts _ _) (fun _ => zg (les_cons (lR _) (les_cons (give_os (fun _ _ => rfl) rfl rfl rfl) (les_nil)))) fun y65 h => ?_; cbv; injection h with h; subst h; subst hS; show St.le _ _
     refine St.le_trans (le_foldP 3648 0 4546 rfl rfl rfl (by decide) (by subst hA; exact idx_lt c64) (by decide) rfl (fun _ _ => rfl)) ?_; exact le_sparse rfl zl ⟨rfl, rfl, oP (fun _ _ => rfl) (by subst hGD hLEN hA; exact patch_same zr), trivial⟩ rfl
    cbv; revert h; refine fk ?_ ?_ <;> intro h <;> cbv
    ·exact dy
    exact dm
   exact dy
  intro y45 h e54 s55 q53 hne; rcases y45 with y45k0 | y45m0
  ·replace h := h; obtain ⟨rfl, q53⟩ := q53; revert h; refine rz fun h => ?_; cbv; injection h with h; subst h; exact ⟨_, q53, lR _, zo, rfl⟩
  ·obtain ⟨rfl, q53⟩ := q53; cbv; refine ⟨_, q53, ?_⟩; cbv; exact df

noncomputable def L_spec_CandidateCount_x28 (a0 : TSpatialIndex) (a1 : TRect) (v13 : Int) (v14 : Int) : (Int) → Option ((Int) ⊕ ((Int))) := fun x28 =>
 letO x28 fun v27 =>
 br (std.lt v27 25)
 (((
    (F_spec_l11Bucket v27).bind fun y47 =>
    (F_spec_l11Overlap a1 y47).bind fun y49 =>
    br y49
    (req (std.inR v14 (len a0.fEntries)) <|
    (F_spec_l11Bucket v27).bind fun y52 =>
    (F_spec_l11Overlap (gd a0.fEntries (std.toN v14)).fBox y52).bind fun y54 =>
    some y54)
    (some false)
  ) : Option (Bool)).bind fun y40 =>
 letO y40 fun w46 =>
 br w46
 (some (.inr (std.add .i64 v13 1)))
 (some (.inl (std.add .i64 v27 1))))
 (some (.inr v13))
noncomputable def L_spec_CandidateCount_x15 (a0 : TSpatialIndex) (a1 : TRect) : (Int × Int) → Option ((Int × Int) ⊕ ((Int))) := fun x15 =>
 letO x15.1 fun v13 =>
 letO x15.2 fun v14 =>
 br (std.lt v14 (std.ofN (len a0.fEntries)))
 ((whileP (σ := Int) (ρ := (Int)) (L_spec_CandidateCount_x28 a0 a1 v13 v14) 0).bind fun y29 =>
 letO y29 fun y29k0 =>
 letO y29k0 fun w59 =>
 some (.inl (w59, std.add .i64 v14 1)))
 (some (.inr v13))
/-- spec.CandidateCount -/
noncomputable def F_spec_CandidateCount (a0 : TSpatialIndex) (a1 : TRect) : Option (Int) :=
 ((
    (F_spec_IsValidIndex (TSpatialIndex.mk a0.fEntries a0.fBuckets)).bind fun y8 =>
    br (!(y8))
    (some true)
    ((F_spec_l09Rect a1).bind fun y10 =>
    some (!(y10)))
  ) : Option (Bool)).bind fun y1 =>
 letO y1 fun w7 =>
 br w7
 (some (-1))
 ((whileP (σ := Int × Int) (ρ := (Int)) (L_spec_CandidateCount_x15 a0 a1) (0, 0)).bind fun y16 =>
 letO y16 fun y16k0 =>
 letO y16k0 fun w61 =>
 some w61)
set_option maxHeartbeats 4000000 in
theorem run_spec_CandidateCount (a0 : TSpatialIndex) (a1 : TRect) (r : Int) (h : F_spec_CandidateCount a0 a1 = some r) : Fun Try.prog 11 [.agg [.bs (len a0.fEntries) 5 (row gd (encSpatialEntry) a0.fEntries), .bs (len a0.fBuckets) 1 (row gd (encL len gd 1 (encI .i64)) a0.fBuckets)], .agg [.v (.int .i64 a1.fX0), .v (.int .i64 a1.fY0), .v (.int .i64 a1.fX1), .v (.int .i64 a1.fY1)]] [] (.c (.v (.int .i64 r))) [] true := by
 refine ow [1, 10] Try.func11 Try.ntmps11 ?_; unfold F_spec_CandidateCount at h; unfold L_spec_CandidateCount_x15 at h; unfold L_spec_CandidateCount_x28 at h; have hf_spec_IsValidIndex := @run_spec_IsValidIndex; have hf_spec_l09Rect := @run_spec_l09Rect; have hf_spec_l11Bucket := @run_spec_l11Bucket; have hf_spec_l11Overlap := @run_spec_l11Overlap
 generalize hLEN : @len = LEN, hGD : @gd = GD, hA : std = A, hP : Try.prog = P at *; cbv
 revert h; refine cu (fun y1 => (sparse 45 [(2, .c (.ptr 128 0)), (3, .c (.ptr 192 0)), (15, .c (.v (.bool y1)))] [(128, .var [.bs (LEN a0.fEntries) 5 (row GD (encSpatialEntry) a0.fEntries), .bs (LEN a0.fBuckets) 1 (row GD (encL LEN GD 1 (encI .i64)) a0.fBuckets)]), (192, .var [.v (.int .i64 a1.fX0), .v (.int .i64 a1.fY0), .v (.int .i64 a1.fX1), .v (.int .i64 a1.fY1)])])) ?_ fun w7 => rz fun h => ?_
 ·intro y1 S hS h; cbv; revert h; refine rk0 (hf_spec_IsValidIndex _) fun y8 h => ?_; cbv; revert h; refine fk ?_ ?_ <;> intro h <;> cbv
  ·exact dn
  revert h; refine rk0 (hf_spec_l09Rect _) fun y10 h => ?_; cbv; exact dn
 cbv; revert h; refine fk ?_ ?_ <;> intro h <;> cbv
 ·exact df
 revert h; refine ln (.exit 0) (fun x => (sparse 45 [(2, .c (.ptr 128 0)), (3, .c (.ptr 192 0)), (5, .c (.v (.int .i64 x.1))), (6, .c (.v (.int .i64 x.2)))] [(128, .var [.bs (LEN a0.fEntries) 5 (row GD (encSpatialEntry) a0.fEntries), .bs (LEN a0.fBuckets) 1 (row GD (encL LEN GD 1 (encI .i64)) a0.fBuckets)]), (192, .var [.v (.int .i64 a1.fX0), .v (.int .i64 a1.fY0), .v (.int .i64 a1.fX1), .v (.int .i64 a1.fY1)])])) (fun w => (sparse 45 [(5, .c (.v (.int .i64 w)))] [])) zb ?_ ?_
 ·rintro ⟨v13, v14⟩ z h K hK hY; replace h := oz (oz h); dsimp only at h; cbv; revert h; refine fk ?_ ?_ <;> intro h <;> cbv
  ·revert h; refine ln (.exit 2) (fun x => (sparse 45 [(2, .c (.ptr 128 0)), (3, .c (.ptr 192 0)), (5, .c (.v (.int .i64 v13))), (6, .c (.v (.int .i64 v14))), (7, .c (.v (.int .i64 x)))] [(128, .var [.bs (LEN a0.fEntries) 5 (row GD (encSpatialEntry) a0.fEntries), .bs (LEN a0.fBuckets) 1 (row GD (encL LEN GD 1 (encI .i64)) a0.fBuckets)]), (192, .var [.v (.int .i64 a1.fX0), .v (.int .i64 a1.fY0), .v (.int .i64 a1.fX1), .v (.int .i64 a1.fY1)])])) (fun w => (sparse 45 [(2, .c (.ptr 128 0)), (3, .c (.ptr 192 0)), (5, .c (.v (.int .i64 w))), (6, .c (.v (.int .i64 v14)))] [(128, .var [.bs (LEN a0.fEntries) 5 (row GD (encSpatialEntry) a0.fEntries), .bs (LEN a0.fBuckets) 1 (row GD (encL LEN GD 1 (encI .i64)) a0.fBuckets)]), (192, .var [.v (.int .i64 a1.fX0), .v (.int .i64 a1.fY0), .v (.int .i64 a1.fX1), .v (.int .i64 a1.fY1)])])) zb ?_ ?_
   ·intro v27 z h K hK hY; replace h := oz h; cbv; revert h; refine fk ?_ ?_ <;> intro h <;> cbv
    ·revert h; refine cu (fun y40 => (sparse 45 [(2, .c (.ptr 128 0)), (3, .c (.ptr 192 0)), (5, .c (.v (.int .i64 v13))), (6, .c (.v (.int .i64 v14))), (7, .c (.v (.int .i64 v27))), (41, .c (.v (.bool y40)))] [(128, .var [.bs (LEN a0.fEntries) 5 (row GD (encSpatialEntry) a0.fEntries), .bs (LEN a0.fBuckets) 1 (row GD (encL LEN GD 1 (encI .i64)) a0.fBuckets)]), (192, .var [.v (.int .i64 a1.fX0), .v (.int .i64 a1.fY0), .v (.int .i64 a1.fX1), .v (.int .i64 a1.fY1)])])) ?_ fun w46 => rz fun h => ?_
     ·intro y40 S hS h; cbv; revert h; refine rk0 (hf_spec_l11Bucket _) fun y47 h => ?_; cbv; revert h; refine rk0 (hf_spec_l11Overlap _ _) fun y49 h => ?_; cbv; revert h; refine fk ?_ ?_ <;> intro h <;> cbv
      ·revert h; refine ra fun c51 h => ?_; revert h; refine rk0 (hf_spec_l11Bucket _) fun y52 h => ?_; cbv; revert h; refine rk0 (hf_spec_l11Overlap _ _) fun y54 h => ?_; cbv; exact dn
      exact dn
     cbv; revert h; refine fk ?_ ?_ <;> intro h <;> cbv
     ·exact dx
     exact dm
    exact dx
   intro w59 h s q37; replace h := oz (oz h); cbv; refine ⟨_, q37, ?_⟩; cbv; exact dm
  exact dx
 intro w61 h s q24; replace h := oz (oz h); cbv; refine ⟨_, q24, ?_⟩; cbv; exact df
end Go.Proofs.Ythjpkcpoepnolaa.AM
