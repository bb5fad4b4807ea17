/-
  What the functions that the law reaches compute, and that they do. No condition.
-/
import Derived.Test.YtfhkecbopidgiaaDoorAmT
import Derived.Test.YtfhkecbopidgiaaDoorAmE
import Derived.Laws.IdiomStrings
import Derived.Shelf.Strconv.Itoa4
import Derived.Shelf.Strings.OnBuilder
import Derived.Test.YtfhkecbopidgiaaDoorChecked
import Derived.WalkKit
import Derived.WalkSpells
namespace Go.Proofs.YtfhkecbopidgiaaDoor.AM
open Go Go.Proofs Go.RowKit
set_option linter.unusedVariables false
set_option linter.unusedSimpArgs false
set_option maxRecDepth 100000

theorem mixed : Tryd.prog.follows .mixedOrders = true := by kernel_rfl
theorem ow (J : List Nat) {f : FuncId} {fn : Func} {c : Code} {n : Nat} {rs : List ResultVar} {args : List AV} {r : AV} {o0 o1 : List (Nat × AO)} {fl : Bool} (hf : Tryd.prog.funcs[f]? = some fn) (hn : fn.ntmps = n) (h : wp std Tryd.prog T (oneOf J) c (startSt n args o0) (endsIn T rs r o1)) (hb : fn.body = some c := by rfl) (hs : fn.results.toList = rs := by rfl) (ha : (fn.name == "runtime.NumGoroutine") = false := by kernel_rfl) (hw : wfO o0 := by exact trivial) (hv : fl = true → r.flat ∧ flatO o1 := by exact fun _ => ⟨trivial, trivial⟩) : Fun Tryd.prog f args o0 r o1 fl := Fun.of_wp (oneOf J) tok mixed hf ha hb hn hs hw hv h
structure TRect where
 fX0 : Int
 fY0 : Int
 fX1 : Int
 fY1 : Int
instance : Inhabited TRect := ⟨⟨default, default, default, default⟩⟩
def encRect (x : TRect) : Nat → AC := fun j => match j with
 | 0 => .v (.int .i64 x.fX0)
 | 1 => .v (.int .i64 x.fY0)
 | 2 => .v (.int .i64 x.fX1)
 | _ => .v (.int .i64 x.fY1)
theorem pl_encRect : ∀ (x : TRect) (j : Nat), plainC (encRect x j) = true := by
 intro x j
 unfold encRect
 split <;> rfl
theorem vl_encRect : ∀ (x : TRect) (j : Nat), valC (encRect x j) = true := by
 intro x j
 unfold encRect
 split <;> rfl
structure TShape where
 fLayer : Int
 fBox : TRect
instance : Inhabited TShape := ⟨⟨default, default⟩⟩
def encShape (x : TShape) : Nat → AC := fun j => match j with
 | 0 => .v (.int .i64 x.fLayer)
 | 1 => .v (.int .i64 x.fBox.fX0)
 | 2 => .v (.int .i64 x.fBox.fY0)
 | 3 => .v (.int .i64 x.fBox.fX1)
 | _ => .v (.int .i64 x.fBox.fY1)
theorem pl_encShape : ∀ (x : TShape) (j : Nat), plainC (encShape x j) = true := by
 intro x j
 unfold encShape
 split <;> rfl
theorem vl_encShape : ∀ (x : TShape) (j : Nat), valC (encShape x j) = true := by
 intro x j
 unfold encShape
 split <;> rfl
/-- laws.toRect -/
noncomputable def F_laws_toRect (a0 : TRect) : Option (TRect) :=
 some a0
set_option maxHeartbeats 4000000 in
theorem run_laws_toRect (a0 : TRect) (r : TRect) (h : F_laws_toRect a0 = some r) : Fun Tryd.prog 15 [.agg [.v (.int .i64 a0.fX0), .v (.int .i64 a0.fY0), .v (.int .i64 a0.fX1), .v (.int .i64 a0.fY1)]] [] (.agg [.v (.int .i64 r.fX0), .v (.int .i64 r.fY0), .v (.int .i64 r.fX1), .v (.int .i64 r.fY1)]) [] true := by
 refine ow [] Tryd.func15 Tryd.ntmps15 ?_ (hv := (fun _ => ⟨(by simp [AV.flat, AV.flat1, AC.flat]), trivial⟩)); unfold F_laws_toRect at h; generalize hLEN : @len = LEN, hGD : @gd = GD, hA : std = A, hP : Tryd.prog = P at *; cbv; exact df

/-- laws.toShape -/
noncomputable def F_laws_toShape (a0 : TShape) : Option (TShape) :=
 (F_laws_toRect a0.fBox).bind fun y1 =>
 some (TShape.mk a0.fLayer y1)
set_option maxHeartbeats 4000000 in
theorem run_laws_toShape (a0 : TShape) (r : TShape) (h : F_laws_toShape a0 = some r) : Fun Tryd.prog 6 [.agg [.v (.int .i64 a0.fLayer), .v (.int .i64 a0.fBox.fX0), .v (.int .i64 a0.fBox.fY0), .v (.int .i64 a0.fBox.fX1), .v (.int .i64 a0.fBox.fY1)]] [] (.agg [.v (.int .i64 r.fLayer), .v (.int .i64 r.fBox.fX0), .v (.int .i64 r.fBox.fY0), .v (.int .i64 r.fBox.fX1), .v (.int .i64 r.fBox.fY1)]) [] true := by
 refine ow [] Tryd.func6 Tryd.ntmps6 ?_ (hv := (fun _ => ⟨(by simp [AV.flat, AV.flat1, AC.flat]), trivial⟩)); unfold F_laws_toShape at h; have hf_laws_toRect := @run_laws_toRect; generalize hLEN : @len = LEN, hGD : @gd = GD, hA : std = A, hP : Tryd.prog = P at *; cbv; revert h; refine rk0 (hf_laws_toRect _) fun y1 h => ?_; cbv; exact df

/-- spec.l09In -/
noncomputable def F_spec_l09In (a0 : Int) (a1 : Int) (a2 : Int) : Option (Bool) :=
 ((
    br (std.le a1 a0)
    (some (std.le a0 a2))
    (some false)
  ) : Option (Bool)).bind fun y1 =>
 letO y1 fun w7 =>
 some w7
set_option maxHeartbeats 4000000 in
theorem run_spec_l09In (a0 : Int) (a1 : Int) (a2 : Int) (r : Bool) (h : F_spec_l09In a0 a1 a2 = some r) : Fun Tryd.prog 21 [.c (.v (.int .i64 a0)), .c (.v (.int .i64 a1)), .c (.v (.int .i64 a2))] [] (.c (.v (.bool r))) [] true := by
 refine ow [1] Tryd.func21 Tryd.ntmps21 ?_; unfold F_spec_l09In at h; generalize hLEN : @len = LEN, hGD : @gd = GD, hA : std = A, hP : Tryd.prog = P at *; cbv; revert h; refine cu (fun y1 => (sparse 15 [(6, .c (.v (.bool y1)))] [])) (fun y1 S hS h => rg) fun w7 => rz fun h => ?_; cbv; exact df

/-- spec.l09Layer -/
noncomputable def F_spec_l09Layer (a0 : Int) : Option (Bool) :=
 (F_spec_l09In a0 0 7).bind fun y1 =>
 some y1
set_option maxHeartbeats 4000000 in
theorem run_spec_l09Layer (a0 : Int) (r : Bool) (h : F_spec_l09Layer a0 = some r) : Fun Tryd.prog 28 [.c (.v (.int .i64 a0))] [] (.c (.v (.bool r))) [] true := by
 refine ow [] Tryd.func28 Tryd.ntmps28 ?_; unfold F_spec_l09Layer at h; have hf_spec_l09In := @run_spec_l09In; generalize hLEN : @len = LEN, hGD : @gd = GD, hA : std = A, hP : Tryd.prog = P at *; cbv; revert h; refine rk0 (hf_spec_l09In _ _ _) fun y1 h => ?_; cbv; exact df

/-- spec.l09Rect -/
noncomputable def F_spec_l09Rect (a0 : TRect) : Option (Bool) :=
 ((
    br (std.le (-40) a0.fX0)
    (br (std.lt a0.fX0 a0.fX1)
    (br (std.le a0.fX1 40)
    (br (std.le (-40) a0.fY0)
    (br (std.lt a0.fY0 a0.fY1)
    (some (std.le a0.fY1 40))
    (some false))
    (some false))
    (some false))
    (some false))
    (some false)
  ) : Option (Bool)).bind fun y1 =>
 letO y1 fun w7 =>
 some w7
set_option maxHeartbeats 4000000 in
theorem run_spec_l09Rect (a0 : TRect) (r : Bool) (h : F_spec_l09Rect a0 = some r) : Fun Tryd.prog 29 [.agg [.v (.int .i64 a0.fX0), .v (.int .i64 a0.fY0), .v (.int .i64 a0.fX1), .v (.int .i64 a0.fY1)]] [] (.c (.v (.bool r))) [] true := by
 refine ow [1] Tryd.func29 Tryd.ntmps29 ?_; unfold F_spec_l09Rect at h; generalize hLEN : @len = LEN, hGD : @gd = GD, hA : std = A, hP : Tryd.prog = P at *; cbv; revert h; refine cu (fun y1 => (sparse 35 [(2, .c (.v (.bool y1)))] [])) (fun y1 S hS h => rg) fun w7 => rz fun h => ?_; cbv; exact df

/-- spec.l09Shape -/
noncomputable def F_spec_l09Shape (a0 : TShape) : Option (Bool) :=
 ((
    (F_spec_l09Layer a0.fLayer).bind fun y8 =>
    br y8
    ((F_spec_l09Rect a0.fBox).bind fun y10 =>
    some y10)
    (some false)
  ) : Option (Bool)).bind fun y1 =>
 letO y1 fun w7 =>
 some w7
set_option maxHeartbeats 4000000 in
theorem run_spec_l09Shape (a0 : TShape) (r : Bool) (h : F_spec_l09Shape a0 = some r) : Fun Tryd.prog 13 [.agg [.v (.int .i64 a0.fLayer), .v (.int .i64 a0.fBox.fX0), .v (.int .i64 a0.fBox.fY0), .v (.int .i64 a0.fBox.fX1), .v (.int .i64 a0.fBox.fY1)]] [] (.c (.v (.bool r))) [] true := by
 refine ow [1] Tryd.func13 Tryd.ntmps13 ?_; unfold F_spec_l09Shape at h; have hf_spec_l09Layer := @run_spec_l09Layer; have hf_spec_l09Rect := @run_spec_l09Rect; generalize hLEN : @len = LEN, hGD : @gd = GD, hA : std = A, hP : Tryd.prog = P at *; cbv; revert h; refine cu (fun y1 => (sparse 11 [(2, .c (.v (.bool y1)))] [])) ?_ fun w7 => rz fun h => ?_
 ·intro y1 S hS h; cbv; revert h; refine rk0 (hf_spec_l09Layer _) fun y8 h => ?_; cbv; revert h; refine fk ?_ ?_ <;> intro h <;> cbv
  ·revert h; refine rk0 (hf_spec_l09Rect _) fun y10 h => ?_; cbv; exact dn
  exact dn
 cbv; exact df
/-- spec.l16In -/
noncomputable def F_spec_l16In (a0 : Int) (a1 : Int) (a2 : Int) : Option (Bool) :=
 ((
    br (std.le a1 a0)
    (some (std.le a0 a2))
    (some false)
  ) : Option (Bool)).bind fun y1 =>
 letO y1 fun w7 =>
 some w7
set_option maxHeartbeats 4000000 in
theorem run_spec_l16In (a0 : Int) (a1 : Int) (a2 : Int) (r : Bool) (h : F_spec_l16In a0 a1 a2 = some r) : Fun Tryd.prog 42 [.c (.v (.int .i64 a0)), .c (.v (.int .i64 a1)), .c (.v (.int .i64 a2))] [] (.c (.v (.bool r))) [] true := by
 refine ow [1] Tryd.func42 Tryd.ntmps42 ?_; unfold F_spec_l16In at h; generalize hLEN : @len = LEN, hGD : @gd = GD, hA : std = A, hP : Tryd.prog = P at *; cbv; revert h; refine cu (fun y1 => (sparse 15 [(6, .c (.v (.bool y1)))] [])) (fun y1 S hS h => rg) fun w7 => rz fun h => ?_; cbv; exact df

/-- spec.l16Names -/
noncomputable def F_spec_l16Names  : Option (List ByteArray) :=
 letO ([(ByteArray.mk #[100, 105, 102, 102, 117, 115, 105, 111, 110]), (ByteArray.mk #[112, 111, 108, 121]), (ByteArray.mk #[99, 111, 110, 116, 97, 99, 116]), (ByteArray.mk #[109, 101, 116, 97, 108, 49]), (ByteArray.mk #[118, 105, 97]), (ByteArray.mk #[109, 101, 116, 97, 108, 50]), (ByteArray.mk #[119, 101, 108, 108]), (ByteArray.mk #[109, 97, 114, 107, 101, 114])] : List ByteArray) fun l1 =>
 some l1
set_option maxHeartbeats 4000000 in
theorem run_spec_l16Names  (r : List ByteArray) (h : F_spec_l16Names  = some r) : Fun Tryd.prog 43 [] [] (.c (.os 64000 0 (len r))) [(64000, .arr .rw [] (len r) 1 (row gd (encS) r))] true := by
 refine ow [] Tryd.func43 Tryd.ntmps43 ?_ (hv := (fun _ => ⟨trivial, ⟨fun i _ j _ => val_flat (rfl), trivial⟩⟩)); unfold F_spec_l16Names at h; generalize hLEN : @len = LEN, hGD : @gd = GD, hA : std = A, hP : Tryd.prog = P at *; cbv; revert h; refine rl fun l1 hl1 h => ?_; have e2 : 8 = LEN l1 := by subst hl1 hLEN; rfl
 refine ⟨_, (co e2), _, row GD (encS) l1, e2, wkOf ?_, ?_⟩
 ·intro i hi j hj; rw [← e2] at hi; subst hl1; subst hGD; obtain rfl | rfl | rfl | rfl | rfl | rfl | rfl | rfl : i = 0 ∨ i = 1 ∨ i = 2 ∨ i = 3 ∨ i = 4 ∨ i = 5 ∨ i = 6 ∨ i = 7 := (by omega); all_goals obtain rfl : j = 0 := by omega
  all_goals rfl
 cbv; injection h with h; subst h; exact ⟨_, le_ren 64 64000 (by decide) rfl, lR _, zo, rfl⟩

/-- spec.LayerName -/
noncomputable def F_spec_LayerName (a0 : Int) : Option (ByteArray) :=
 (F_spec_l16In a0 0 7).bind fun y1 =>
 br (!(y1))
 (some (ByteArray.mk #[]))
 ((F_spec_l16Names ).bind fun y3 =>
 req (std.inR a0 (len y3)) <|
 some (gd y3 (std.nadd 0 (std.toN a0))))
set_option maxHeartbeats 4000000 in
theorem run_spec_LayerName (a0 : Int) (r : ByteArray) (h : F_spec_LayerName a0 = some r) : Fun Tryd.prog 30 [.c (.v (.int .i64 a0))] [] (.c (.v (.string r))) [] true := by
 refine ow [] Tryd.func30 Tryd.ntmps30 ?_; unfold F_spec_LayerName at h; have hf_spec_l16In := @run_spec_l16In; have hf_spec_l16Names := @run_spec_l16Names; generalize hLEN : @len = LEN, hGD : @gd = GD, hA : std = A, hP : Tryd.prog = P at *; cbv; revert h; refine rk0 (hf_spec_l16In _ _ _) fun y1 h => ?_; cbv; revert h; refine fk ?_ ?_ <;> intro h <;> cbv
 ·exact df
 revert h; refine rb fun y3 hy4 h => ?_; refine ⟨{ args := [], o0 := [], r := .c (.os 64000 0 (LEN y3)), o1 := [(64000, .arr .rw [] (LEN y3) 1 (row GD (encS) y3))], fl := true, σ := [], τ := [(64000, 384)] }, hf_spec_l16Names  _ hy4, ⟨les_nil, trivial, rfl, rfl, rfl, rfl, ⟨fun h => absurd (show (64000 : Nat) % 2 = 1 from h) (by decide), trivial⟩, rfl⟩, _, rfl, _, _, rfl, fun _ _ _ _ => .refl _, ?_⟩
 cbv; revert h; refine ra fun c5 h => ?_; refine ai c5 ?_; exact df

noncomputable def L_spec_l01Number_x5  : (Int × (List Int)) → Option ((Int × (List Int)) ⊕ (((List Int)))) := fun x5 =>
 letO x5.1 fun v3 =>
 letO x5.2 fun v4 =>
 br (std.not (std.eq v3 0))
 (req (std.nz 10) <|
 ((
    br (std.lt (std.rem v3 10) 0)
    (some (std.sub .i64 0 (std.rem v3 10)))
    (some (std.rem v3 10))
  ) : Option (Int)).bind fun y18 =>
 letO y18 fun w24 =>
 letO ([std.conv .u8 (std.add .i64 48 w24)] : List Int) fun l26 =>
 req (std.room (std.nadd (len l26) (len v4)) 1) <|
 letO (l26 ++ v4) fun l28 =>
 req (std.nz 10) <|
 some (.inl (std.quo .i64 v3 10, l28)))
 (some (.inr v4))
/-- spec.l01Number -/
noncomputable def F_spec_l01Number (a0 : Int) : Option (ByteArray) :=
 br (std.eq a0 0)
 (some (ByteArray.mk #[48]))
 (letO ([] : List Int) fun l1 =>
 (whileP (σ := Int × (List Int)) (ρ := ((List Int))) L_spec_l01Number_x5 (a0, l1)).bind fun y6 =>
 letO y6 fun y6k0 =>
 letO y6k0 fun w33 =>
 ((
    br (std.lt a0 0)
    (letO ([45] : List Int) fun l41 =>
    req (std.room (std.nadd (len l41) (len w33)) 1) <|
    letO (l41 ++ w33) fun l43 =>
    some l43)
    (some w33)
  ) : Option ((List Int))).bind fun y34 =>
 letO y34 fun w40 =>
 some (std.ofBytes (len w40) (fun i => gd w40 (0 + i))))
set_option maxHeartbeats 4000000 in
theorem run_spec_l01Number (a0 : Int) (r : ByteArray) (h : F_spec_l01Number a0 = some r) : Fun Tryd.prog 44 [.c (.v (.int .i64 a0))] [] (.c (.v (.string r))) [] true := by
 refine ow [100017, 100027] Tryd.func44 Tryd.ntmps44 ?_; unfold F_spec_l01Number at h; unfold L_spec_l01Number_x5 at h; generalize hLEN : @len = LEN, hGD : @gd = GD, hA : std = A, hP : Tryd.prog = P at *; cbv; revert h; refine fk ?_ ?_ <;> intro h <;> cbv
 ·exact df
 revert h; refine rl fun l1 hl1 h => ?_; have e2 : 0 = LEN l1 := by subst hl1 hLEN; rfl
 refine ⟨_, (co e2), _, row GD (encI .u8) l1, e2, wkOf ?_, ?_⟩
 ·intro i hi j hj; rw [← e2] at hi; subst hl1; subst hGD; omega
 cbv; revert h; refine ln (.exit 0) (fun x => (sparse 33 [(0, .c (.v (.int .i64 a0))), (3, .c (.os 62000 0 (LEN x.2))), (4, .c (.v (.int .i64 x.1)))] [(62000, .arr .rw [] (LEN x.2) 1 (row GD (encI .u8) x.2))])) (fun w => (sparse 33 [(0, .c (.v (.int .i64 a0))), (3, .c (.os 62000 0 (LEN w)))] [(62000, .arr .rw [] (LEN w) 1 (row GD (encI .u8) w))])) ?_ ?_ ?_
 ·show St.le _ _; refine St.le_trans (le_ren 512 62000 (by decide) rfl) ?_; exact zb
 ·rintro ⟨v3, v4⟩ z h K hK hY; replace h := oz (oz h); dsimp only at h; cbv; revert h; refine fk ?_ ?_ <;> intro h <;> cbv
  ·revert h; refine ra fun c17 h => ?_; revert h; refine cu (fun y18 => some (sparse 33 [(0, .c (.v (.int .i64 a0))), (3, .c (.os 62000 0 (LEN v4))), (4, .c (.v (.int .i64 v3))), (5, .c (.v (.int .i64 y18)))] [(62000, .arr .rw [] (LEN v4) 1 (row GD (encI .u8) v4))])) (fun y18 S hS h => rg) fun w24 => rz fun h => ?_; cbv; revert h; refine rl fun l26 hl26 h => ?_
   have e27 : 1 = LEN l26 := by subst hl26 hLEN; rfl
   refine ⟨_, (co e27), _, row GD (encI .u8) l26, e27, wkOf ?_, ?_⟩
   ·intro i hi j hj; rw [← e27] at hi; subst hl26; subst hGD; obtain rfl : i = 0 := (by omega); all_goals obtain rfl : j = 0 := by omega
    all_goals rfl
   cbv; revert h; refine rq fun c30 => rl fun l28 hl28 h => ?_; have e29 := nl hA hLEN hl28; refine ⟨c30, _, (co e29), _, row GD (encI .u8) l28, e29, wkOf ?_, ?_⟩
   ·subst hGD hLEN hA; exact app_os (off := 0) (fun _ _ => rfl) hl28 (Nat.le_refl _)
   cbv; revert h; refine ra fun c31 h => ?_; injection h with h; refine hK _ h.symm _ ?_; refine St.le_trans (le_swap 1472 62000 (by decide) (by decide)) ?_; exact zb
  exact dx
 intro w33 h s q14; replace h := oz (oz h); cbv; refine ⟨_, q14, ?_⟩; cbv; revert h; refine cu (fun y34 => some (sparse 33 [(3, .c (.os 1792 0 (LEN y34)))] [(1792, .arr .rw [] (LEN y34) 1 (row GD (encI .u8) y34))])) ?_ fun w40 => rz fun h => ?_
 ·intro y34 S hS h; cbv; revert h; refine fk ?_ ?_ <;> intro h <;> cbv
  ·revert h; refine rl fun l41 hl41 h => ?_; have e42 : 1 = LEN l41 := by subst hl41 hLEN; rfl
   refine ⟨_, (co e42), _, row GD (encI .u8) l41, e42, wkOf ?_, ?_⟩
   ·intro i hi j hj; rw [← e42] at hi; subst hl41; subst hGD; obtain rfl : i = 0 := (by omega); all_goals obtain rfl : j = 0 := by omega
    all_goals rfl
   cbv; revert h; refine rq fun c45 => rl fun l43 hl43 h => ?_; have e44 := nl hA hLEN hl43; refine ⟨c45, _, (co e44), _, row GD (encI .u8) l43, e44, wkOf ?_, ?_⟩
   ·subst hGD hLEN hA; exact app_os (off := 0) (fun _ _ => rfl) hl43 (Nat.le_refl _)
   cbv; exact dn
  injection h with h; subst h; subst hS; show St.le _ _; refine St.le_trans (le_ren 62000 1792 (by decide) rfl) ?_; exact zb
 cbv; refine ⟨fun _ _ => rfl, ?_⟩; exact df

noncomputable def L_spec_l15Numbers_x3 (a0 : List Int) : (ByteArray × Int) → Option ((ByteArray × Int) ⊕ ((ByteArray))) := fun x3 =>
 letO x3.1 fun v1 =>
 letO x3.2 fun v2 =>
 br (std.lt v2 (std.ofN (len a0)))
 (req (std.room (std.nadd (std.slen v1) (std.slen (ByteArray.mk #[32]))) 1) <|
 req (std.inR v2 (len a0)) <|
 (F_spec_l01Number (gd a0 (std.toN v2))).bind fun y17 =>
 req (std.room (std.nadd (std.slen (std.scat v1 (ByteArray.mk #[32]))) (std.slen y17)) 1) <|
 some (.inl (std.scat (std.scat v1 (ByteArray.mk #[32])) y17, std.add .i64 v2 1)))
 (some (.inr v1))
/-- spec.l15Numbers -/
noncomputable def F_spec_l15Numbers (a0 : List Int) : Option (ByteArray) :=
 (whileP (σ := ByteArray × Int) (ρ := (ByteArray)) (L_spec_l15Numbers_x3 a0) ((ByteArray.mk #[]), 0)).bind fun y4 =>
 letO y4 fun y4k0 =>
 letO y4k0 fun w21 =>
 some w21
set_option maxHeartbeats 4000000 in
theorem run_spec_l15Numbers (a0 : List Int) (r : ByteArray) (h : F_spec_l15Numbers a0 = some r) : Fun Tryd.prog 31 [.c (.bs (len a0) 1 (row gd (encI .i64) a0))] [] (.c (.v (.string r))) [] true := by
 refine ow [] Tryd.func31 Tryd.ntmps31 ?_; unfold F_spec_l15Numbers at h; unfold L_spec_l15Numbers_x3 at h; have hf_spec_l01Number := @run_spec_l01Number; generalize hLEN : @len = LEN, hGD : @gd = GD, hA : std = A, hP : Tryd.prog = P at *; cbv
 revert h; refine ln (.exit 0) (fun x => (sparse 20 [(0, .c (.bs (LEN a0) 1 (row GD (encI .i64) a0))), (3, .c (.v (.string x.1))), (4, .c (.v (.int .i64 x.2)))] [])) (fun w => (sparse 20 [(3, .c (.v (.string w)))] [])) zb ?_ ?_
 ·rintro ⟨v1, v2⟩ z h K hK hY; replace h := oz (oz h); dsimp only at h; cbv; revert h; refine fk ?_ ?_ <;> intro h <;> cbv
  ·revert h; refine ra fun c15 h => ?_; revert h; refine ra fun c16 h => ?_; revert h; refine rk0 (hf_spec_l01Number _) fun y17 h => ?_; cbv; revert h; refine ra fun c19 h => ?_; exact dm
  exact dx
 intro w21 h s q12; replace h := oz (oz h); cbv; refine ⟨_, q12, ?_⟩; cbv; exact df

/-- spec.l15Shape -/
noncomputable def F_spec_l15Shape (a0 : TShape) : Option (ByteArray) :=
 (F_spec_LayerName a0.fLayer).bind fun y1 =>
 req (std.room (std.nadd (std.slen (ByteArray.mk #[114, 101, 99, 116, 32])) (std.slen y1)) 1) <|
 letO ([a0.fBox.fX0, a0.fBox.fY0, a0.fBox.fX1, a0.fBox.fY1] : List Int) fun l4 =>
 (F_spec_l15Numbers l4).bind fun y6 =>
 req (std.room (std.nadd (std.slen (std.scat (ByteArray.mk #[114, 101, 99, 116, 32]) y1)) (std.slen y6)) 1) <|
 some (std.scat (std.scat (ByteArray.mk #[114, 101, 99, 116, 32]) y1) y6)
set_option maxHeartbeats 4000000 in
theorem run_spec_l15Shape (a0 : TShape) (r : ByteArray) (h : F_spec_l15Shape a0 = some r) : Fun Tryd.prog 14 [.agg [.v (.int .i64 a0.fLayer), .v (.int .i64 a0.fBox.fX0), .v (.int .i64 a0.fBox.fY0), .v (.int .i64 a0.fBox.fX1), .v (.int .i64 a0.fBox.fY1)]] [] (.c (.v (.string r))) [] true := by
 refine ow [] Tryd.func14 Tryd.ntmps14 ?_; unfold F_spec_l15Shape at h; have hf_spec_LayerName := @run_spec_LayerName; have hf_spec_l15Numbers := @run_spec_l15Numbers; generalize hLEN : @len = LEN, hGD : @gd = GD, hA : std = A, hP : Tryd.prog = P at *; cbv; revert h; refine rk0 (hf_spec_LayerName _) fun y1 h => ?_; cbv; revert h; refine ra fun c3 h => ?_; revert h; refine rl fun l4 hl4 h => ?_
 have e5 : 4 = LEN l4 := by subst hl4 hLEN; rfl
 refine ⟨_, (co e5), _, row GD (encI .i64) l4, e5, wkOf ?_, ?_⟩
 ·intro i hi j hj; rw [← e5] at hi; subst hl4; subst hGD; obtain rfl | rfl | rfl | rfl : i = 0 ∨ i = 1 ∨ i = 2 ∨ i = 3 := (by omega); all_goals obtain rfl : j = 0 := by omega
  all_goals rfl
 cbv; revert h; refine rk [] [] (hf_spec_l15Numbers _) (fun _ => zg (les_cons (give_os (fun _ _ => rfl) rfl rfl rfl) (les_nil))) fun y6 h => ?_; cbv; revert h; refine ra fun c8 h => ?_; exact df
/-- spec.FormatShape -/
noncomputable def F_spec_FormatShape (a0 : TShape) : Option (ByteArray) :=
 (F_spec_l09Shape a0).bind fun y1 =>
 br (!(y1))
 (some (ByteArray.mk #[]))
 ((F_spec_l15Shape a0).bind fun y3 =>
 some y3)
set_option maxHeartbeats 4000000 in
theorem run_spec_FormatShape (a0 : TShape) (r : ByteArray) (h : F_spec_FormatShape a0 = some r) : Fun Tryd.prog 5 [.agg [.v (.int .i64 a0.fLayer), .v (.int .i64 a0.fBox.fX0), .v (.int .i64 a0.fBox.fY0), .v (.int .i64 a0.fBox.fX1), .v (.int .i64 a0.fBox.fY1)]] [] (.c (.v (.string r))) [] true := by
 refine ow [] Tryd.func5 Tryd.ntmps5 ?_; unfold F_spec_FormatShape at h; have hf_spec_l09Shape := @run_spec_l09Shape; have hf_spec_l15Shape := @run_spec_l15Shape; generalize hLEN : @len = LEN, hGD : @gd = GD, hA : std = A, hP : Tryd.prog = P at *; cbv; revert h; refine rk0 (hf_spec_l09Shape _) fun y1 h => ?_; cbv; revert h; refine fk ?_ ?_ <;> intro h <;> cbv
 ·exact df
 revert h; refine rk0 (hf_spec_l15Shape _) fun y3 h => ?_; cbv; exact df

/-- impl.within -/
noncomputable def F_impl_within (a0 : Int) (a1 : Int) (a2 : Int) : Option (Bool) :=
 ((
    br (std.le a1 a0)
    (some (std.le a0 a2))
    (some false)
  ) : Option (Bool)).bind fun y1 =>
 letO y1 fun w7 =>
 some w7
set_option maxHeartbeats 4000000 in
theorem run_impl_within (a0 : Int) (a1 : Int) (a2 : Int) (r : Bool) (h : F_impl_within a0 a1 a2 = some r) : Fun Tryd.prog 25 [.c (.v (.int .i64 a0)), .c (.v (.int .i64 a1)), .c (.v (.int .i64 a2))] [] (.c (.v (.bool r))) [] true := by
 refine ow [1] Tryd.func25 Tryd.ntmps25 ?_; unfold F_impl_within at h; generalize hLEN : @len = LEN, hGD : @gd = GD, hA : std = A, hP : Tryd.prog = P at *; cbv; revert h; refine cu (fun y1 => (sparse 15 [(6, .c (.v (.bool y1)))] [])) (fun y1 S hS h => rg) fun w7 => rz fun h => ?_; cbv; exact df

/-- impl.IsValidRect -/
noncomputable def F_impl_IsValidRect (a0 : TRect) : Option (Bool) :=
 ((
    br (std.le (-40) a0.fX0)
    (br (std.lt a0.fX0 a0.fX1)
    (br (std.le a0.fX1 40)
    (br (std.le (-40) a0.fY0)
    (br (std.lt a0.fY0 a0.fY1)
    (some (std.le a0.fY1 40))
    (some false))
    (some false))
    (some false))
    (some false))
    (some false)
  ) : Option (Bool)).bind fun y1 =>
 letO y1 fun w7 =>
 some w7
set_option maxHeartbeats 4000000 in
theorem run_impl_IsValidRect (a0 : TRect) (r : Bool) (h : F_impl_IsValidRect a0 = some r) : Fun Tryd.prog 32 [.agg [.v (.int .i64 a0.fX0), .v (.int .i64 a0.fY0), .v (.int .i64 a0.fX1), .v (.int .i64 a0.fY1)]] [] (.c (.v (.bool r))) [] true := by
 refine ow [1] Tryd.func32 Tryd.ntmps32 ?_; unfold F_impl_IsValidRect at h; generalize hLEN : @len = LEN, hGD : @gd = GD, hA : std = A, hP : Tryd.prog = P at *; cbv; revert h; refine cu (fun y1 => (sparse 35 [(2, .c (.v (.bool y1)))] [])) (fun y1 S hS h => rg) fun w7 => rz fun h => ?_; cbv; exact df

/-- impl.validShape -/
noncomputable def F_impl_validShape (a0 : TShape) : Option (Bool) :=
 ((
    (F_impl_within a0.fLayer 0 7).bind fun y8 =>
    br y8
    ((F_impl_IsValidRect a0.fBox).bind fun y10 =>
    some y10)
    (some false)
  ) : Option (Bool)).bind fun y1 =>
 letO y1 fun w7 =>
 some w7
set_option maxHeartbeats 4000000 in
theorem run_impl_validShape (a0 : TShape) (r : Bool) (h : F_impl_validShape a0 = some r) : Fun Tryd.prog 16 [.agg [.v (.int .i64 a0.fLayer), .v (.int .i64 a0.fBox.fX0), .v (.int .i64 a0.fBox.fY0), .v (.int .i64 a0.fBox.fX1), .v (.int .i64 a0.fBox.fY1)]] [] (.c (.v (.bool r))) [] true := by
 refine ow [1] Tryd.func16 Tryd.ntmps16 ?_; unfold F_impl_validShape at h; have hf_impl_IsValidRect := @run_impl_IsValidRect; have hf_impl_within := @run_impl_within; generalize hLEN : @len = LEN, hGD : @gd = GD, hA : std = A, hP : Tryd.prog = P at *; cbv; revert h; refine cu (fun y1 => (sparse 11 [(2, .c (.v (.bool y1)))] [])) ?_ fun w7 => rz fun h => ?_
 ·intro y1 S hS h; cbv; revert h; refine rk0 (hf_impl_within _ _ _) fun y8 h => ?_; cbv; revert h; refine fk ?_ ?_ <;> intro h <;> cbv
  ·revert h; refine rk0 (hf_impl_IsValidRect _) fun y10 h => ?_; cbv; exact dn
  exact dn
 cbv; exact df


set_option maxHeartbeats 400000 in
theorem calls_impl_LayerName (a : Int) (w : World) (hc : ∀ j, j < 8 → w.cell? ⟨0, j, none⟩ = some (.string (mkS (layerL.getD j [])))) :
  Calls Tryd.prog 18 #[.int .i64 a] w fun e w' => e = .returned (.string (nameAt layerL a)) ∧ w = w' := by
 by_cases h : 0 ≤ a ∧ a < 8
 ·obtain ⟨k, rfl⟩ := Int.eq_ofNat_of_zero_le h.1
  have hk : k < 8 := by omega
  have HF := Lib.hid (show nameAt layerL (k : Int) = mkS (layerL.getD k []) by unfold nameAt; rw [if_pos (by exact h)]; rfl)
  have c := hc k hk
  generalize layerL.getD k [] = x at c HF
  have hd : decide ((k : Int) ≤ 7) = true := by simp; omega
  clear hc h
  go_enter Tryd.func18, Tryd.ntmps18
  go_wp2
  go_ret
  exact ⟨by rw [HF.out]; rfl, rfl⟩
 ·have HF := Lib.hid (show nameAt layerL a = ByteArray.mk #[] by unfold nameAt; rw [if_neg (by exact h)]; rfl)
  clear hc
  rcases (show a < 0 ∨ (0 ≤ a ∧ 7 < a) by omega) with h1 | ⟨h1, h2⟩
  ·clear h
   go_enter Tryd.func18, Tryd.ntmps18
   go_wp2
   go_ret
   exact ⟨by rw [HF.out]; rfl, rfl⟩
  ·have hd : decide (a ≤ 7) = false := by simp; omega
   clear h
   go_enter Tryd.func18, Tryd.ntmps18
   go_wp2
   go_ret
   exact ⟨by rw [HF.out]; rfl, rfl⟩
/-- the name at an index -/
noncomputable def F_impl_LayerName (a0 : Int) : Option ByteArray := some (nameAt layerL a0)
theorem run_impl_LayerName (a0 : Int) (r : ByteArray) (h : F_impl_LayerName a0 = some r) : Fun Tryd.prog 18 [.c (.v (.int .i64 a0))] [] (.c (.v (.string r))) [] true := by
 unfold F_impl_LayerName at h
 injection h with h
 subst h
 refine Fun.pureB Tryd.func18 (by kernel_rfl) (by kernel_rfl) [.int .i64 a0] (fun w I hg => (calls_impl_LayerName a0 w fun j hj => ?_).mono fun e w' h => ⟨h.1, h.2 ▸ RowKit.Below.refl _ _⟩)
 refine hg.cell (x := (0, layerL.map fun l => Value.string (mkS l))) (by unfold glob; simp) ?_
 have hl : j < layerL.length := hj
 rw [List.getElem?_map, List.getElem?_eq_getElem hl, List.getD_eq_getElem?_getD, List.getElem?_eq_getElem hl]
 rfl

def lays45_ren : Go.Shelf.Ren := ⟨fun | 173 => 45 | 246 => 62 | 283 => 85 | 284 => 86 | 285 => 87 | 286 => 88 | 129 => 104 | 317 => 103 | 318 => 105 | 319 => 106 | 320 => 107 | 337 => 108 | 338 => 109 | n => n, fun | 2 => 2 | 3 => 3 | 9 => 9 | 4 => 4 | 171 => 128 | 0 => 0 | 53 => 129 | 37 => 81 | 5 => 5 | 173 => 132 | 212 => 149 | 51 => 150 | 20 => 20 | 213 => 151 | 46 => 153 | 232 => 156 | 233 => 157 | n => n, fun | 17 => 2 | 18 => 4 | 19 => 5 | n => n⟩
theorem lays45 : Go.Proofs.LaysM.n173 Tryd.prog lays45_ren := {
 mixed := by kernel_rfl,
 f129 := Tryd.func104.trans (congrArg some (by kernel_rfl)),
 f173 := Tryd.func45.trans (congrArg some (by kernel_rfl)),
 f246 := Tryd.func62.trans (congrArg some (by kernel_rfl)),
 f283 := Tryd.func85.trans (congrArg some (by kernel_rfl)),
 f284 := Tryd.func86.trans (congrArg some (by kernel_rfl)),
 f285 := Tryd.func87.trans (congrArg some (by kernel_rfl)),
 f286 := Tryd.func88.trans (congrArg some (by kernel_rfl)),
 f317 := Tryd.func103.trans (congrArg some (by kernel_rfl)),
 f318 := Tryd.func105.trans (congrArg some (by kernel_rfl)),
 f319 := Tryd.func106.trans (congrArg some (by kernel_rfl)),
 f320 := Tryd.func107.trans (congrArg some (by kernel_rfl)),
 f337 := Tryd.func108.trans (congrArg some (by kernel_rfl)),
 f338 := Tryd.func109.trans (congrArg some (by kernel_rfl)),
 t0 := Tryd.underlying0,
 a0 := Tryd.isAgg0,
 z0 := Tryd.sizeOf0,
 v0 := Tryd.zeroValue0,
 t2 := Tryd.underlying2,
 a2 := Tryd.isAgg2,
 z2 := Tryd.sizeOf2,
 v2 := Tryd.zeroValue2,
 t3 := Tryd.underlying3,
 a3 := Tryd.isAgg3,
 z3 := Tryd.sizeOf3,
 v3 := Tryd.zeroValue3,
 t4 := Tryd.underlying4,
 a4 := Tryd.isAgg4,
 z4 := Tryd.sizeOf4,
 v4 := Tryd.zeroValue4,
 t5 := Tryd.underlying5,
 a5 := Tryd.isAgg5,
 z5 := Tryd.sizeOf5,
 v5 := Tryd.zeroValue5,
 t9 := Tryd.underlying9,
 a9 := Tryd.isAgg9,
 z9 := Tryd.sizeOf9,
 v9 := Tryd.zeroValue9,
 t20 := Tryd.underlying20,
 a20 := Tryd.isAgg20,
 z20 := Tryd.sizeOf20,
 v20 := Tryd.zeroValue20,
 t37 := Tryd.underlying81,
 a37 := Tryd.isAgg81,
 z37 := Tryd.sizeOf81,
 v37 := Tryd.zeroValue81,
 t46 := Tryd.underlying153,
 a46 := Tryd.isAgg153,
 z46 := Tryd.sizeOf153,
 v46 := Tryd.zeroValue153,
 t51 := Tryd.underlying150,
 a51 := Tryd.isAgg150,
 z51 := Tryd.sizeOf150,
 v51 := Tryd.zeroValue150,
 t53 := Tryd.underlying129,
 a53 := Tryd.isAgg129,
 z53 := Tryd.sizeOf129,
 v53 := Tryd.zeroValue129,
 t171 := Tryd.underlying128,
 a171 := Tryd.isAgg128,
 z171 := Tryd.sizeOf128,
 v171 := Tryd.zeroValue128,
 t173 := Tryd.underlying132,
 a173 := Tryd.isAgg132,
 z173 := Tryd.sizeOf132,
 v173 := Tryd.zeroValue132,
 t212 := Tryd.underlying149,
 a212 := Tryd.isAgg149,
 z212 := Tryd.sizeOf149,
 v212 := Tryd.zeroValue149,
 t213 := Tryd.underlying151,
 a213 := Tryd.isAgg151,
 z213 := Tryd.sizeOf151,
 t232 := Tryd.underlying156,
 a232 := Tryd.isAgg156,
 z232 := Tryd.sizeOf156,
 v232 := Tryd.zeroValue156,
 t233 := Tryd.underlying157,
 a233 := Tryd.isAgg157,
 z233 := Tryd.sizeOf157,
 v233 := Tryd.zeroValue157,
 g17 := by kernel_rfl,
 g18 := by kernel_rfl,
 g19 := by kernel_rfl,
 i0 := by kernel_rfl,
 i2 := by kernel_rfl,
 i3 := by kernel_rfl,
 i4 := by kernel_rfl,
 i5 := by kernel_rfl,
 i9 := by kernel_rfl,
 i20 := by kernel_rfl,
 i37 := by kernel_rfl,
 i46 := by kernel_rfl,
 i51 := by kernel_rfl,
 i53 := by kernel_rfl,
 i171 := by kernel_rfl,
 i173 := by kernel_rfl,
 i212 := by kernel_rfl,
 i232 := by kernel_rfl,
 i233 := by kernel_rfl,
 m17 := by kernel_rfl,
 m18 := by kernel_rfl,
 m19 := by kernel_rfl }

open Classical in
/-- strconv.FormatInt at base 10 -/
noncomputable def F_strconv_FormatInt (a0 : Int) (a1 : Int) : Option ByteArray := if a1 = 10 ∧ -9223372036854775808 ≤ a0 ∧ a0 ≤ 9223372036854775807 then some ⟨(Lib.itoa a0).toArray⟩ else none
theorem run_strconv_FormatInt (a0 a1 : Int) (r : ByteArray) (h : F_strconv_FormatInt a0 a1 = some r) : Fun Tryd.prog 45 [.c (.v (.int .i64 a0)), .c (.v (.int .i64 a1))] [] (.c (.v (.string r))) [] true := by
 unfold F_strconv_FormatInt at h
 split at h
 ·rename_i h1
  obtain ⟨rfl, h2, h3⟩ := h1
  injection h with h
  subst h
  refine Fun.pureB Tryd.func45 (by kernel_rfl) (by kernel_rfl) [.int .i64 a0, .int .i64 10] (fun w I hg => (Any.strconv_FormatInt_10 lays45 a0 h2 h3 w ?_).mono fun e w' h => ⟨h.1, ?_⟩)
  ·exact hg.var (x := (2, Lib.pow10Tab.map fun z => Value.int .u64 z)) (by unfold glob; simp) (by kernel_rfl)
  ·obtain ⟨_, k, os, rfl⟩ := h
   refine ⟨rfl, rfl, rfl, ?_, fun b hb => ?_⟩
   ·show w.heap.size ≤ (w.heap ++ os).size
    rw [Array.size_append]; omega
   ·show (w.heap ++ os)[b]? = w.heap[b]?
    exact Array.getElem?_append_left hb
 ·cases h
/-- impl.decimal -/
noncomputable def F_impl_decimal (a0 : Int) : Option (ByteArray) :=
 (F_strconv_FormatInt a0 10).bind fun y1 =>
 some y1
set_option maxHeartbeats 4000000 in
theorem run_impl_decimal (a0 : Int) (r : ByteArray) (h : F_impl_decimal a0 = some r) : Fun Tryd.prog 33 [.c (.v (.int .i64 a0))] [] (.c (.v (.string r))) [] true := by
 refine ow [] Tryd.func33 Tryd.ntmps33 ?_; unfold F_impl_decimal at h; have hf_strconv_FormatInt := @run_strconv_FormatInt; generalize hLEN : @len = LEN, hGD : @gd = GD, hA : std = A, hP : Tryd.prog = P at *; cbv; revert h; refine rk0 (hf_strconv_FormatInt _ _) fun y1 h => ?_; cbv; exact df

def lays34_ren : Go.Shelf.Ren := ⟨fun | 156 => 34 | 165 => 46 | 166 => 47 | 169 => 48 | 240 => 63 | 241 => 64 | 276 => 89 | 277 => 90 | n => n, fun | 31 => 47 | 9 => 9 | 3 => 3 | 4 => 4 | 0 => 0 | 20 => 20 | 72 => 83 | 76 => 87 | 70 => 80 | 37 => 81 | 75 => 86 | 127 => 101 | 164 => 134 | 5 => 5 | 80 => 89 | n => n, fun | n => n⟩
theorem lays34 : Go.Proofs.Lays.n156 Tryd.prog lays34_ren := {
 mixed := by kernel_rfl,
 f156 := Tryd.func34.trans (congrArg some (by kernel_rfl)),
 f165 := Tryd.func46.trans (congrArg some (by kernel_rfl)),
 f166 := Tryd.func47.trans (congrArg some (by kernel_rfl)),
 f169 := Tryd.func48.trans (congrArg some (by kernel_rfl)),
 f240 := Tryd.func63.trans (congrArg some (by kernel_rfl)),
 f241 := Tryd.func64.trans (congrArg some (by kernel_rfl)),
 f276 := Tryd.func89.trans (congrArg some (by kernel_rfl)),
 f277 := Tryd.func90.trans (congrArg some (by kernel_rfl)),
 t0 := Tryd.underlying0,
 a0 := Tryd.isAgg0,
 z0 := Tryd.sizeOf0,
 v0 := Tryd.zeroValue0,
 t3 := Tryd.underlying3,
 a3 := Tryd.isAgg3,
 z3 := Tryd.sizeOf3,
 v3 := Tryd.zeroValue3,
 t4 := Tryd.underlying4,
 a4 := Tryd.isAgg4,
 z4 := Tryd.sizeOf4,
 v4 := Tryd.zeroValue4,
 t9 := Tryd.underlying9,
 a9 := Tryd.isAgg9,
 z9 := Tryd.sizeOf9,
 v9 := Tryd.zeroValue9,
 t20 := Tryd.underlying20,
 a20 := Tryd.isAgg20,
 z20 := Tryd.sizeOf20,
 v20 := Tryd.zeroValue20,
 t31 := Tryd.underlying47,
 a31 := Tryd.isAgg47,
 z31 := Tryd.sizeOf47,
 v31 := Tryd.zeroValue47,
 t37 := Tryd.underlying81,
 a37 := Tryd.isAgg81,
 z37 := Tryd.sizeOf81,
 v37 := Tryd.zeroValue81,
 t70 := Tryd.underlying80,
 a70 := Tryd.isAgg80,
 z70 := Tryd.sizeOf80,
 v70 := Tryd.zeroValue80,
 t72 := Tryd.underlying83,
 a72 := Tryd.isAgg83,
 z72 := Tryd.sizeOf83,
 v72 := Tryd.zeroValue83,
 t75 := Tryd.underlying86,
 a75 := Tryd.isAgg86,
 z75 := Tryd.sizeOf86,
 v75 := Tryd.zeroValue86,
 t76 := Tryd.underlying87,
 a76 := Tryd.isAgg87,
 z76 := Tryd.sizeOf87,
 v76 := Tryd.zeroValue87,
 t127 := Tryd.underlying101,
 a127 := Tryd.isAgg101,
 z127 := Tryd.sizeOf101,
 v127 := Tryd.zeroValue101,
 t164 := Tryd.underlying134,
 a164 := Tryd.isAgg134,
 z164 := Tryd.sizeOf134,
 v164 := Tryd.zeroValue134 }

theorem extra34 : Builder.Extra Tryd.prog lays34_ren := { sizeBuilder := (by kernel_rfl), liesBuilder := (by kernel_rfl), t5 := Tryd.underlying5, a5 := Tryd.isAgg5, z5 := Tryd.sizeOf5, v5 := Tryd.zeroValue5, infoByte := (by kernel_rfl), cellsByte := (by kernel_rfl), sizeByte := (by kernel_rfl), neB5 := (by decide) }
open Classical in
/-- strings.Join -/
noncomputable def F_strings_Join (a0 : List ByteArray) (a1 : ByteArray) : Option ByteArray := if a0.length ≤ 1000 ∧ (Lib.join (a0.map fun s => s.data.toList) a1.data.toList).length ≤ 1000000 then some ⟨(Lib.join (a0.map fun s => s.data.toList) a1.data.toList).toArray⟩ else none
theorem run_strings_Join (a0 : List ByteArray) (a1 : ByteArray) (r : ByteArray) (h : F_strings_Join a0 a1 = some r) : Fun Tryd.prog 34 [.c (.bs (len a0) 1 (row gd (encS) a0)), .c (.v (.string a1))] [] (.c (.v (.string r))) [] true := by
 unfold F_strings_Join at h
 split at h
 ·rename_i h1
  injection h with h
  subst h
  refine Fun.rowB Tryd.func34 (by kernel_rfl) (by kernel_rfl) (a0.map Value.string) (by rw [List.length_map]; rfl) (fun i hi => ?_) [.string a1] fun w a cap hcap hc => ?_
  ·have hi' : i < a0.length := hi
   show AC.v (.string (gd a0 i)) = _
   rw [List.getD_eq_getElem?_getD, List.getElem?_map, List.getElem?_eq_getElem hi']
   show AC.v (.string (a0.getD i default)) = _
   rw [List.getD_eq_getElem?_getD, List.getElem?_eq_getElem hi']
   rfl
  ·by_cases hn : 0 < len a0
   ·obtain ⟨b, off, rfl, hb, hcell⟩ := hc hn
    refine Any.strings_Join lays34 extra34 b off cap a0 a1 w (fun j x hj => ?_) hb ?_ hcap ?_
    ·have hj' : j < a0.length := by
      rcases Nat.lt_or_ge j a0.length with h | h
      ·exact h
      ·rw [List.getElem?_eq_none h] at hj; cases hj
     rw [hcell j hj', List.getD_eq_getElem?_getD, List.getElem?_map, hj]
     rfl
    ·have := h1.1; omega
    ·have := h1.2; omega
   ·have e : a0 = [] := List.length_eq_zero_iff.1 (by have : ¬ 0 < a0.length := hn; omega)
    subst e
    exact (Any.strings_Join_none lays34 extra34 a cap a1 w).mono fun e w' h => ⟨h.1, h.2 ▸ RowKit.Below.refl _ _⟩
 ·cases h

noncomputable def L_impl_join_mob_x3 (a1 : List Int) : (Int × (List ByteArray)) → Option ((Int × (List ByteArray)) ⊕ (((List ByteArray)))) := fun x3 =>
 letO x3.1 fun v1 =>
 letO x3.2 fun v2 =>
 br (std.lt v1 (std.ofN (len a1)))
 (req (std.inR v1 (len a1)) <|
 (F_impl_decimal (gd a1 (std.toN v1))).bind fun y16 =>
 letO ([y16] : List ByteArray) fun l18 =>
 req (std.room (std.nadd (len v2) (len l18)) 16) <|
 letO (v2 ++ l18) fun l20 =>
 some (.inl (std.add .i64 v1 1, l20)))
 (some (.inr v2))
/-- impl.join -/
noncomputable def F_impl_join_mob (a0 : List ByteArray) (a1 : List Int) : Option (ByteArray) :=
 (whileP (σ := Int × (List ByteArray)) (ρ := ((List ByteArray))) (L_impl_join_mob_x3 a1) (0, a0)).bind fun y4 =>
 letO y4 fun y4k0 =>
 letO y4k0 fun w24 =>
 (F_strings_Join w24 (ByteArray.mk #[32])).bind fun y25 =>
 some y25
set_option maxHeartbeats 4000000 in
theorem run_impl_join_mob (a0 : List ByteArray) (a1 : List Int) (r : ByteArray) (h : F_impl_join_mob a0 a1 = some r) : Fun Tryd.prog 17 [.c (.os 5 0 (len a0)), .c (.bs (len a1) 1 (row gd (encI .i64) a1))] [(5, .arr .rw [] (len a0) 1 (row gd (encS) a0))] (.c (.v (.string r))) [] true := by
 refine ow [] Tryd.func17 Tryd.ntmps17 ?_ (hw := ⟨fun i _ j _ k hk => (noref (plain_nil (rfl)) hk).elim, trivial⟩); unfold F_impl_join_mob at h; unfold L_impl_join_mob_x3 at h; have hf_impl_decimal := @run_impl_decimal; have hf_strings_Join := @run_strings_Join; generalize hLEN : @len = LEN, hGD : @gd = GD, hA : std = A, hP : Tryd.prog = P at *; cbv
 revert h; refine ln (.exit 0) (fun x => (sparse 21 [(0, .c (.os 1088 0 (LEN x.2))), (7, .c (.bs (LEN a1) 1 (row GD (encI .i64) a1))), (8, .c (.v (.int .i64 (A.ofN (LEN a1))))), (9, .c (.v (.int .i64 x.1)))] [(1088, .arr .rw [] (LEN x.2) 1 (row GD (encS) x.2))])) (fun w => (sparse 21 [(0, .c (.os 1088 0 (LEN w)))] [(1088, .arr .rw [] (LEN w) 1 (row GD (encS) w))])) ?_ ?_ ?_
 ·show St.le _ _; refine St.le_trans (le_ren 5 1088 (by decide) rfl) ?_; exact zb
 ·rintro ⟨v1, v2⟩ z h K hK hY; replace h := oz (oz h); dsimp only at h; cbv; revert h; refine fk ?_ ?_ <;> intro h <;> cbv
  ·revert h; refine ra fun c15 h => ?_; revert h; refine rk0 (hf_impl_decimal _) fun y16 h => ?_; cbv; revert h; refine rl fun l18 hl18 h => ?_; have e19 : 1 = LEN l18 := by subst hl18 hLEN; rfl
   refine ⟨_, (co e19), _, row GD (encS) l18, e19, wkOf ?_, ?_⟩
   ·intro i hi j hj; rw [← e19] at hi; subst hl18; subst hGD; obtain rfl : i = 0 := (by omega); all_goals obtain rfl : j = 0 := by omega
    all_goals rfl
   cbv; revert h; refine rq fun c22 => rl fun l20 hl20 h => ?_; have e21 := nl hA hLEN hl20; refine ⟨c22, _, (co e21), _, row GD (encS) l20, e21, wkOf ?_, ?_⟩
   ·subst hGD hLEN hA; exact app_os (off := 0) (fun _ _ => rfl) hl20 (Nat.le_refl _)
   cbv; exact dm
  exact dx
 intro w24 h s q12; replace h := oz (oz h); cbv; refine ⟨_, q12, ?_⟩; cbv; revert h; refine rk [] [] (hf_strings_Join _ _) (fun _ => zg (les_cons (give_os (fun _ _ => rfl) rfl rfl rfl) (les_cons (lR _) (les_nil)))) fun y25 h => ?_; cbv; exact df

/-- impl.FormatShape -/
noncomputable def F_impl_FormatShape (a0 : TShape) : Option (ByteArray) :=
 (F_impl_validShape (TShape.mk a0.fLayer a0.fBox)).bind fun y1 =>
 br (!(y1))
 (some (ByteArray.mk #[]))
 ((F_impl_LayerName a0.fLayer).bind fun y3 =>
 letO ([(ByteArray.mk #[114, 101, 99, 116]), y3] : List ByteArray) fun l5 =>
 letO ([a0.fBox.fX0, a0.fBox.fY0, a0.fBox.fX1, a0.fBox.fY1] : List Int) fun l7 =>
 (F_impl_join_mob l5 l7).bind fun y9 =>
 some y9)
set_option maxHeartbeats 4000000 in
theorem run_impl_FormatShape (a0 : TShape) (r : ByteArray) (h : F_impl_FormatShape a0 = some r) : Fun Tryd.prog 7 [.agg [.v (.int .i64 a0.fLayer), .v (.int .i64 a0.fBox.fX0), .v (.int .i64 a0.fBox.fY0), .v (.int .i64 a0.fBox.fX1), .v (.int .i64 a0.fBox.fY1)]] [] (.c (.v (.string r))) [] true := by
 refine ow [] Tryd.func7 Tryd.ntmps7 ?_; unfold F_impl_FormatShape at h; have hf_impl_LayerName := @run_impl_LayerName; have hf_impl_join_mob := @run_impl_join_mob; have hf_impl_validShape := @run_impl_validShape; generalize hLEN : @len = LEN, hGD : @gd = GD, hA : std = A, hP : Tryd.prog = P at *; cbv; revert h; refine rk0 (hf_impl_validShape _) fun y1 h => ?_; cbv
 revert h; refine fk ?_ ?_ <;> intro h <;> cbv
 ·exact df
 revert h; refine rk0 (hf_impl_LayerName _) fun y3 h => ?_; cbv; revert h; refine rl fun l5 hl5 h => ?_; have e6 : 2 = LEN l5 := by subst hl5 hLEN; rfl
 refine ⟨_, (co e6), _, row GD (encS) l5, e6, wkOf ?_, ?_⟩
 ·intro i hi j hj; rw [← e6] at hi; subst hl5; subst hGD; obtain rfl | rfl : i = 0 ∨ i = 1 := (by omega); all_goals obtain rfl : j = 0 := by omega
  all_goals rfl
 cbv; revert h; refine rl fun l7 hl7 h => ?_; have e8 : 4 = LEN l7 := by subst hl7 hLEN; rfl
 refine ⟨_, (co e8), _, row GD (encI .i64) l7, e8, wkOf ?_, ?_⟩
 ·intro i hi j hj; rw [← e8] at hi; subst hl7; subst hGD; obtain rfl | rfl | rfl | rfl : i = 0 ∨ i = 1 ∨ i = 2 ∨ i = 3 := (by omega); all_goals obtain rfl : j = 0 := by omega
  all_goals rfl
 cbv; revert h; refine rk [(5, 576)] [] (hf_impl_join_mob _ _) (fun _ => zg (les_cons (lR _) (les_cons (give_os (fun _ _ => rfl) rfl rfl rfl) (les_nil)))) fun y9 h => ?_; cbv; exact df

/-- laws.FnExactFormatShape -/
noncomputable def F_laws_FnExactFormatShape (a0 : TShape) : Option (Bool) :=
 (F_laws_toShape (TShape.mk a0.fLayer a0.fBox)).bind fun y1 =>
 (F_spec_FormatShape y1).bind fun y3 =>
 (F_laws_toShape (TShape.mk a0.fLayer a0.fBox)).bind fun y5 =>
 (F_impl_FormatShape y5).bind fun y7 =>
 br (std.not (std.seq y7 y3))
 (some false)
 (some true)
set_option maxHeartbeats 4000000 in
theorem run_laws_FnExactFormatShape (a0 : TShape) (r : Bool) (h : F_laws_FnExactFormatShape a0 = some r) : Fun Tryd.prog 3 [.agg [.v (.int .i64 a0.fLayer), .v (.int .i64 a0.fBox.fX0), .v (.int .i64 a0.fBox.fY0), .v (.int .i64 a0.fBox.fX1), .v (.int .i64 a0.fBox.fY1)]] [] (.c (.v (.bool r))) [] true := by
 refine ow [] Tryd.func3 Tryd.ntmps3 ?_; unfold F_laws_FnExactFormatShape at h; have hf_impl_FormatShape := @run_impl_FormatShape; have hf_laws_toShape := @run_laws_toShape; have hf_spec_FormatShape := @run_spec_FormatShape; generalize hLEN : @len = LEN, hGD : @gd = GD, hA : std = A, hP : Tryd.prog = P at *; cbv; revert h; refine rk0 (hf_laws_toShape _) fun y1 h => ?_; cbv
 revert h; refine rk0 (hf_spec_FormatShape _) fun y3 h => ?_; cbv; revert h; refine rk0 (hf_laws_toShape _) fun y5 h => ?_; cbv; revert h; refine rk0 (hf_impl_FormatShape _) fun y7 h => ?_; cbv; revert h; refine fk ?_ ?_ <;> intro h <;> cbv
 ·exact df
 exact df
end Go.Proofs.YtfhkecbopidgiaaDoor.AM
