/-
  What the functions that the law reaches compute, and that they do. No condition.
-/
import Derived.Test.YtfoefnkbiofejaaGreatArSX
namespace Go.Proofs.YtfoefnkbiofejaaGreat.AM
noncomputable section
open Go Go.Proofs Go.RowKit Go.Proofs.Tryz
set_option linter.unusedVariables false
set_option linter.unusedSimpArgs false
set_option maxRecDepth 100000

set_option maxHeartbeats 40000000
def Lq33_x3 (a0 : ByteArray) : (Int × Int) -> Option ((Int × Int) ⊕ ((Int))) := fun x3 =>
 letO x3.1 fun v1 =>
 letO x3.2 fun v2 =>
 br (std.lt v2 (std.ofN (std.slen a0)))
 (req (std.inR v2 (std.slen a0)) <|
 req (std.nz 65521) <|
 some (.inl (std.rem (std.add .i64 (std.add .i64 (std.mul .i64 31 v1) (std.conv .i64 (std.sat a0 (std.toN v2)))) 1) 65521, std.add .i64 v2 1)))
 (some (.inr v1))
/-- impl.Checksum16 -/
def Fq33 (a0 : ByteArray) : Option (Int) :=
 (whileP (σ := Int × Int) (ρ := (Int)) (Lq33_x3 a0) (1, 0)).bind fun y4 =>
 letO y4 fun y4k0 =>
 letO y4k0 fun w18 =>
 some w18
theorem runq33 (a0 : ByteArray) (r : Int) (h : Fq33 a0 = some r) : Fun prog 47 [.c (ws a0)] [] (.c (wi r)) [] true := by
 refine ow [] func47 ntmps47 ?_; unfold Fq33 at h; unfold Lq33_x3 at h; generalize hU : @len = U_, hG_ : @gd = G_, hA : std = A, hP : prog = P at *; cbv
 revert h; refine ln (.exit 0) (fun x => (sp 21 [(0, .c (ws a0)), (3, .c (wi x.1)), (4, .c (wi x.2))] [])) (fun w => (sp 21 [(3, .c (wi w))] [])) zb ?_ ?_
 ·rintro ⟨v1, v2⟩ z h K hK hY; replace h := oz (oz h); dsimp only at h; cbv; revert h; refine fk ?_ ?_ <;> intro h <;> cbv
  ·revert h; refine ra fun c15 h => ?_; revert h; refine ra fun c16 h => ?_; exact dm
  exact dx
 intro w18 h s q12; replace h := oz (oz h); cbv; refine ⟨_, q12, ?_⟩; cbv; exact df

def Lq28_x5 (a0 : List TE) : (ByteArray × Int) -> Option ((ByteArray × Int) ⊕ ((ByteArray))) := fun x5 =>
 letO x5.1 fun v3 =>
 letO x5.2 fun v4 =>
 br (std.lt v4 (std.ofN (len a0)))
 (req (std.inR v4 (len a0)) <|
 (Fq90 (gd a0 (std.toN v4))).bind fun y18 =>
 req (std.room (std.nadd (std.slen v3) (std.slen y18)) 1) <|
 some (.inl (std.scat v3 y18, std.add .i64 v4 1)))
 (some (.inr v3))
/-- impl.JournalRecord -/
def Fq28 (a0 : List TE) : Option (ByteArray) :=
 (Fq31 a0).bind fun y1 =>
 br (!(y1))
 (some (ByteArray.mk #[]))
 ((whileP (σ := ByteArray × Int) (ρ := (ByteArray)) (Lq28_x5 a0) ((ByteArray.mk #[]), 0)).bind fun y6 =>
 letO y6 fun y6k0 =>
 letO y6k0 fun w22 =>
 letO ([84, std.conv .u8 (std.ofN (len a0))] : List Int) fun l23 =>
 (Fq40 l23 (std.ofN (std.slen w22))).bind fun y25 =>
 req (std.room (std.nadd (len y25) (std.slen w22)) 1) <|
 letO (y25 ++ strL w22) fun l27 =>
 (Fq33 (std.ofBytes (len l27) (fun i => gd l27 (0 + i)))).bind fun y30 =>
 (Fq40 l27 y30).bind fun y32 =>
 some (std.ofBytes (len y32) (fun i => gd y32 (0 + i))))
theorem runq28 (a0 : List TE) (r : ByteArray) (h : Fq28 a0 = some r) : Fun prog 22 [.c (.bs (len a0) 21 (row gd (eE) a0))] [] (.c (ws r)) [] true := by
 refine ow [] func22 ntmps22 ?_; unfold Fq28 at h; unfold Lq28_x5 at h; have hfq33 := @runq33; have hfq90 := @runq90; have hfq31 := @runq31; have hfq40 := @runq40; generalize hU : @len = U_, hG_ : @gd = G_, hA : std = A, hP : prog = P at *; cbv
 revert h; refine rk0 (hfq31 _) fun y1 h => ?_; cbv; revert h; refine fk ?_ ?_ <;> intro h <;> cbv
 ·exact df
 revert h; refine ln (.exit 0) (fun x => (sp 37 [(0, .c (.bs (U_ a0) 21 (row G_ (eE) a0))), (3, .c (ws x.1)), (10, .c (.bs (U_ a0) 21 (row G_ (eE) a0))), (11, .c (wi (A.ofN (U_ a0)))), (12, .c (wi x.2))] [])) (fun w => (sp 37 [(0, .c (.bs (U_ a0) 21 (row G_ (eE) a0))), (3, .c (ws w))] [])) zb ?_ ?_
 ·rintro ⟨v3, v4⟩ z h K hK hY; replace h := oz (oz h); dsimp only at h; cbv; revert h; refine fk ?_ ?_ <;> intro h <;> cbv
  ·revert h; refine ra fun c17 h => ?_; revert h; refine rk0 (hfq90 _) fun y18 h => ?_; cbv; revert h; refine ra fun c20 h => ?_; exact dm
  exact dx
 intro w22 h s q14; replace h := oz (oz h); cbv; refine ⟨_, q14, ?_⟩; cbv; revert h; refine rl fun l23 hl23 h => ?_; have e24 : 2 = U_ l23 := by subst hl23 hU; rfl
 refine ⟨_, (co e24), _, row G_ (encI .u8) l23, e24, wO ?_, ?_⟩
 ·intro i hi j hj; rw [<- e24] at hi; subst hl23; subst hG_; obtain rfl | rfl : i = 0 \/ i = 1 := (by omega); all_goals obtain rfl : j = 0 := by omega
  all_goals rfl
 cbv; revert h; refine rk [(5, 1536)] [(64000, 1728)] (hfq40 _ _) (fun _ => zf) fun y25 h => ⟨_, rfl, _, _, rfl, fun _ _ _ _ => .refl _, ?_⟩
 cbv; revert h; refine rq fun c29 => rl fun l27 hl27 h => ?_; have e28 : A.nadd (U_ y25) (A.slen w22) = U_ l27 := by subst hl27 hU hA; exact (strapp_len _ _).symm
 refine ⟨c29, _, (co e28), _, row G_ (encI .u8) l27, e28, wO ?_, ?_⟩
 ·subst hG_ hU hA; exact app_str hl27 (Nat.le_refl _)
 cbv; refine ⟨fun _ _ => rfl, ?_⟩; revert h; refine rk0 (hfq33 _) fun y30 h => ?_; cbv; revert h; refine rk [(5, 1728)] [(64000, 2240)] (hfq40 _ _) (fun _ => zf) fun y32 h => ⟨_, rfl, _, _, rfl, fun _ _ _ _ => .refl _, ?_⟩
 cbv; refine ⟨fun _ _ => rfl, ?_⟩; exact df

def Lq8_x15  : (Int × ByteArray × Bool × (List TE)) -> Option ((Int × ByteArray × Bool × (List TE)) ⊕ ((ByteArray × Bool × (List TE)))) := fun x15 =>
 letO x15.1 fun v11 =>
 letO x15.2.1 fun v12 =>
 letO x15.2.2.1 fun v13 =>
 letO x15.2.2.2 fun v14 =>
 ((
 br (std.lt 0 v11)
 (some (!(v13)))
 (some false)
 ) : Option (Bool)).bind fun y27 =>
 letO y27 fun w33 =>
 br w33
 ((Fq69 (TbyteReader.mk v12 v13)).bind fun y35 =>
 letO ([y35.1] : List TE) fun l37 =>
 req (std.room (std.nadd (len v14) (len l37)) 184) <|
 letO (v14 ++ l37) fun l39 =>
 some (.inl (std.sub .i64 v11 1, y35.2.gs, y35.2.gbad, l39)))
 (some (.inr (v12, v13, v14)))
/-- impl.firstRecord -/
def Fq8 (a0 : ByteArray) : Option ((List TE) × Int) :=
 (Fq2 (TbyteReader.mk a0 false)).bind fun y1 =>
 (Fq2 y1.2).bind fun y3 =>
 (Fq25 y3.2).bind fun y5 =>
 (Fq3 y3.1 1 8).bind fun y7 =>
 br (!(y7))
 (some (([] : List TE), (0 : Int)))
 (letO ([] : List TE) fun l9 =>
 (whileP (σ := Int × ByteArray × Bool × (List TE)) (ρ := (ByteArray × Bool × (List TE))) Lq8_x15 (y3.1, y5.2.gs, y5.2.gbad, l9)).bind fun y16 =>
 letO y16 fun y16k0 =>
 letO y16k0.1 fun w43 =>
 letO y16k0.2.1 fun w44 =>
 letO y16k0.2.2 fun w45 =>
 (Fq25 (TbyteReader.mk w43 w44)).bind fun y46 =>
 ((
 br y46.2.gbad
 (some true)
 ((Fq28 w45).bind fun y55 =>
 req (std.upTo (std.sub .i64 (std.ofN (std.slen a0)) (std.ofN (std.slen y46.2.gs))) (std.slen a0)) <|
 some (std.not (std.seq y55 (std.ssub a0 0 (std.toN (std.sub .i64 (std.ofN (std.slen a0)) (std.ofN (std.slen y46.2.gs))))))))
 ) : Option (Bool)).bind fun y48 =>
 letO y48 fun w54 =>
 br w54
 (some (([] : List TE), (0 : Int)))
 (some (w45, std.sub .i64 (std.ofN (std.slen a0)) (std.ofN (std.slen y46.2.gs)))))
theorem runq8 (a0 : ByteArray) (r : (List TE) × Int) (h : Fq8 a0 = some r) : Fun prog 42 [.c (ws a0)] [] (.tup [.c (.os 64000 0 (len r.1)), .c (wi r.2)]) [(64000, .arr .rw [] (len r.1) 21 (row gd (eE) r.1))] true := by
 refine ow [8, 13] func42 ntmps42 ?_ (hv := (fun _ => ⟨(by simp [AV.flat, AV.flat1, AC.flat]), ⟨fun i _ j _ => val_flat (vl_encEdit _ _), tv⟩⟩)); unfold Fq8 at h; unfold Lq8_x15 at h; have hfq28 := @runq28; have hfq69 := @runq69
 have hfq2 := @runq2; have hfq25 := @runq25; have hfq3 := @runq3; generalize hU : @len = U_, hG_ : @gd = G_, hA : std = A, hP : prog = P at *; cbv; revert h; refine rk [(5, 640)] [(5, 640)] (hfq2 _) (fun _ => yf) fun y1 h => ?_; cbv
 revert h; refine rk [(5, 640)] [(5, 640)] (hfq2 _) (fun _ => yf) fun y3 h => ?_; cbv; revert h; refine rk [(5, 640)] [(5, 640)] (hfq25 _) (fun _ => yf) fun y5 h => ?_; cbv; revert h; refine rk0 (hfq3 _ _ _) fun y7 h => ?_; cbv; revert h; refine fk ?_ ?_ <;> intro h <;> cbv
 ·injection h with h; subst h; refine ⟨(sp 61 [(2, .c (.os 64000 0 (U_ ([] : List TE)))), (3, .c (wi 0))] [(64000, .arr .rw [] (U_ ([] : List TE)) 21 (row G_ (eE) ([] : List TE)))]), ?_, ?_⟩
  ·refine St.le_trans (le_nilT 2 64000 21 (row G_ (eE) ([] : List TE)) (by decide) rfl) ?_; subst hU; exact zb
  ·subst hU; exact ⟨lR _, zo, rfl⟩
 revert h; refine rl fun l9 hl9 h => ?_; have e10 : 0 = U_ l9 := by subst hl9 hU; rfl
 refine ⟨_, (co e10), _, row G_ (eE) l9, e10, wO ?_, ?_⟩
 ·intro i hi j hj; rw [<- e10] at hi; subst hl9; subst hG_; omega
 cbv
 revert h; refine ln (.exit 0) (fun x => (sp 61 [(0, .c (ws a0)), (4, .c (.ptr 640 0)), (5, .c (wi x.1)), (6, .c (.os 1280 0 (U_ x.2.2.2)))] [(640, .var [ws x.2.1, .v (.bool x.2.2.1)]), (1280, .arr .rw [] (U_ x.2.2.2) 21 (row G_ (eE) x.2.2.2))])) (fun w => (sp 61 [(0, .c (ws a0)), (4, .c (.ptr 640 0)), (6, .c (.os 1280 0 (U_ w.2.2)))] [(640, .var [ws w.1, .v (.bool w.2.1)]), (1280, .arr .rw [] (U_ w.2.2) 21 (row G_ (eE) w.2.2))])) zb ?_ ?_
 ·rintro ⟨v11, v12, v13, v14⟩ z h K hK hY; replace h := oz (oz (oz (oz h))); dsimp only at h; cbv
  revert h; refine cu (fun y27 => (sp 61 [(0, .c (ws a0)), (4, .c (.ptr 640 0)), (5, .c (wi v11)), (6, .c (.os 1280 0 (U_ v14))), (29, .c (.v (.bool y27)))] [(640, .var [ws v12, .v (.bool v13)]), (1280, .arr .rw [] (U_ v14) 21 (row G_ (eE) v14))])) (fun y27 S hS h => rg) fun w33 => rz fun h => ?_; cbv; revert h; refine fk ?_ ?_ <;> intro h <;> cbv
  ·revert h; refine rk [(5, 640)] [(5, 640)] (hfq69 _) (fun _ => yf) fun y35 h => ?_; cbv; revert h; refine rl fun l37 hl37 h => ?_; have e38 : 1 = U_ l37 := by subst hl37 hU; rfl
   refine ⟨_, (co e38), _, row G_ (eE) l37, e38, wO ?_, ?_⟩
   ·intro i hi j hj; rw [<- e38] at hi; subst hl37; subst hG_
    obtain rfl : i = 0 := (by omega) <;> obtain rfl | rfl | rfl | rfl | rfl | rfl | rfl | rfl | rfl | rfl | rfl | rfl | rfl | rfl | rfl | rfl | rfl | rfl | rfl | rfl | rfl : j = 0 \/ j = 1 \/ j = 2 \/ j = 3 \/ j = 4 \/ j = 5 \/ j = 6 \/ j = 7 \/ j = 8 \/ j = 9 \/ j = 10 \/ j = 11 \/ j = 12 \/ j = 13 \/ j = 14 \/ j = 15 \/ j = 16 \/ j = 17 \/ j = 18 \/ j = 19 \/ j = 20 := (by omega)
    all_goals rfl
   cbv; revert h; refine rq fun c41 => rl fun l39 hl39 h => ?_; have e40 := nl hA hU hl39; refine ⟨c41, _, (co e40), _, row G_ (eE) l39, e40, wO ?_, ?_⟩
   ·subst hG_ hU hA; exact app_os (off := 0) (pl_encEdit) hl39 (Nat.le_refl _)
   cbv; exact dm
  exact dx
 rintro ⟨w43, w44, w45⟩ h s q24; replace h := oz (oz (oz (oz h))); dsimp only at h; cbv; refine ⟨_, q24, ?_⟩; cbv; revert h; refine rk [(5, 640)] [(5, 640)] (hfq25 _) (fun _ => yf) fun y46 h => ?_; cbv
 revert h; refine cu (fun y48 => (sp 61 [(6, .c (.os 1280 0 (U_ w45))), (7, .c (wi (A.sub .i64 (A.ofN (A.slen a0)) (A.ofN (A.slen y46.2.gs))))), (58, .c (.v (.bool y48)))] [(1280, .arr .rw [] (U_ w45) 21 (row G_ (eE) w45))])) ?_ fun w54 => rz fun h => ?_
 ·intro y48 S hS h; cbv; revert h; refine fk ?_ ?_ <;> intro h <;> cbv
  ·exact dn
  revert h; refine rk [] [] (hfq28 _) (fun _ => zg (lc_ (give_os (pl_encEdit) rfl rfl rfl) (ln_))) fun y55 h => ?_; cbv; revert h; refine ra fun c57 h => ?_; exact dn
 cbv; revert h; refine fk ?_ ?_ <;> intro h <;> cbv
 ·injection h with h; subst h; refine ⟨(sp 61 [(2, .c (.os 64000 0 (U_ ([] : List TE)))), (3, .c (wi 0))] [(64000, .arr .rw [] (U_ ([] : List TE)) 21 (row G_ (eE) ([] : List TE)))]), ?_, ?_⟩
  ·refine St.le_trans (le_nilT 2 64000 21 (row G_ (eE) ([] : List TE)) (by decide) rfl) ?_; subst hU; exact zb
  ·subst hU; exact ⟨lR _, zo, rfl⟩
 injection h with h; subst h; exact ⟨_, le_ren 1280 64000 (by decide) rfl, lR _, zo, rfl⟩

/-- impl.insertCode -/
def Fq71 (a0 : Int) (a1 : Int) (a2 : Int) : Option (Int) :=
 br (std.lt a1 a0)
 (some 2)
 (br (std.eq a1 a2)
 (some 3)
 (some 0))
theorem runq71 (a0 : Int) (a1 : Int) (a2 : Int) (r : Int) (h : Fq71 a0 a1 a2 = some r) : Fun prog 63 [.c (wi a0), .c (wi a1), .c (wi a2)] [] (.c (wi r)) [] true := by
 refine ow [] func63 ntmps63 ?_; unfold Fq71 at h; generalize hU : @len = U_, hG_ : @gd = G_, hA : std = A, hP : prog = P at *; cbv; revert h; refine fk ?_ ?_ <;> intro h <;> cbv
 ·exact df
 revert h; refine fk ?_ ?_ <;> intro h <;> cbv
 ·exact df
 exact df

/-- impl.deleteCode -/
def Fq74 (a0 : Int) (a1 : Int) : Option (Int) :=
 br (std.le a1 a0)
 (some 5)
 (some 0)
theorem runq74 (a0 : Int) (a1 : Int) (r : Int) (h : Fq74 a0 a1 = some r) : Fun prog 64 [.c (wi a0), .c (wi a1)] [] (.c (wi r)) [] true := by
 refine ow [] func64 ntmps64 ?_; unfold Fq74 at h; generalize hU : @len = U_, hG_ : @gd = G_, hA : std = A, hP : prog = P at *; cbv; revert h; refine fk ?_ ?_ <;> intro h <;> cbv
 ·exact df
 exact df

/-- impl.hasCell -/
def Fq77 (a0 : TL) (a1 : Int) : Option (Bool) :=
 ((
 (Fq6 a0).bind fun y8 =>
 br y8
 ((Fq3 a1 0 (std.sub .i64 (std.ofN (len a0.fC)) 1)).bind fun y10 =>
 some y10)
 (some false)
 ) : Option (Bool)).bind fun y1 =>
 letO y1 fun w7 =>
 some w7
theorem runq77 (a0 : TL) (a1 : Int) (r : Bool) (h : Fq77 a0 a1 = some r) : Fun prog 120 [.agg [.bs (len a0.fC) 4 (row gd (eC len gd) a0.fC)], .c (wi a1)] [] (.c (.v (.bool r))) [] true := by
 refine ow [1] func120 ntmps120 ?_; unfold Fq77 at h; have hfq6 := @runq6; have hfq3 := @runq3; generalize hU : @len = U_, hG_ : @gd = G_, hA : std = A, hP : prog = P at *; cbv; revert h; refine cu (fun y1 => (sp 15 [(4, .c (.v (.bool y1)))] [])) ?_ fun w7 => rz fun h => ?_
 ·intro y1 S hS h; cbv; revert h; refine rk0 (hfq6 _) fun y8 h => ?_; cbv; revert h; refine fk ?_ ?_ <;> intro h <;> cbv
  ·revert h; refine rk0 (hfq3 _ _ _) fun y10 h => ?_; cbv; exact dn
  exact dn
 cbv; exact df
set_option maxHeartbeats 40000000
/-- impl.UsersOf$1 -/
def Fq123 (a0 : TI) (a1 : Int) : Option (Bool) :=
 some (std.eq a0.fc a1)
theorem runq123 (a0 : TI) (a1 : Int) (r : Bool) (h : Fq123 a0 a1 = some r) : Fun prog 121 [.agg [wi a0.fc, wi a0.fp.fo, wi a0.fp.fX, wi a0.fp.fY, wi a0.fK, wi a0.fR, wi a0.fu, wi a0.fv], .c (.bp 1 (encI .i64 a1))] [] (.c (.v (.bool r))) [] true := by
 refine ow [] func121 ntmps121 ?_; unfold Fq123 at h; generalize hU : @len = U_, hG_ : @gd = G_, hA : std = A, hP : prog = P at *; cbv; exact df

def Lq51_x2 (a0 : List TI) (a1_0 : Int) : (Int) -> Option ((Int) ⊕ ((Int) ⊕ (Unit))) := fun x2 =>
 letO x2 fun v1 =>
 br (std.lt v1 (std.ofN (len a0)))
 (req (std.inR v1 (len a0)) <|
 (Fq123 (gd a0 (std.toN v1)) a1_0).bind fun y15 =>
 br y15
 (some (.inr (.inl v1)))
 (some (.inl (std.add .i64 v1 1))))
 (some (.inr (.inr ())))
/-- impl.Instance] -/
def Fq51 (a0 : List TI) (a1_0 : Int) : Option (Int) :=
  (whileP (σ := Int) (ρ := (Int) ⊕ (Unit)) (Lq51_x2 a0 a1_0) 0).bind fun y3 =>
  (match y3 with
 | .inl y3k0 => (
  letO y3k0 fun w19 =>
  some w19)
 | .inr y3m0 =>
  some (-1))
theorem runq51 (a0 : List TI) (a1_0 : Int) (r : Int) (h : Fq51 a0 a1_0 = some r) : Fun prog 147 [.c (.bs (len a0) 8 (row gd (eI) a0)), .c (.fn 121 1 fun j => ([.bp 1 (encI .i64 a1_0)] : List AC).getD j .junk)] [] (.c (wi r)) [] true := by
 refine ow [] func147 ntmps147 ?_; unfold Fq51 at h; unfold Lq51_x2 at h; have hfq123 := @runq123; generalize hU : @len = U_, hG_ : @gd = G_, hA : std = A, hP : prog = P at *; cbv
 revert h; refine lc (fun x => (sp 19 [(0, .c (.bs (U_ a0) 8 (row G_ (eI) a0))), (1, .c (.fn 121 1 fun j => ([.bp 1 (encI .i64 a1_0)] : List AC).getD j .junk)), (7, .c (wi (A.ofN (U_ a0)))), (8, .c (wi x))] [])) (fun y e s => (match y with | .inl w => e = .ret /\ s.le (sp 19 [(4, .c (wi w))] []) | .inr w0 => (fun (w : Unit) => e = .exit 0 /\ s.le (sp 19 [] [])) w0)) zb ?_ ?_
 ·intro v1 z h K hK hY; replace h := oz h; cbv; revert h; refine fk ?_ ?_ <;> intro h <;> cbv
  ·revert h; refine ra fun c14 h => ?_; revert h; refine rk [] [] (hfq123 _ _) (fun _ => zg (lc_ (lR _) (lc_ (le_bp (show 1 <= 1 from by decide) (by intro j hj; match j, hj with | 0, _ => exact rle_refl _ | (j_ + 1), h_ => omega)) (ln_)))) fun y15 h => ?_; cbv; revert h; refine fk ?_ ?_ <;> intro h <;> cbv
   ·exact dy
   exact dm
  exact dy
 intro y3 h e12 s13 q11 hne; rcases y3 with y3k0 | y3m0
 ·replace h := h; obtain ⟨rfl, q11⟩ := q11; revert h; refine rz fun h => ?_; cbv; injection h with h; subst h; exact ⟨_, q11, lR _, zo, rfl⟩
 ·obtain ⟨rfl, q11⟩ := q11; cbv; refine ⟨_, q11, ?_⟩; cbv; exact df

/-- impl.Instance] -/
def Fq103 (a0 : List TI) (a1_0 : Int) : Option (Bool) :=
 (Fq51 a0 a1_0).bind fun y1 =>
 some (std.le 0 y1)
theorem runq103 (a0 : List TI) (a1_0 : Int) (r : Bool) (h : Fq103 a0 a1_0 = some r) : Fun prog 93 [.c (.bs (len a0) 8 (row gd (eI) a0)), .c (.fn 121 1 fun j => ([.bp 1 (encI .i64 a1_0)] : List AC).getD j .junk)] [] (.c (.v (.bool r))) [] true := by
 refine ow [] func93 ntmps93 ?_; unfold Fq103 at h; have hfq51 := @runq51; generalize hU : @len = U_, hG_ : @gd = G_, hA : std = A, hP : prog = P at *; cbv
 revert h; refine rk [] [] (hfq51 _ _) (fun _ => zg (lc_ (lR _) (lc_ (le_fn (by intro j hj; match j, hj with | 0, _ => exact le_bp (show 1 <= 1 from by decide) (by intro j hj; match j, hj with | 0, _ => exact rle_refl _ | (j_ + 1), h_ => omega) | (j_ + 1), h_ => omega)) (ln_)))) fun y1 h => ?_
 cbv; exact df

def Lq14_x7 (a0 : TL) (a1 : Int) : (Int × (List Int)) -> Option ((Int × (List Int)) ⊕ (((List Int)))) := fun x7 =>
 letO x7.1 fun v5 =>
 letO x7.2 fun v6 =>
 br (std.lt v5 (std.ofN (len a0.fC)))
 (req (std.inR v5 (len a0.fC)) <|
 (Fq103 (gd a0.fC (std.toN v5)).fI a1).bind fun y20 =>
 ((
 br y20
 (letO ([v5] : List Int) fun l29 =>
 req (std.room (std.nadd (len v6) (len l29)) 8) <|
 letO (v6 ++ l29) fun l31 =>
 some l31)
 (some v6)
 ) : Option ((List Int))).bind fun y22 =>
 letO y22 fun w28 =>
 some (.inl (std.add .i64 v5 1, w28)))
 (some (.inr v6))
/-- impl.UsersOf -/
def Fq14 (a0 : TL) (a1 : Int) : Option (List Int) :=
 (Fq77 (TL.mk a0.fC) a1).bind fun y1 =>
 br (!(y1))
 (some ([] : List Int))
 (letO ([] : List Int) fun l3 =>
 (whileP (σ := Int × (List Int)) (ρ := ((List Int))) (Lq14_x7 a0 a1) (0, l3)).bind fun y8 =>
 letO y8 fun y8k0 =>
 letO y8k0 fun w36 =>
 some w36)
theorem runq14 (a0 : TL) (a1 : Int) (r : List Int) (h : Fq14 a0 a1 = some r) : Fun prog 65 [.agg [.bs (len a0.fC) 4 (row gd (eC len gd) a0.fC)], .c (wi a1)] [] (.c (.os 64000 0 (len r))) [(64000, .arr .rw [] (len r) 1 (row gd (encI .i64) r))] true := by
 refine ow [100024] func65 ntmps65 ?_ (hv := (fun _ => ⟨trivial, ⟨fun i _ j _ => val_flat (rfl), tv⟩⟩)); unfold Fq14 at h; unfold Lq14_x7 at h; have hfq77 := @runq77; have hfq103 := @runq103
 generalize hU : @len = U_, hG_ : @gd = G_, hA : std = A, hP : prog = P at *; cbv; revert h; refine rk0 (hfq77 _ _) fun y1 h => ?_; cbv; revert h; refine fk ?_ ?_ <;> intro h <;> cbv
 ·injection h with h; subst h; refine ⟨(sp 31 [(4, .c (.os 64000 0 (U_ ([] : List Int))))] [(64000, .arr .rw [] (U_ ([] : List Int)) 1 (row G_ (encI .i64) ([] : List Int)))]), ?_, ?_⟩
  ·refine St.le_trans (le_nilT 4 64000 1 (row G_ (encI .i64) ([] : List Int)) (by decide) rfl) ?_; subst hU; exact zb
  ·subst hU; exact ⟨lR _, zo, rfl⟩
 revert h; refine rl fun l3 hl3 h => ?_; have e4 : 0 = U_ l3 := by subst hl3 hU; rfl
 refine ⟨_, (co e4), _, row G_ (encI .i64) l3, e4, wO ?_, ?_⟩
 ·intro i hi j hj; rw [<- e4] at hi; subst hl3; subst hG_; omega
 cbv
 revert h; refine ln (.exit 0) (fun x => (sp 31 [(3, .c (.ptr 192 0)), (5, .c (.os 768 0 (U_ x.2))), (14, .c (.bs (U_ a0.fC) 4 (row G_ (eC U_ G_) a0.fC))), (15, .c (wi (A.ofN (U_ a0.fC)))), (16, .c (wi x.1))] [(192, .var [wi a1]), (768, .arr .rw [] (U_ x.2) 1 (row G_ (encI .i64) x.2))])) (fun w => (sp 31 [(5, .c (.os 768 0 (U_ w)))] [(768, .arr .rw [] (U_ w) 1 (row G_ (encI .i64) w))])) zb ?_ ?_
 ·rintro ⟨v5, v6⟩ z h K hK hY; replace h := oz (oz h); dsimp only at h; cbv; revert h; refine fk ?_ ?_ <;> intro h <;> cbv
  ·revert h; refine ra fun c19 h => ?_
   revert h; refine rk [] [] (hfq103 _ _) (fun _ => zg (lc_ (lR _) (lc_ (le_fn (by intro j hj; match j, hj with | 0, _ => exact le_bp (show 1 <= 1 from by decide) (by intro j hj; match j, hj with | 0, _ => exact rle_refl _ | (j_ + 1), h_ => omega) | (j_ + 1), h_ => omega)) (ln_)))) fun y20 h => ?_
   cbv; revert h; refine cu (fun y22 => some (sp 31 [(3, .c (.ptr 192 0)), (5, .c (.os 768 0 (U_ y22))), (14, .c (.bs (U_ a0.fC) 4 (row G_ (eC U_ G_) a0.fC))), (15, .c (wi (A.ofN (U_ a0.fC)))), (16, .c (wi v5))] [(192, .var [wi a1]), (768, .arr .rw [] (U_ y22) 1 (row G_ (encI .i64) y22))])) ?_ fun w28 => rz fun h => ?_
   ·intro y22 S hS h; cbv; revert h; refine fk ?_ ?_ <;> intro h <;> cbv
    ·revert h; refine rl fun l29 hl29 h => ?_; have e30 : 1 = U_ l29 := by subst hl29 hU; rfl
     refine ⟨_, (co e30), _, row G_ (encI .i64) l29, e30, wO ?_, ?_⟩
     ·intro i hi j hj; rw [<- e30] at hi; subst hl29; subst hG_; obtain rfl : i = 0 := (by omega); all_goals obtain rfl : j = 0 := by omega
      all_goals rfl
     cbv; revert h; refine rq fun c33 => rl fun l31 hl31 h => ?_; have e32 := nl hA hU hl31; refine ⟨c33, _, (co e32), _, row G_ (encI .i64) l31, e32, wO ?_, ?_⟩
     ·subst hG_ hU hA; exact app_os (off := 0) (fun _ _ => rfl) hl31 (Nat.le_refl _)
     cbv; exact dn
    exact dn
   cbv; exact dm
  exact dx
 intro w36 h s q16; replace h := oz (oz h); cbv; refine ⟨_, q16, ?_⟩; cbv; injection h with h; subst h; exact ⟨_, le_ren 768 64000 (by decide) rfl, lR _, zo, rfl⟩

/-- impl.editCode -/
def Fq114 (a0 : TL) (a1 : TE) : Option (Int) :=
  ((
  (Fq6 (TL.mk a0.fC)).bind fun y8 =>
  br (!(y8))
  (some true)
  ((Fq34 a1).bind fun y10 =>
  some (!(y10)))
  ) : Option (Bool)).bind fun y1 =>
  letO y1 fun w7 =>
  br w7
  (some 1)
  (br (std.eq a1.fk_ 8)
  (br (std.lt (std.ofN (len a0.fC)) a1.fc)
  (some 5)
  (br (std.eq (std.ofN (len a0.fC)) 8)
  (some 3)
  ((Fq11 (TL.mk a0.fC) a1.fN).bind fun y13 =>
  br (std.le 0 y13)
  (some 6)
  (some 0))))
  (br (std.le (std.ofN (len a0.fC)) a1.fc)
  (some 5)
  (req (std.inR a1.fc (len a0.fC)) <|
  br (std.eq a1.fk_ 1)
  ((Fq71 a1.fx (std.ofN (len (gd a0.fC (std.toN a1.fc)).fS)) 24).bind fun y19 =>
  some y19)
  (br (std.eq a1.fk_ 2)
  ((Fq74 a1.fx (std.ofN (len (gd a0.fC (std.toN a1.fc)).fS))).bind fun y21 =>
  some y21)
  (br (std.eq a1.fk_ 3)
  ((Fq71 a1.fx (std.ofN (len (gd a0.fC (std.toN a1.fc)).fL)) 8).bind fun y23 =>
  some y23)
  (br (std.eq a1.fk_ 4)
  ((Fq74 a1.fx (std.ofN (len (gd a0.fC (std.toN a1.fc)).fL))).bind fun y25 =>
  some y25)
  (br (std.eq a1.fk_ 5)
  ((Fq71 a1.fx (std.ofN (len (gd a0.fC (std.toN a1.fc)).fI)) 8).bind fun y27 =>
  ((
  br (std.eq y27 0)
  (some (std.le a1.fc a1.fi_.fc))
  (some false)
  ) : Option (Bool)).bind fun y29 =>
  letO y29 fun w35 =>
  ((
  br w35
  (some 6)
  (some y27)
  ) : Option (Int)).bind fun y37 =>
  letO y37 fun w43 =>
  some w43)
  (br (std.eq a1.fk_ 6)
  ((Fq74 a1.fx (std.ofN (len (gd a0.fC (std.toN a1.fc)).fI))).bind fun y45 =>
  some y45)
  (((
  br (std.eq a1.fk_ 7)
  ((Fq11 (TL.mk a0.fC) a1.fN).bind fun y53 =>
  ((
  br (std.le 0 y53)
  (some (std.not (std.eq y53 a1.fc)))
  (some false)
  ) : Option (Bool)).bind fun y55 =>
  letO y55 fun w61 =>
  br w61
  ((some 6).bind fun r63 => some (.inl r63))
  (some (.inr ())))
  (((
  br (std.eq a1.fk_ 9)
  (((
  br (std.eq (std.ofN (len a0.fC)) 1)
  (some true)
  (br (std.lt 0 (std.add .i64 (std.add .i64 (std.ofN (len (gd a0.fC (std.toN a1.fc)).fS)) (std.ofN (len (gd a0.fC (std.toN a1.fc)).fL))) (std.ofN (len (gd a0.fC (std.toN a1.fc)).fI))))
  (some true)
  ((Fq14 (TL.mk a0.fC) a1.fc).bind fun y80 =>
  some (std.lt 0 (std.ofN (len y80)))))
  ) : Option (Bool)).bind fun y73 =>
  letO y73 fun w79 =>
  br w79
  (((some 6).bind fun r84 => some (.inl r84)).bind fun r87 => some (.inl r87))
  (some (.inr ())))
  (some (.inr ()))
  ) : Option (_ ⊕ Unit)).bind fun z69 => (match z69 with
 | .inl r => some r
 | .inr y67 =>
  some (.inr ())))
  ) : Option (_ ⊕ Unit)).bind fun z49 => (match z49 with
 | .inl r => some r
 | .inr y47 =>
  some 0))))))))))
theorem runq114 (a0 : TL) (a1 : TE) (r : Int) (h : Fq114 a0 a1 = some r) : Fun prog 31 [.agg [.bs (len a0.fC) 4 (row gd (eC len gd) a0.fC)], .agg (cE a1)] [] (.c (wi r)) [] true := by
 refine ow [1, 27, 34, 37, 100100, 100108, 100122] func31 ntmps31 ?_; unfold Fq114 at h; have hfq34 := @runq34; have hfq6 := @runq6; have hfq14 := @runq14; have hfq74 := @runq74; have hfq71 := @runq71; have hfq11 := @runq11
 generalize hU : @len = U_, hG_ : @gd = G_, hA : std = A, hP : prog = P at *; cbv
 revert h; refine cu (fun y1 => (sp 142 [(2, .c (.ptr 128 0)), (3, .c (.ptr 192 0)), (19, .c (.v (.bool y1)))] [(128, .var [.bs (U_ a0.fC) 4 (row G_ (eC U_ G_) a0.fC)]), (192, .var (cE a1))])) ?_ fun w7 => rz fun h => ?_
 ·intro y1 S hS h; cbv; revert h; refine rk0 (hfq6 _) fun y8 h => ?_; cbv; revert h; refine fk ?_ ?_ <;> intro h <;> cbv
  ·exact dn
  revert h; refine rk0 (hfq34 _) fun y10 h => ?_; cbv; exact dn
 cbv; revert h; refine fk ?_ ?_ <;> intro h <;> cbv
 ·exact df
 revert h; refine fk ?_ ?_ <;> intro h <;> cbv
 ·revert h; refine fk ?_ ?_ <;> intro h <;> cbv
  ·exact df
  revert h; refine fk ?_ ?_ <;> intro h <;> cbv
  ·exact df
  revert h; refine rk0 (hfq11 _ _) fun y13 h => ?_; cbv; revert h; refine fk ?_ ?_ <;> intro h <;> cbv
  ·exact df
  exact df
 revert h; refine fk ?_ ?_ <;> intro h <;> cbv
 ·exact df
 revert h; refine ra fun c18 h => ?_; revert h; refine fk ?_ ?_ <;> intro h <;> cbv
 ·revert h; refine rk0 (hfq71 _ _ _) fun y19 h => ?_; cbv; exact df
 revert h; refine fk ?_ ?_ <;> intro h <;> cbv
 ·revert h; refine rk0 (hfq74 _ _) fun y21 h => ?_; cbv; exact df
 revert h; refine fk ?_ ?_ <;> intro h <;> cbv
 ·revert h; refine rk0 (hfq71 _ _ _) fun y23 h => ?_; cbv; exact df
 revert h; refine fk ?_ ?_ <;> intro h <;> cbv
 ·revert h; refine rk0 (hfq74 _ _) fun y25 h => ?_; cbv; exact df
 revert h; refine fk ?_ ?_ <;> intro h <;> cbv
 ·revert h; refine rk0 (hfq71 _ _ _) fun y27 h => ?_; cbv; revert h; refine cu (fun y29 => (sp 142 [(10, .c (wi y27)), (100, .c (.v (.bool y29)))] [])) (fun y29 S hS h => rg) fun w35 => rz fun h => ?_; cbv; revert h; refine cu (fun y37 => some (sp 142 [(10, .c (wi y37))] [])) (fun y37 S hS h => rg) fun w43 => rz fun h => ?_; cbv; exact df
 revert h; refine fk ?_ ?_ <;> intro h <;> cbv
 ·revert h; refine rk0 (hfq74 _ _) fun y45 h => ?_; cbv; exact df
 obtain ⟨z49, hy48, hz50⟩ := ob_ h; obtain ⟨S, hS⟩ : ∃ S, S = (match z49 with | .inl _ => none | .inr y47 => some (sp 142 [] [])) := ⟨_, rfl⟩; refine ⟨S, ?_, ?_⟩
 ·have h := hy48; clear hy48; cbv; revert h; refine fk ?_ ?_ <;> intro h <;> cbv
  ·revert h; refine rk0 (hfq11 _ _) fun y53 h => ?_; cbv; revert h; refine cu (fun y55 => (sp 142 [(121, .c (.v (.bool y55)))] [])) (fun y55 S hS h => rg) fun w61 => rz fun h => ?_; cbv; revert h; refine fk ?_ ?_ <;> intro h <;> cbv
   ·obtain ⟨r63, h64, he65⟩ := ob_ h; injection he65 with he65; subst he65; injection hz50 with hz50; subst hz50; have h := h64; exact df
   exact dn
  obtain ⟨z69, hy68, hz70⟩ := ob_ h; obtain ⟨S, hS⟩ : ∃ S, S = (match z69 with | .inl _ => none | .inr y67 => some (sp 142 [] [])) := ⟨_, rfl⟩; refine ⟨S, ?_, ?_⟩
  ·have h := hy68; clear hy68; cbv; revert h; refine fk ?_ ?_ <;> intro h <;> cbv
   ·revert h; refine cu (fun y73 => (sp 142 [(141, .c (.v (.bool y73)))] [])) ?_ fun w79 => rz fun h => ?_
    ·intro y73 S hS h; cbv; revert h; refine fk ?_ ?_ <;> intro h <;> cbv
     ·exact dn
     revert h; refine fk ?_ ?_ <;> intro h <;> cbv
     ·exact dn
     revert h; refine rk [] [(64000, 8832)] (hfq14 _ _) (fun _ => zf) fun y80 h => ⟨_, rfl, _, _, rfl, fun _ _ _ _ => .refl _, ?_⟩
     cbv; exact dn
    cbv; revert h; refine fk ?_ ?_ <;> intro h <;> cbv
    ·obtain ⟨r87, h88, he89⟩ := ob_ h; injection he89 with he89; subst he89; injection hz70 with hz70; subst hz70; have h := h88; obtain ⟨r84, h85, he86⟩ := ob_ h; injection he86 with he86; subst he86; injection hz50 with hz50; subst hz50; have h := h85; exact df
    exact dn
   exact dn
  ·clear hy68; subst hS; rcases z69 with _ | y67
   ·trivial
   ·have h := hz70; clear hz70; cbv; exact dn
 ·clear hy48; subst hS; rcases z49 with _ | y47
  ·trivial
  ·have h := hz50; clear hz50; cbv; exact df

/-- impl.inverse -/
def Fq27 (a0 : TL) (a1 : TE) : Option (TE) :=
 ((
 br (std.eq a1.fk_ 1)
 (some (2, (ByteArray.mk #[]), 0, 0, 0, 0, 0, 0, 0, 0, (ByteArray.mk #[]), 0, 0, 0, 0, 0, 0, 0, 0))
 (((
 br (std.eq a1.fk_ 2)
 (req (std.inR a1.fc (len a0.fC)) <|
 req (std.inR a1.fx (len (gd a0.fC (std.toN a1.fc)).fS)) <|
 some (1, (gd (gd a0.fC (std.toN a1.fc)).fS (std.toN a1.fx)).fy, (gd (gd a0.fC (std.toN a1.fc)).fS (std.toN a1.fx)).fb.fX0, (gd (gd a0.fC (std.toN a1.fc)).fS (std.toN a1.fx)).fb.fY0, (gd (gd a0.fC (std.toN a1.fc)).fS (std.toN a1.fx)).fb.fX1, (gd (gd a0.fC (std.toN a1.fc)).fS (std.toN a1.fx)).fb.fY1, (ByteArray.mk #[]), 0, 0, 0, (ByteArray.mk #[]), 0, 0, 0, 0, 0, 0, 0, 0))
 (((
 br (std.eq a1.fk_ 3)
 (some (4, (ByteArray.mk #[]), 0, 0, 0, (ByteArray.mk #[]), 0, 0, 0, 0, 0, 0, 0, 0))
 (((
 br (std.eq a1.fk_ 4)
 (req (std.inR a1.fc (len a0.fC)) <|
 req (std.inR a1.fx (len (gd a0.fC (std.toN a1.fc)).fL)) <|
 some (3, (gd (gd a0.fC (std.toN a1.fc)).fL (std.toN a1.fx)).fy, (gd (gd a0.fC (std.toN a1.fc)).fL (std.toN a1.fx)).fa.fX, (gd (gd a0.fC (std.toN a1.fc)).fL (std.toN a1.fx)).fa.fY, (gd (gd a0.fC (std.toN a1.fc)).fL (std.toN a1.fx)).fN, (ByteArray.mk #[]), 0, 0, 0, 0, 0, 0, 0, 0))
 (((
 br (std.eq a1.fk_ 5)
 (some (6, (ByteArray.mk #[]), 0, 0, 0, 0, 0, 0, 0, 0))
 (((
 br (std.eq a1.fk_ 6)
 (req (std.inR a1.fc (len a0.fC)) <|
 req (std.inR a1.fx (len (gd a0.fC (std.toN a1.fc)).fI)) <|
 some (5, (gd (gd a0.fC (std.toN a1.fc)).fI (std.toN a1.fx)).fc, (gd (gd a0.fC (std.toN a1.fc)).fI (std.toN a1.fx)).fp.fo, (gd (gd a0.fC (std.toN a1.fc)).fI (std.toN a1.fx)).fp.fX, (gd (gd a0.fC (std.toN a1.fc)).fI (std.toN a1.fx)).fp.fY, (gd (gd a0.fC (std.toN a1.fc)).fI (std.toN a1.fx)).fK, (gd (gd a0.fC (std.toN a1.fc)).fI (std.toN a1.fx)).fR, (gd (gd a0.fC (std.toN a1.fc)).fI (std.toN a1.fx)).fu, (gd (gd a0.fC (std.toN a1.fc)).fI (std.toN a1.fx)).fv, (ByteArray.mk #[])))
 (((
 br (std.eq a1.fk_ 7)
 (req (std.inR a1.fc (len a0.fC)) <|
 some (7, (gd a0.fC (std.toN a1.fc)).fN))
 (((
 br (std.eq a1.fk_ 8)
 (some (9, (ByteArray.mk #[])))
 (((
 br (std.eq a1.fk_ 9)
 (req (std.inR a1.fc (len a0.fC)) <|
 some (8, (gd a0.fC (std.toN a1.fc)).fN))
 (some (0, (ByteArray.mk #[])))
 ) : Option (Int × ByteArray)).bind fun y146 =>
 letO y146.1 fun w152 =>
 letO y146.2 fun w153 =>
 some (w152, w153))
 ) : Option (Int × ByteArray)).bind fun y138 =>
 letO y138.1 fun w144 =>
 letO y138.2 fun w145 =>
 some (w144, w145))
 ) : Option (Int × ByteArray)).bind fun y129 =>
 letO y129.1 fun w135 =>
 letO y129.2 fun w136 =>
 some (w135, 0, 0, 0, 0, 0, 0, 0, 0, w136))
 ) : Option (Int × Int × Int × Int × Int × Int × Int × Int × Int × ByteArray)).bind fun y111 =>
 letO y111.1 fun w117 =>
 letO y111.2.1 fun w118 =>
 letO y111.2.2.1 fun w119 =>
 letO y111.2.2.2.1 fun w120 =>
 letO y111.2.2.2.2.1 fun w121 =>
 letO y111.2.2.2.2.2.1 fun w122 =>
 letO y111.2.2.2.2.2.2.1 fun w123 =>
 letO y111.2.2.2.2.2.2.2.1 fun w124 =>
 letO y111.2.2.2.2.2.2.2.2.1 fun w125 =>
 letO y111.2.2.2.2.2.2.2.2.2 fun w126 =>
 some (w117, w126, w118, w119, w120, w121, w122, w123, w124, w125))
 ) : Option (Int × ByteArray × Int × Int × Int × Int × Int × Int × Int × Int)).bind fun y95 =>
 letO y95.1 fun w101 =>
 letO y95.2.1 fun w102 =>
 letO y95.2.2.1 fun w103 =>
 letO y95.2.2.2.1 fun w104 =>
 letO y95.2.2.2.2.1 fun w105 =>
 letO y95.2.2.2.2.2.1 fun w106 =>
 letO y95.2.2.2.2.2.2.1 fun w107 =>
 letO y95.2.2.2.2.2.2.2.1 fun w108 =>
 letO y95.2.2.2.2.2.2.2.2.1 fun w109 =>
 letO y95.2.2.2.2.2.2.2.2.2 fun w110 =>
 some (w101, 0, 0, 0, (ByteArray.mk #[]), w102, w103, w104, w105, w106, w107, w108, w109, w110))
 ) : Option (Int × Int × Int × Int × ByteArray × ByteArray × Int × Int × Int × Int × Int × Int × Int × Int)).bind fun y73 =>
 letO y73.1 fun w79 =>
 letO y73.2.1 fun w80 =>
 letO y73.2.2.1 fun w81 =>
 letO y73.2.2.2.1 fun w82 =>
 letO y73.2.2.2.2.1 fun w83 =>
 letO y73.2.2.2.2.2.1 fun w84 =>
 letO y73.2.2.2.2.2.2.1 fun w85 =>
 letO y73.2.2.2.2.2.2.2.1 fun w86 =>
 letO y73.2.2.2.2.2.2.2.2.1 fun w87 =>
 letO y73.2.2.2.2.2.2.2.2.2.1 fun w88 =>
 letO y73.2.2.2.2.2.2.2.2.2.2.1 fun w89 =>
 letO y73.2.2.2.2.2.2.2.2.2.2.2.1 fun w90 =>
 letO y73.2.2.2.2.2.2.2.2.2.2.2.2.1 fun w91 =>
 letO y73.2.2.2.2.2.2.2.2.2.2.2.2.2 fun w92 =>
 some (w79, w84, w80, w81, w82, w83, w85, w86, w87, w88, w89, w90, w91, w92))
 ) : Option (Int × ByteArray × Int × Int × Int × ByteArray × Int × Int × Int × Int × Int × Int × Int × Int)).bind fun y53 =>
 letO y53.1 fun w59 =>
 letO y53.2.1 fun w60 =>
 letO y53.2.2.1 fun w61 =>
 letO y53.2.2.2.1 fun w62 =>
 letO y53.2.2.2.2.1 fun w63 =>
 letO y53.2.2.2.2.2.1 fun w64 =>
 letO y53.2.2.2.2.2.2.1 fun w65 =>
 letO y53.2.2.2.2.2.2.2.1 fun w66 =>
 letO y53.2.2.2.2.2.2.2.2.1 fun w67 =>
 letO y53.2.2.2.2.2.2.2.2.2.1 fun w68 =>
 letO y53.2.2.2.2.2.2.2.2.2.2.1 fun w69 =>
 letO y53.2.2.2.2.2.2.2.2.2.2.2.1 fun w70 =>
 letO y53.2.2.2.2.2.2.2.2.2.2.2.2.1 fun w71 =>
 letO y53.2.2.2.2.2.2.2.2.2.2.2.2.2 fun w72 =>
 some (w59, 0, 0, 0, 0, 0, w60, w61, w62, w63, w64, w65, w66, w67, w68, w69, w70, w71, w72))
 ) : Option (Int × Int × Int × Int × Int × Int × ByteArray × Int × Int × Int × ByteArray × Int × Int × Int × Int × Int × Int × Int × Int)).bind fun y26 =>
 letO y26.1 fun w32 =>
 letO y26.2.1 fun w33 =>
 letO y26.2.2.1 fun w34 =>
 letO y26.2.2.2.1 fun w35 =>
 letO y26.2.2.2.2.1 fun w36 =>
 letO y26.2.2.2.2.2.1 fun w37 =>
 letO y26.2.2.2.2.2.2.1 fun w38 =>
 letO y26.2.2.2.2.2.2.2.1 fun w39 =>
 letO y26.2.2.2.2.2.2.2.2.1 fun w40 =>
 letO y26.2.2.2.2.2.2.2.2.2.1 fun w41 =>
 letO y26.2.2.2.2.2.2.2.2.2.2.1 fun w42 =>
 letO y26.2.2.2.2.2.2.2.2.2.2.2.1 fun w43 =>
 letO y26.2.2.2.2.2.2.2.2.2.2.2.2.1 fun w44 =>
 letO y26.2.2.2.2.2.2.2.2.2.2.2.2.2.1 fun w45 =>
 letO y26.2.2.2.2.2.2.2.2.2.2.2.2.2.2.1 fun w46 =>
 letO y26.2.2.2.2.2.2.2.2.2.2.2.2.2.2.2.1 fun w47 =>
 letO y26.2.2.2.2.2.2.2.2.2.2.2.2.2.2.2.2.1 fun w48 =>
 letO y26.2.2.2.2.2.2.2.2.2.2.2.2.2.2.2.2.2.1 fun w49 =>
 letO y26.2.2.2.2.2.2.2.2.2.2.2.2.2.2.2.2.2.2 fun w50 =>
 some (w32, w38, w33, w34, w35, w36, w37, w39, w40, w41, w42, w43, w44, w45, w46, w47, w48, w49, w50))
 ) : Option (Int × ByteArray × Int × Int × Int × Int × Int × Int × Int × Int × ByteArray × Int × Int × Int × Int × Int × Int × Int × Int)).bind fun y1 =>
 letO y1.1 fun w7 =>
 letO y1.2.1 fun w8 =>
 letO y1.2.2.1 fun w9 =>
 letO y1.2.2.2.1 fun w10 =>
 letO y1.2.2.2.2.1 fun w11 =>
 letO y1.2.2.2.2.2.1 fun w12 =>
 letO y1.2.2.2.2.2.2.1 fun w13 =>
 letO y1.2.2.2.2.2.2.2.1 fun w14 =>
 letO y1.2.2.2.2.2.2.2.2.1 fun w15 =>
 letO y1.2.2.2.2.2.2.2.2.2.1 fun w16 =>
 letO y1.2.2.2.2.2.2.2.2.2.2.1 fun w17 =>
 letO y1.2.2.2.2.2.2.2.2.2.2.2.1 fun w18 =>
 letO y1.2.2.2.2.2.2.2.2.2.2.2.2.1 fun w19 =>
 letO y1.2.2.2.2.2.2.2.2.2.2.2.2.2.1 fun w20 =>
 letO y1.2.2.2.2.2.2.2.2.2.2.2.2.2.2.1 fun w21 =>
 letO y1.2.2.2.2.2.2.2.2.2.2.2.2.2.2.2.1 fun w22 =>
 letO y1.2.2.2.2.2.2.2.2.2.2.2.2.2.2.2.2.1 fun w23 =>
 letO y1.2.2.2.2.2.2.2.2.2.2.2.2.2.2.2.2.2.1 fun w24 =>
 letO y1.2.2.2.2.2.2.2.2.2.2.2.2.2.2.2.2.2.2 fun w25 =>
 some (TE.mk w7 a1.fc a1.fx w8 (TS.mk w9 (TRect.mk w10 w11 w12 w13)) (TB.mk w14 (TPoint.mk w15 w16) w17) (TI.mk w18 (TM.mk w19 w20 w21) w22 w23 w24 w25))
theorem runq27 (a0 : TL) (a1 : TE) (r : TE) (h : Fq27 a0 a1 = some r) : Fun prog 56 [.agg [.bs (len a0.fC) 4 (row gd (eC len gd) a0.fC)], .agg (cE a1)] [] (.agg (cE r)) [] true := by
 refine ow [100013, 100016, 100031, 100034, 100049, 100052, 100067, 100078, 100081] func56 ntmps56 ?_ (hv := (fun _ => ⟨(by simp [AV.flat, AV.flat1, AC.flat]), tv⟩)); unfold Fq27 at h; generalize hU : @len = U_, hG_ : @gd = G_, hA : std = A, hP : prog = P at *; cbv
 revert h; refine cu (fun y1 => some (sp 93 [(4, .c (.ptr 256 0)), (5, .c (.ptr 320 0))] [(256, .var [wi 0, wi 0, wi 0, ws (ByteArray.mk #[]), wi 0, wi 0, wi 0, wi 0, wi 0, wi 0, wi 0, wi 0, ws (ByteArray.mk #[]), wi 0, wi 0, wi 0, wi 0, wi 0, wi 0, wi 0, wi 0]), (320, .var [wi y1.1, wi a1.fc, wi a1.fx, ws y1.2.1, wi y1.2.2.1, wi y1.2.2.2.1, wi y1.2.2.2.2.1, wi y1.2.2.2.2.2.1, wi y1.2.2.2.2.2.2.1, wi y1.2.2.2.2.2.2.2.1, wi y1.2.2.2.2.2.2.2.2.1, wi y1.2.2.2.2.2.2.2.2.2.1, ws y1.2.2.2.2.2.2.2.2.2.2.1, wi y1.2.2.2.2.2.2.2.2.2.2.2.1, wi y1.2.2.2.2.2.2.2.2.2.2.2.2.1, wi y1.2.2.2.2.2.2.2.2.2.2.2.2.2.1, wi y1.2.2.2.2.2.2.2.2.2.2.2.2.2.2.1, wi y1.2.2.2.2.2.2.2.2.2.2.2.2.2.2.2.1, wi y1.2.2.2.2.2.2.2.2.2.2.2.2.2.2.2.2.1, wi y1.2.2.2.2.2.2.2.2.2.2.2.2.2.2.2.2.2.1, wi y1.2.2.2.2.2.2.2.2.2.2.2.2.2.2.2.2.2.2])])) ?_ ?_
 ·intro y1 S hS h; cbv; revert h; refine fk ?_ ?_ <;> intro h <;> cbv
  ·exact dn
  revert h; refine cu (fun y26 => some (sp 93 [(4, .c (.ptr 256 0)), (5, .c (.ptr 320 0))] [(256, .var [wi 0, wi 0, wi 0, ws (ByteArray.mk #[]), wi 0, wi 0, wi 0, wi 0, wi 0, wi 0, wi 0, wi 0, ws (ByteArray.mk #[]), wi 0, wi 0, wi 0, wi 0, wi 0, wi 0, wi 0, wi 0]), (320, .var [wi y26.1, wi a1.fc, wi a1.fx, ws y26.2.2.2.2.2.2.1, wi y26.2.1, wi y26.2.2.1, wi y26.2.2.2.1, wi y26.2.2.2.2.1, wi y26.2.2.2.2.2.1, wi y26.2.2.2.2.2.2.2.1, wi y26.2.2.2.2.2.2.2.2.1, wi y26.2.2.2.2.2.2.2.2.2.1, ws y26.2.2.2.2.2.2.2.2.2.2.1, wi y26.2.2.2.2.2.2.2.2.2.2.2.1, wi y26.2.2.2.2.2.2.2.2.2.2.2.2.1, wi y26.2.2.2.2.2.2.2.2.2.2.2.2.2.1, wi y26.2.2.2.2.2.2.2.2.2.2.2.2.2.2.1, wi y26.2.2.2.2.2.2.2.2.2.2.2.2.2.2.2.1, wi y26.2.2.2.2.2.2.2.2.2.2.2.2.2.2.2.2.1, wi y26.2.2.2.2.2.2.2.2.2.2.2.2.2.2.2.2.2.1, wi y26.2.2.2.2.2.2.2.2.2.2.2.2.2.2.2.2.2.2])])) ?_ ?_
  ·intro y26 S hS h; cbv; revert h; refine fk ?_ ?_ <;> intro h <;> cbv
   ·revert h; refine ra fun c51 h => ?_; revert h; refine ra fun c52 h => ?_; exact dn
   revert h; refine cu (fun y53 => some (sp 93 [(4, .c (.ptr 256 0)), (5, .c (.ptr 320 0))] [(256, .var [wi 0, wi 0, wi 0, ws (ByteArray.mk #[]), wi 0, wi 0, wi 0, wi 0, wi 0, wi 0, wi 0, wi 0, ws (ByteArray.mk #[]), wi 0, wi 0, wi 0, wi 0, wi 0, wi 0, wi 0, wi 0]), (320, .var [wi y53.1, wi a1.fc, wi a1.fx, ws y53.2.1, wi 0, wi 0, wi 0, wi 0, wi 0, wi y53.2.2.1, wi y53.2.2.2.1, wi y53.2.2.2.2.1, ws y53.2.2.2.2.2.1, wi y53.2.2.2.2.2.2.1, wi y53.2.2.2.2.2.2.2.1, wi y53.2.2.2.2.2.2.2.2.1, wi y53.2.2.2.2.2.2.2.2.2.1, wi y53.2.2.2.2.2.2.2.2.2.2.1, wi y53.2.2.2.2.2.2.2.2.2.2.2.1, wi y53.2.2.2.2.2.2.2.2.2.2.2.2.1, wi y53.2.2.2.2.2.2.2.2.2.2.2.2.2])])) ?_ ?_
   ·intro y53 S hS h; cbv; revert h; refine fk ?_ ?_ <;> intro h <;> cbv
    ·exact dn
    revert h; refine cu (fun y73 => some (sp 93 [(4, .c (.ptr 256 0)), (5, .c (.ptr 320 0))] [(256, .var [wi 0, wi 0, wi 0, ws (ByteArray.mk #[]), wi 0, wi 0, wi 0, wi 0, wi 0, wi 0, wi 0, wi 0, ws (ByteArray.mk #[]), wi 0, wi 0, wi 0, wi 0, wi 0, wi 0, wi 0, wi 0]), (320, .var [wi y73.1, wi a1.fc, wi a1.fx, ws y73.2.2.2.2.2.1, wi 0, wi 0, wi 0, wi 0, wi 0, wi y73.2.1, wi y73.2.2.1, wi y73.2.2.2.1, ws y73.2.2.2.2.1, wi y73.2.2.2.2.2.2.1, wi y73.2.2.2.2.2.2.2.1, wi y73.2.2.2.2.2.2.2.2.1, wi y73.2.2.2.2.2.2.2.2.2.1, wi y73.2.2.2.2.2.2.2.2.2.2.1, wi y73.2.2.2.2.2.2.2.2.2.2.2.1, wi y73.2.2.2.2.2.2.2.2.2.2.2.2.1, wi y73.2.2.2.2.2.2.2.2.2.2.2.2.2])])) ?_ ?_
    ·intro y73 S hS h; cbv; revert h; refine fk ?_ ?_ <;> intro h <;> cbv
     ·revert h; refine ra fun c93 h => ?_; revert h; refine ra fun c94 h => ?_; exact dn
     revert h; refine cu (fun y95 => some (sp 93 [(4, .c (.ptr 256 0)), (5, .c (.ptr 320 0))] [(256, .var [wi 0, wi 0, wi 0, ws (ByteArray.mk #[]), wi 0, wi 0, wi 0, wi 0, wi 0, wi 0, wi 0, wi 0, ws (ByteArray.mk #[]), wi 0, wi 0, wi 0, wi 0, wi 0, wi 0, wi 0, wi 0]), (320, .var [wi y95.1, wi a1.fc, wi a1.fx, ws y95.2.1, wi 0, wi 0, wi 0, wi 0, wi 0, wi 0, wi 0, wi 0, ws (ByteArray.mk #[]), wi y95.2.2.1, wi y95.2.2.2.1, wi y95.2.2.2.2.1, wi y95.2.2.2.2.2.1, wi y95.2.2.2.2.2.2.1, wi y95.2.2.2.2.2.2.2.1, wi y95.2.2.2.2.2.2.2.2.1, wi y95.2.2.2.2.2.2.2.2.2])])) ?_ ?_
     ·intro y95 S hS h; cbv; revert h; refine fk ?_ ?_ <;> intro h <;> cbv
      ·exact dn
      revert h; refine cu (fun y111 => some (sp 93 [(4, .c (.ptr 256 0)), (5, .c (.ptr 320 0))] [(256, .var [wi 0, wi 0, wi 0, ws (ByteArray.mk #[]), wi 0, wi 0, wi 0, wi 0, wi 0, wi 0, wi 0, wi 0, ws (ByteArray.mk #[]), wi 0, wi 0, wi 0, wi 0, wi 0, wi 0, wi 0, wi 0]), (320, .var [wi y111.1, wi a1.fc, wi a1.fx, ws y111.2.2.2.2.2.2.2.2.2, wi 0, wi 0, wi 0, wi 0, wi 0, wi 0, wi 0, wi 0, ws (ByteArray.mk #[]), wi y111.2.1, wi y111.2.2.1, wi y111.2.2.2.1, wi y111.2.2.2.2.1, wi y111.2.2.2.2.2.1, wi y111.2.2.2.2.2.2.1, wi y111.2.2.2.2.2.2.2.1, wi y111.2.2.2.2.2.2.2.2.1])])) ?_ ?_
      ·intro y111 S hS h; cbv; revert h; refine fk ?_ ?_ <;> intro h <;> cbv
       ·revert h; refine ra fun c127 h => ?_; revert h; refine ra fun c128 h => ?_; exact dn
       revert h; refine cu (fun y129 => some (sp 93 [(4, .c (.ptr 256 0)), (5, .c (.ptr 320 0))] [(256, .var [wi 0, wi 0, wi 0, ws (ByteArray.mk #[]), wi 0, wi 0, wi 0, wi 0, wi 0, wi 0, wi 0, wi 0, ws (ByteArray.mk #[]), wi 0, wi 0, wi 0, wi 0, wi 0, wi 0, wi 0, wi 0]), (320, .var [wi y129.1, wi a1.fc, wi a1.fx, ws y129.2, wi 0, wi 0, wi 0, wi 0, wi 0, wi 0, wi 0, wi 0, ws (ByteArray.mk #[]), wi 0, wi 0, wi 0, wi 0, wi 0, wi 0, wi 0, wi 0])])) ?_ ?_
       ·intro y129 S hS h; cbv; revert h; refine fk ?_ ?_ <;> intro h <;> cbv
        ·revert h; refine ra fun c137 h => ?_; exact dn
        revert h; refine cu (fun y138 => some (sp 93 [(4, .c (.ptr 256 0)), (5, .c (.ptr 320 0))] [(256, .var [wi 0, wi 0, wi 0, ws (ByteArray.mk #[]), wi 0, wi 0, wi 0, wi 0, wi 0, wi 0, wi 0, wi 0, ws (ByteArray.mk #[]), wi 0, wi 0, wi 0, wi 0, wi 0, wi 0, wi 0, wi 0]), (320, .var [wi y138.1, wi a1.fc, wi a1.fx, ws y138.2, wi 0, wi 0, wi 0, wi 0, wi 0, wi 0, wi 0, wi 0, ws (ByteArray.mk #[]), wi 0, wi 0, wi 0, wi 0, wi 0, wi 0, wi 0, wi 0])])) ?_ ?_
        ·intro y138 S hS h; cbv; revert h; refine fk ?_ ?_ <;> intro h <;> cbv
         ·exact dn
         revert h; refine cu (fun y146 => some (sp 93 [(4, .c (.ptr 256 0)), (5, .c (.ptr 320 0))] [(256, .var [wi 0, wi 0, wi 0, ws (ByteArray.mk #[]), wi 0, wi 0, wi 0, wi 0, wi 0, wi 0, wi 0, wi 0, ws (ByteArray.mk #[]), wi 0, wi 0, wi 0, wi 0, wi 0, wi 0, wi 0, wi 0]), (320, .var [wi y146.1, wi a1.fc, wi a1.fx, ws y146.2, wi 0, wi 0, wi 0, wi 0, wi 0, wi 0, wi 0, wi 0, ws (ByteArray.mk #[]), wi 0, wi 0, wi 0, wi 0, wi 0, wi 0, wi 0, wi 0])])) (fun y146 S hS h => rg) ?_
         rintro ⟨w152, w153⟩ h; replace h := oz (oz h); dsimp only at h; cbv; exact dn
        rintro ⟨w144, w145⟩ h; replace h := oz (oz h); dsimp only at h; cbv; exact dn
       rintro ⟨w135, w136⟩ h; replace h := oz (oz h); dsimp only at h; cbv; exact dn
      rintro ⟨w117, w118, w119, w120, w121, w122, w123, w124, w125, w126⟩ h; replace h := oz (oz (oz (oz (oz (oz (oz (oz (oz (oz h))))))))); dsimp only at h; cbv; exact dn
     rintro ⟨w101, w102, w103, w104, w105, w106, w107, w108, w109, w110⟩ h; replace h := oz (oz (oz (oz (oz (oz (oz (oz (oz (oz h))))))))); dsimp only at h; cbv; exact dn
    rintro ⟨w79, w80, w81, w82, w83, w84, w85, w86, w87, w88, w89, w90, w91, w92⟩ h; replace h := oz (oz (oz (oz (oz (oz (oz (oz (oz (oz (oz (oz (oz (oz h))))))))))))); dsimp only at h; cbv; exact dn
   rintro ⟨w59, w60, w61, w62, w63, w64, w65, w66, w67, w68, w69, w70, w71, w72⟩ h; replace h := oz (oz (oz (oz (oz (oz (oz (oz (oz (oz (oz (oz (oz (oz h))))))))))))); dsimp only at h; cbv; exact dn
  rintro ⟨w32, w33, w34, w35, w36, w37, w38, w39, w40, w41, w42, w43, w44, w45, w46, w47, w48, w49, w50⟩ h; replace h := oz (oz (oz (oz (oz (oz (oz (oz (oz (oz (oz (oz (oz (oz (oz (oz (oz (oz (oz h)))))))))))))))))); dsimp only at h; cbv; exact dn
 rintro ⟨w7, w8, w9, w10, w11, w12, w13, w14, w15, w16, w17, w18, w19, w20, w21, w22, w23, w24, w25⟩ h; replace h := oz (oz (oz (oz (oz (oz (oz (oz (oz (oz (oz (oz (oz (oz (oz (oz (oz (oz (oz h)))))))))))))))))); dsimp only at h; cbv; exact df
set_option maxHeartbeats 40000000
section
open Go.RowKit Go.Lib
set_option maxRecDepth 1000000 in
theorem ins_shift_slices_Insert_Limpl_Cell_impl_Cell_mobo (b off n c i vb voff m vc : Nat) (cs vs : List Value) (w : World) (hi : i < n) (hm : 0 < m) (hroom : n + m <= c) (hc63 : n + m <= 9223372036854775807) (hvb : vb ≠ b)
  (hcl : cs.length = n * 4) (hvl : vs.length = m * 4)
  (hcs : ∀ j v, cs[j]? = some v -> w.cell? ⟨b, off + j, none⟩ = some v) (hsp : ∀ j, j < (n + m) * 4 -> (w.cell? ⟨b, off + j, none⟩).isSome = true) (hfz : ∀ j, j < (n + m) * 4 -> w.frozen? ⟨b, off + j, none⟩ = false)
  (hvs : ∀ j v, vs[j]? = some v -> w.cell? ⟨vb, voff + j, none⟩ = some v) (h1c : ∀ v ∈ cs, v.oneCell' = true) (h1v : ∀ v ∈ vs, v.oneCell' = true)
  (tA tB : TypeId) (kA kB : Nat) (hsa : w.shape? vb = some (tA, kA)) (hsb : w.shape? b = some (tB, kB)) (hkB : kB ≠ 0) (hfa : w.frozen? ⟨vb, voff, none⟩ = false) (hfe : w.frozen? ⟨vb, kA, none⟩ = false) :
  Calls prog 66 #[.slice (some ⟨b, off, none⟩) n c, .int .i64 i, .slice (some ⟨vb, voff, none⟩) m vc] w fun e w' =>
   e = .returned (.slice (some ⟨b, off, none⟩) (n + m) c) /\ w' = (w.drew.setCells b (off + (i + m) * 4) (cs.drop (i * 4))).setCells b (off + i * 4) vs := by
 have tSl : prog.underlying 24 = some (.slice 83) := by kernel_rfl
 have hz1 : ¬ ((m : Int) = 0) := by omega
 have hz2 : ¬ ((i : Int) = (n : Int)) := by omega
 have hsz : (prog.info? 83).map (·.size) = some 4 := by kernel_rfl
 have hov : ∀ lb cb, (callFunc 122 #[.slice (some ⟨vb, voff, none⟩) m vc, .slice (some ⟨b, off + (i + m) * 4, none⟩) lb cb]).run prog w = .ok (.value (.bool false)) w := fun lb cb => by
  rw [run_callFunc_extern func122 (by kernel_rfl) (by kernel_rfl) (by kernel_rfl) (e := Extern.SlicesOverlaps.overlaps #[24, 24] #[4]) (by kernel_rfl),
   Lib.run_overlaps_apart w 24 4 83 tSl 4 (fun w => run_sizeOf tok (show T 83 = some d83 from rfl)) ⟨vb, voff, none⟩ ⟨b, off + (i + m) * 4, none⟩ m vc lb cb hvb tA tB kA kB hsa hsb hkB hfa hfe]
  rfl
 have hdl : (cs.drop (i * 4)).length = (n - i) * 4 := by rw [List.length_drop, hcl, Nat.sub_mul]
 have mixed : prog.follows .mixedOrders = true := by kernel_rfl
 have hw1 : IntKind.i64.wrap ((i : Int) + (m : Int)) = (i : Int) + (m : Int) := by rw [IntKind.wrap_i64]; omega
 have hb1 : (0 : Int) <= (i : Int) + (m : Int) := by omega
 have hin : i <= n := by omega
 have htn : ((i : Int) + (m : Int)).toNat = i + m := by omega
 have hb2 : ¬ (c = i + m) := by omega
 have hb3 : (i : Int) <= (n : Int) + (m : Int) := by omega
 have hb4 : ¬ (c = i) := by omega
 have hcp1 : ∀ ty dc sc, (Builtin.copy_ #[24, 24] ty #[.slice (some ⟨b, off + (i + m) * 4, none⟩) (n + m - (i + m)) dc, .slice (some ⟨b, off + i * 4, none⟩) (n + m - i) sc]).run prog w.drew = .ok (goInt (Nat.min (n + m - i) (n + m - (i + m)))) (w.drew.setCells b (off + (i + m) * 4) (cs.drop (i * 4))) := fun ty dc sc =>
  run_copy_cellsN 4 w.drew _ _ ty 83 b (off + (i + m) * 4) (n + m - (i + m)) dc ⟨b, off + i * 4, none⟩ (n + m - i) sc (cs.drop (i * 4)) tSl hsz (by rw [hdl, show Nat.min (n + m - i) (n + m - (i + m)) = n - i by simp only [Nat.min_def]; split <;> omega])
   (fun j v hj => by rw [Addr.add_lit, Nat.add_assoc]; exact hcs (i * 4 + j) v (by rwa [List.getElem?_drop] at hj))
   (fun j hj => by rw [Nat.add_assoc]; exact hsp _ (by omega)) (fun j hj => by rw [Nat.add_assoc]; exact hfz _ (by omega)) (fun v hv => h1c v (List.mem_of_mem_drop hv))
 obtain ⟨W1, hW1⟩ : ∃ W1, W1 = w.drew.setCells b (off + (i + m) * 4) (cs.drop (i * 4)) := ⟨_, rfl⟩
 have hsp1 : ∀ k, k < (n + m) * 4 -> (W1.cell? ⟨b, off + k, none⟩).isSome = true := fun k hk => by
  rw [hW1]
  exact isSome_setCells b _ _ _ (fun j hj => by rw [Nat.add_assoc]; exact hsp _ (by omega)) _ (hsp k hk)
 have hcp2 : ∀ (W : World), (∀ x, W.cell? x = W1.cell? x) -> (∀ x, W.frozen? x = W1.frozen? x) -> ∀ ty dc, (Builtin.copy_ #[24, 24] ty #[.slice (some ⟨b, off + i * 4, none⟩) (n + m - i) dc, .slice (some ⟨vb, voff, none⟩) m vc]).run prog W = .ok (goInt (Nat.min m (n + m - i))) (W.setCells b (off + i * 4) vs) := fun W hWc hWf ty dc =>
  run_copy_cellsN 4 W _ _ ty 83 b (off + i * 4) (n + m - i) dc ⟨vb, voff, none⟩ m vc vs tSl hsz (by rw [hvl, show Nat.min m (n + m - i) = m by simp only [Nat.min_def]; split <;> omega])
   (fun j v hj => by
    rw [Addr.add_lit, hWc, hW1, World.cell?_setCells_out b _ _ _ _ (fun h _ => absurd h hvb)]
    exact hvs j v hj)
   (fun j hj => by rw [hWc, Nat.add_assoc]; exact hsp1 _ (by omega)) (fun j hj => by rw [hWf, hW1, World.frozen?_setCells, Nat.add_assoc]; exact hfz _ (by omega)) h1v
 rw [<- hW1] at hcp1
 clear hsp hfz hcs hvs h1c h1v
 go_enter func66, ntmps66
 go_wp2_with (simp only [hov])
 go_region_law_o (refine step_copy_runI rfl _ _ 24 24 rfl _ _ (by simp [Act.eval, Act.put]) (by simp [Act.eval, Act.put]) (hcp1 _ _ _) ?_)
 go_wp2_with (at_builtin; refine wpList_copy_runI _ rfl _ _ 24 24 rfl _ _ rfl rfl (hcp2 _ (fun _ => rfl) (fun _ => rfl) _ _) ?_)
 go_ret
 first | exact ⟨rfl, rfl⟩ | exact ⟨rfl, by rw [hW1]⟩
set_option maxRecDepth 1000000 in
theorem ins_end_room_slices_Insert_Limpl_Cell_impl_Cell_mobo (b off n c vb voff m vc : Nat) (vs : List Value) (w : World) (hm : 0 < m) (hroom : n + m <= c) (hc63 : n + m <= 9223372036854775807)
  (hvl : vs.length = m * 4) (hsp : ∀ j, j < m * 4 -> (w.cell? ⟨b, off + n * 4 + j, none⟩).isSome = true) (hfz : ∀ j, j < m * 4 -> w.frozen? ⟨b, off + n * 4 + j, none⟩ = false)
  (hvs : ∀ j v, vs[j]? = some v -> w.cell? ⟨vb, voff + j, none⟩ = some v) (h1v : ∀ v ∈ vs, v.oneCell' = true) :
  Calls prog 66 #[.slice (some ⟨b, off, none⟩) n c, .int .i64 n, .slice (some ⟨vb, voff, none⟩) m vc] w fun e w' =>
   e = .returned (.slice (some ⟨b, off, none⟩) (n + m) c) /\ w' = w.setCells b (off + n * 4) vs := by
 have tSl : prog.underlying 24 = some (.slice 83) := by kernel_rfl
 have mixed : prog.follows .mixedOrders = true := by kernel_rfl
 have hI : (prog.info? 83).map (·.size) = some 4 := by kernel_rfl
 obtain ⟨i0, hi0, hz5⟩ : ∃ i0, prog.info? 83 = some i0 /\ i0.size = 4 := by
  cases h : prog.info? 83 with
  | none => rw [h] at hI; cases hI
  | some i0 => rw [h] at hI; exact ⟨i0, rfl, by injection hI⟩
 have hz1 : ¬ ((m : Int) = 0) := by omega
 have hsrc : Src prog i0.size 24 (.slice (some ⟨vb, voff, none⟩) m vc) m vs w := Src.ofSlice w tSl ⟨vb, voff, none⟩ m vc vs (by rw [hz5]; exact hvl) (fun j u hj => by rw [Addr.add_lit]; exact hvs j u hj) h1v
 have s1 : Hid (∀ j, j < vs.length -> (w.cell? ⟨b, off + n * i0.size + j, none⟩).isSome = true) := by rw [hvl, hz5]; exact hsp
 have s2 : Hid (∀ j, j < vs.length -> w.frozen? ⟨b, off + n * i0.size + j, none⟩ = false) := by rw [hvl, hz5]; exact hfz
 clear hsp hfz hvs
 go_enter func66, ntmps66
 go_wp2_with (at_builtin; refine wpList_append_room_src _ rfl _ _ 24 24 rfl 83 i0 tSl hi0 b off n c rfl _ rfl m vs hsrc hroom s1.out s2.out ?_)
 go_ret
 exact ⟨rfl, rfl⟩
set_option maxRecDepth 1000000 in
theorem ins_end_grow_slices_Insert_Limpl_Cell_impl_Cell_mobo (base : Option Addr) (n c vb voff m vc : Nat) (cs vs : List Value) (w : World) (hm : 0 < m) (hnc : n <= c) (hroom : c < n + m) (hbig : (n + m) * 88 <= 140737488355328)
  (hcl : cs.length = n * 4) (hvl : vs.length = m * 4) (hnil : base = none -> n = 0)
  (hcs : ∀ a, base = some a -> ∀ j v, cs[j]? = some v -> w.cell? (a.add j) = some v)
  (hvs : ∀ j v, vs[j]? = some v -> w.cell? ⟨vb, voff + j, none⟩ = some v) (h1v : ∀ v ∈ vs, v.oneCell' = true) :
  Calls prog 66 #[.slice base n c, .int .i64 n, .slice (some ⟨vb, voff, none⟩) m vc] w fun e w' =>
   e = .returned (.slice (some ⟨w.heap.size, 0, none⟩) (n + m) (grownCap w (n + m) c 83)) /\
   w' = w.drew.alloc (.cells ((cs ++ vs).toArray ++ Builtin.zeroCells d83.zero.cells (grownCap w (n + m) c 83 - (n + m))) 83) := by
 have tSl : prog.underlying 24 = some (.slice 83) := by kernel_rfl
 have mixed : prog.follows .mixedOrders = true := by kernel_rfl
 obtain ⟨i0, hi0, hzs, hzb, hz0⟩ := (tok 83 d83 rfl).2.1
 have hzs : i0.size = 4 := hzs
 have hzb : i0.bytes = 88 := hzb
 have hz1 : ¬ ((m : Int) = 0) := by omega
 have hsrc : Src prog i0.size 24 (.slice (some ⟨vb, voff, none⟩) m vc) m vs w := Src.ofSlice w tSl ⟨vb, voff, none⟩ m vc vs (by rw [hzs]; exact hvl) (fun j u hj => by rw [Addr.add_lit]; exact hvs j u hj) h1v
 have hold : (Builtin.firstCells i0.size n (.slice base n c)).run prog w.drew = .ok cs.toArray w.drew := by
  rw [hzs]
  cases base with
  | none =>
   have h0 := hnil rfl
   subst h0
   have hc0 : cs.length = 0 := by rw [hcl, Nat.zero_mul]
   rw [List.length_eq_zero_iff.1 hc0]
   exact run_firstCells_none w.drew 4 0 0 c
  | some a => exact run_firstCells_some w.drew 4 n a n c cs hcl (fun j v hj => hcs a rfl j v hj)
 have hrun : ∀ ty, (Builtin.append_ #[24, 24] ty #[.slice base n c, .slice (some ⟨vb, voff, none⟩) m vc]).run prog w = _ := fun ty =>
  run_append_grow_src w 24 24 ty 83 i0 _ tSl hi0 hz0 base n c cs hold _ m vs hsrc hroom (by omega) (by rw [hzb]; exact growslice_fits hroom hbig)
 go_enter func66, ntmps66
 cases base with
 | none =>
  have h0 := hnil rfl
  subst h0
  go_wp2_with (at_builtin; refine Lib.wpList_append_run _ rfl _ _ _ _ rfl _ _ rfl rfl _ _ (hrun _) ?_)
  go_ret
  exact ⟨rfl, rfl⟩
 | some a =>
  obtain ⟨ab, ao, asp⟩ := a
  go_wp2_with (at_builtin; refine Lib.wpList_append_run _ rfl _ _ _ _ rfl _ _ rfl rfl _ _ (hrun _) ?_)
  all_goals (go_ret; exact ⟨rfl, rfl⟩)
set_option maxRecDepth 1000000 in
theorem ins_grow_slices_Insert_Limpl_Cell_impl_Cell_mobo (b off n c i vb voff m vc : Nat) (cs vs : List Value) (w : World) (hi : i < n) (hm : 0 < m) (hnc : n <= c) (hroom : c < n + m) (hbig : (n + m) * 88 <= 140737488355328)
  (hcl : cs.length = n * 4) (hvl : vs.length = m * 4)
  (hcs : ∀ j v, cs[j]? = some v -> w.cell? ⟨b, off + j, none⟩ = some v)
  (hvs : ∀ j v, vs[j]? = some v -> w.cell? ⟨vb, voff + j, none⟩ = some v) (h1c : ∀ v ∈ cs, v.oneCell' = true) (h1v : ∀ v ∈ vs, v.oneCell' = true) :
  Calls prog 66 #[.slice (some ⟨b, off, none⟩) n c, .int .i64 i, .slice (some ⟨vb, voff, none⟩) m vc] w fun e w' =>
   e = .returned (.slice (some ⟨w.heap.size, 0, none⟩) (n + m) (grownCap w (n + m) c 83)) /\
   w' = (((w.alloc (.cells ((cs.take (i * 4)).toArray ++ Builtin.zeroCells d83.zero.cells (n + m - i) ++ Builtin.zeroCells d83.zero.cells (grownCap w (n + m) c 83 - (n + m))) 83)).drew.setCells w.heap.size (i * 4) vs).drew).setCells w.heap.size ((i + m) * 4) (cs.drop (i * 4)) := by
 have tSl : prog.underlying 24 = some (.slice 83) := by kernel_rfl
 have t3 : prog.underlying 3 = some (.int .i64) := by kernel_rfl
 have mixed : prog.follows .mixedOrders = true := by kernel_rfl
 obtain ⟨i0, hi0, hzs, hzb, hz0⟩ := (tok 83 d83 rfl).2.1
 have hzs : i0.size = 4 := hzs
 have hzb : i0.bytes = 88 := hzb
 have hz5 : d83.zero.cells.size = 4 := by kernel_rfl
 have hz1 : ¬ ((m : Int) = 0) := by omega
 have hz2 : ¬ ((i : Int) = (n : Int)) := by omega
 have hz3 : (c : Int) < (n : Int) + (m : Int) := by omega
 have hsz : (prog.info? 83).map (·.size) = some 4 := by rw [hi0]; simp [hzs]
 have hbw : b < w.heap.size := block_lt_of_cell (hcs 0 _ (List.getElem?_eq_getElem (by omega)))
 have hvw : vb < w.heap.size := block_lt_of_cell (hvs 0 _ (List.getElem?_eq_getElem (by omega)))
 have hkk : (n : Int) + (m : Int) - (i : Int) = ((n + m - i : Nat) : Int) := by omega
 have hik : i + (n + m - i) = n + m := by omega
 have htl : (cs.take (i * 4)).length = i * 4 := by rw [List.length_take, hcl]; omega
 have hold : (Builtin.firstCells i0.size i (.slice (some ⟨b, off, none⟩) i c)).run prog w.drew = .ok (cs.take (i * 4)).toArray w.drew := by
  rw [hzs]
  exact run_firstCells_some w.drew 4 i ⟨b, off, none⟩ i c (cs.take (i * 4)) htl (fun j v hj => by
   rw [Addr.add_lit]
   rw [List.getElem?_take] at hj
   split at hj
   ·exact hcs j v hj
   ·cases hj)
 have hrz : ∀ ty, (Builtin.append_ #[24, 3] ty #[.slice (some ⟨b, off, none⟩) i c, .int .i64 ((n : Int) + (m : Int) - (i : Int))]).run prog w =
   .ok (.slice (some ⟨w.heap.size, 0, none⟩) (n + m) (grownCap w (n + m) c 83)) (w.drew.alloc (.cells ((cs.take (i * 4)).toArray ++ Builtin.zeroCells d83.zero.cells (n + m - i) ++ Builtin.zeroCells d83.zero.cells (grownCap w (n + m) c 83 - (n + m))) 83)) := fun ty => by
  have h := Lib.run_append_grow_zeros w 24 3 ty 83 i0 _ .i64 .i64 tSl t3 hi0 hz0 (some ⟨b, off, none⟩) i c (cs.take (i * 4)) hold (n + m - i) (by omega) (by omega) (by omega) (by omega) (by rw [hzb]; omega) (by rw [hzb, hik]; exact growslice_fits hroom hbig)
  rw [hik] at h
  rw [hkk]
  exact h
 obtain ⟨G, hG⟩ : ∃ G, G = grownCap w (n + m) c 83 := ⟨_, rfl⟩
 obtain ⟨ROW, hROW⟩ : ∃ ROW : Array Value, ROW = (cs.take (i * 4)).toArray ++ Builtin.zeroCells d83.zero.cells (n + m - i) ++ Builtin.zeroCells d83.zero.cells (G - (n + m)) := ⟨_, rfl⟩
 rw [<- hG] at hrz ⊢
 rw [<- hROW] at hrz ⊢
 have hRl : (n + m) * 4 <= ROW.size := by
  rw [hROW, Array.size_append, Array.size_append, size_zeroCells, size_zeroCells, hz5, List.size_toArray, htl]
  omega
 obtain ⟨W1, hW1⟩ : ∃ W1, W1 = w.drew.alloc (.cells ROW 83) := ⟨_, rfl⟩
 rw [<- hW1] at hrz
 have hN : ∀ j, j < (n + m) * 4 -> (W1.cell? ⟨w.heap.size, j, none⟩).isSome = true := fun j hj => by
  rw [hW1, World.cell?_alloc_at (w := w.drew) ROW _ w.heap.size j rfl, Array.getElem?_eq_getElem (by omega)]; rfl
 have hNf : ∀ j, W1.frozen? ⟨w.heap.size, j, none⟩ = false := fun j => by rw [hW1]; exact World.frozen?_alloc_at (w := w.drew) ROW _ w.heap.size j rfl
 have hOb : ∀ j v, w.cell? ⟨b, j, none⟩ = some v -> W1.cell? ⟨b, j, none⟩ = some v := fun j v h => by rw [hW1, World.cell?_alloc_past (w := w.drew) _ b j hbw]; exact h
 have hOv : ∀ j v, w.cell? ⟨vb, j, none⟩ = some v -> W1.cell? ⟨vb, j, none⟩ = some v := fun j v h => by rw [hW1, World.cell?_alloc_past (w := w.drew) _ vb j hvw]; exact h
 have hcpA : ∀ (W : World), (∀ x, W.cell? x = W1.cell? x) -> (∀ x, W.frozen? x = W1.frozen? x) -> ∀ ty dc, (Builtin.copy_ #[24, 24] ty #[.slice (some ⟨w.heap.size, i * 4, none⟩) (n + m - i) dc, .slice (some ⟨vb, voff, none⟩) m vc]).run prog W = .ok (goInt (Nat.min m (n + m - i))) (W.setCells w.heap.size (i * 4) vs) := fun W hWc hWf ty dc =>
  run_copy_cellsN 4 W _ _ ty 83 w.heap.size (i * 4) (n + m - i) dc ⟨vb, voff, none⟩ m vc vs tSl hsz (by rw [hvl, show Nat.min m (n + m - i) = m by simp only [Nat.min_def]; split <;> omega])
   (fun j v hj => by rw [Addr.add_lit, hWc]; exact hOv _ v (hvs j v hj))
   (fun j hj => by rw [hWc]; exact hN _ (by omega)) (fun j hj => by rw [hWf]; exact hNf _) h1v
 have hGn : n + m <= G := by rw [hG]; exact grownCap_ge w _ _ _
 have hG63 : G <= 9223372036854775807 := by
  have := grownCap_le_maxLen w (n + m) c 83 (by unfold maxLen; omega)
  rw [<- hG] at this
  unfold maxLen at this
  omega
 have hGi : ¬ (G = i) := by omega
 have hGim : ¬ (G = i + m) := by omega
 have hci : ¬ (c = i) := by omega
 have hbN : b ≠ w.heap.size := by omega
 have hdl : (cs.drop (i * 4)).length = (n - i) * 4 := by rw [List.length_drop, hcl, Nat.sub_mul]
 have hcpB : ∀ (W : World), (∀ x, W.cell? x = (W1.setCells w.heap.size (i * 4) vs).cell? x) -> (∀ x, W.frozen? x = (W1.setCells w.heap.size (i * 4) vs).frozen? x) -> ∀ ty dc sc, (Builtin.copy_ #[24, 24] ty #[.slice (some ⟨w.heap.size, (i + m) * 4, none⟩) (n + m - (i + m)) dc, .slice (some ⟨b, off + i * 4, none⟩) (n - i) sc]).run prog W = .ok (goInt (Nat.min (n - i) (n + m - (i + m)))) (W.setCells w.heap.size ((i + m) * 4) (cs.drop (i * 4))) := fun W hWc hWf ty dc sc =>
  run_copy_cellsN 4 W _ _ ty 83 w.heap.size ((i + m) * 4) (n + m - (i + m)) dc ⟨b, off + i * 4, none⟩ (n - i) sc (cs.drop (i * 4)) tSl hsz (by rw [hdl, show Nat.min (n - i) (n + m - (i + m)) = n - i by simp only [Nat.min_def]; split <;> omega])
   (fun j v hj => by
    rw [Addr.add_lit, hWc, World.cell?_setCells_out _ _ _ _ _ (fun h _ => absurd h hbN), Nat.add_assoc]
    exact hOb _ v (hcs (i * 4 + j) v (by rwa [List.getElem?_drop] at hj)))
   (fun j hj => by rw [hWc]; exact isSome_setCells _ _ _ _ (fun t ht => hN _ (by omega)) _ (hN _ (by omega)))
   (fun j hj => by rw [hWf, World.frozen?_setCells]; exact hNf _) (fun v hv => h1c v (List.mem_of_mem_drop hv))
 subst hW1
 have hE1 : ∀ x, ((w.alloc (.cells ROW 83)).drew).cell? x = (w.drew.alloc (.cells ROW 83)).cell? x := fun x => rfl
 have hE2 : ∀ x, ((w.alloc (.cells ROW 83)).drew).frozen? x = (w.drew.alloc (.cells ROW 83)).frozen? x := fun x => rfl
 have hF1 : ∀ x, (((w.alloc (.cells ROW 83)).drew.setCells w.heap.size (i * 4) vs).drew).cell? x = ((w.drew.alloc (.cells ROW 83)).setCells w.heap.size (i * 4) vs).cell? x := fun x => rfl
 have hF2 : ∀ x, (((w.alloc (.cells ROW 83)).drew.setCells w.heap.size (i * 4) vs).drew).frozen? x = ((w.drew.alloc (.cells ROW 83)).setCells w.heap.size (i * 4) vs).frozen? x := fun x => rfl
 have hw1 : IntKind.i64.wrap ((i : Int) + (m : Int)) = (i : Int) + (m : Int) := by rw [IntKind.wrap_i64]; omega
 have hb1 : (0 : Int) <= (i : Int) + (m : Int) := by omega
 have hin : i <= n := by omega
 have htn : ((i : Int) + (m : Int)).toNat = i + m := by omega
 have hb3 : (i : Int) <= (n : Int) := by omega
 clear hkk hik hold hROW hG hRl hcs hvs h1c h1v hN hNf hOb hOv htl hdl
 go_enter func66, ntmps66
 go_wp2_with (first
  | (at_builtin; refine Lib.wpList_append_run _ rfl _ _ _ _ rfl _ _ rfl rfl _ _ (hrz _) ?_)
  | (at_builtin; refine wpList_copy_runI _ rfl _ _ 24 24 rfl _ _ rfl rfl (hcpA _ hE1 hE2 _ _) ?_)
  | (at_builtin; refine wpList_copy_runI _ rfl _ _ 24 24 rfl _ _ rfl rfl (hcpB _ (fun _ => rfl) (fun _ => rfl) _ _ _) ?_))
 go_region_law_o (refine step_copy_runI rfl _ _ 24 24 rfl (.slice (some ⟨w.heap.size, (i + m) * 4, none⟩) (n + m - (i + m)) (G - (i + m))) (.slice (some ⟨b, off + i * 4, none⟩) (n - i) (c - i)) (by simp [Act.eval, Act.put]) (by simp [Act.eval, Act.put]) (hcpB _ hF1 hF2 3 (G - (i + m)) (c - i)) ?_)
 go_wp2
 go_ret
 exact ⟨rfl, rfl⟩
theorem calls_slices_Insert_Limpl_Cell_impl_Cell_mobo (old : Option (Nat × Nat)) (y : Value) (n cap i vb voff m vc : Nat) (cs vs : List Value) (w : World)
  (hold : (old = none /\ n = 0 /\ cap = 0 /\ ∃ ad, y = .slice ad 0 0) \/ ∃ b off C t, old = some (b, off) /\ y = .slice (some ⟨b, off, none⟩) n cap /\ n <= cap /\ w.heap[b]? = some (.cells C t (0, 0)) /\ off + cap * 4 <= C.size /\ (∀ (q : Nat) u, C[q]? = some u -> u.oneCell' = true) /\ (∀ q, q < n * 4 -> C[off + q]? = cs[q]?) /\ vb ≠ b)
  (hi : i <= n) (hm : 0 < m) (hbig : (n + m) * 88 <= 140737488355328) (hcl : cs.length = n * 4) (hvl : vs.length = m * 4) (hvb : ∃ C2 t2, w.heap[vb]? = some (.cells C2 t2 (0, 0)) /\ ∀ q, q < m * 4 -> C2[voff + q]? = vs[q]?) (h1c : ∀ u ∈ cs, u.oneCell' = true) (h1v : ∀ u ∈ vs, u.oneCell' = true) :
  Calls prog 66 #[y, .int .i64 i, .slice (some ⟨vb, voff, none⟩) m vc] w (Inserted w old 4 (n + m) (cs.take (i * 4) ++ vs ++ cs.drop (i * 4))) := by
 obtain ⟨C2, t2, hC2, hvs⟩ := hvb
 have hvcell : ∀ j v, vs[j]? = some v -> w.cell? ⟨vb, voff + j, none⟩ = some v := fun j v h => by
  rw [cell_at hC2, hvs j (by have := (List.getElem?_eq_some_iff.1 h).1; omega)]; exact h
 have hz5 : d83.zero.cells.size = 4 := by kernel_rfl
 have hz1 : ∀ k, ∀ v ∈ (Builtin.zeroCells d83.zero.cells k).toList, v.oneCell' = true := fun k => zeroCells_one _ (fun v hv => by
  have := Array.all_eq_true_iff_forall_mem.1 (show d83.zero.cells.all Value.oneCell' = true by kernel_rfl) v hv
  exact this) _
 have hzn : ∀ k, (Builtin.zeroCells d83.zero.cells k).size = k * 4 := fun k => by rw [size_zeroCells, hz5]
 rcases hold with ⟨ho, h0, hc, ad, rfl⟩ | ⟨b, off, C, t, ho, rfl, hnc, hC, hCs, h1C, hcs, hne⟩
 ·subst h0; subst hc
  obtain rfl : i = 0 := by omega
  have hcs0 : cs = [] := List.length_eq_zero_iff.1 (by omega)
  subst hcs0
  refine (ins_end_grow_slices_Insert_Limpl_Cell_impl_Cell_mobo ad 0 0 vb voff m vc [] vs w hm (Nat.le_refl _) (by omega) hbig hcl hvl (fun _ => rfl) (fun a _ j v h => by simp at h) hvcell h1v).mono ?_
  rintro e w' ⟨rfl, rfl⟩
  exact ins_post_endgrow hcl hvl h1v h1c (grownCap_ge _ _ _ _) (hzn _) (hz1 _)
 ·subst ho
  have hccell : ∀ j v, cs[j]? = some v -> w.cell? ⟨b, off + j, none⟩ = some v := fun j v h => by
   rw [cell_at hC, hcs j (by have := (List.getElem?_eq_some_iff.1 h).1; omega)]; exact h
  by_cases hroom : n + m <= cap
  ·have hsp : ∀ j, j < (n + m) * 4 -> (w.cell? ⟨b, off + j, none⟩).isSome = true := fun j hj => by
    rw [cell_at hC, Array.getElem?_eq_getElem (by omega)]; rfl
   by_cases hin : i = n
   ·subst hin
    refine (ins_end_room_slices_Insert_Limpl_Cell_impl_Cell_mobo b off i cap vb voff m vc vs w hm hroom (by omega) hvl (fun j hj => by rw [Nat.add_assoc]; exact hsp _ (by omega)) (fun j hj => frozen_of hC _) hvcell h1v).mono ?_
    rintro e w' ⟨rfl, rfl⟩
    exact ins_post_end hC hCs h1C hcs hcl hvl h1v hroom
   ·refine (ins_shift_slices_Insert_Limpl_Cell_impl_Cell_mobo b off n cap i vb voff m vc cs vs w (by omega) hm hroom (by omega) hne hcl hvl hccell hsp (fun j hj => frozen_of hC _) hvcell h1c h1v t2 t C2.size C.size (by simp [World.shape?, hC2]) (by simp [World.shape?, hC]) (by omega) (frozen_of hC2 _) (frozen_of hC2 _)).mono ?_
    rintro e w' ⟨rfl, rfl⟩
    exact ins_post_shift hC hCs h1C hcs hcl hvl h1v h1c hi hroom
  ·by_cases hin : i = n
   ·subst hin
    refine (ins_end_grow_slices_Insert_Limpl_Cell_impl_Cell_mobo (some ⟨b, off, none⟩) i cap vb voff m vc cs vs w hm hnc (by omega) hbig hcl hvl (fun h => by cases h) (fun a h j v hv => by injection h with h; subst h; rw [Addr.add_lit]; exact hccell j v hv) hvcell h1v).mono ?_
    rintro e w' ⟨rfl, rfl⟩
    exact ins_post_endgrow hcl hvl h1v h1c (grownCap_ge _ _ _ _) (hzn _) (hz1 _)
   ·refine (ins_grow_slices_Insert_Limpl_Cell_impl_Cell_mobo b off n cap i vb voff m vc cs vs w (by omega) hm hnc (by omega) hbig hcl hvl hccell hvcell h1c h1v).mono ?_
    rintro e w' ⟨rfl, rfl⟩
    exact ins_post_grow hcl hvl h1v h1c hi (grownCap_ge _ _ _ _) (hzn _) (hzn _) (hz1 _) (hz1 _)
end
/-- slices.Insert[[]loop.example/g00890/impl.Cell,loop.example/g00890/impl.Cell] -/
def Fq29 (a0 : List TC) (a1 : Int) (a2 : List TC) : Option (List TC) :=
 if 0 <= a1 /\ a1 <= (a0.length : Int) /\ 0 < a2.length /\ (a0.length + a2.length) * 88 <= 140737488355328 then some (a0.take a1.toNat ++ a2 ++ a0.drop a1.toNat) else none
theorem runq29 (a0 : List TC) (a1 : Int) (a2 : List TC) (r : List TC) (h : Fq29 a0 a1 a2 = some r) : Fun prog 66 [.c (.os 5 0 (len a0)), .c (wi a1), .c (.os 7 0 (len a2))] [(5, .arr .rw [] (len a0) 4 (row gd (oC len gd) a0)), (7, .arr .rw [] (len a2) 4 (row gd (oC len gd) a2))] (.c (.os 64000 0 (len r))) [(64000, .arr .rw [] (len r) 4 (row gd (oC len gd) r))] true := by
 unfold Fq29 at h
 split at h
 ·rename_i h1
  injection h with h
  subst h
  obtain ⟨i, rfl⟩ : ∃ i : Nat, a1 = i := ⟨a1.toNat, by omega⟩
  rw [Int.toNat_natCast]
  have e : len (a0.take i ++ a2 ++ a0.drop i) = len a0 + len a2 := by
   show List.length _ = List.length _ + List.length _
   rw [List.length_append, List.length_append, List.length_take, List.length_drop]; omega
  rw [e]
  exact Fun.insert func66 (by kernel_rfl) (by kernel_rfl) 4 88 (fun old y n cap i vb voff m vc cs vs w h1 h2 h3 h4 h5 h6 h7 h8 h9 => calls_slices_Insert_Limpl_Cell_impl_Cell_mobo old y n cap i vb voff m vc cs vs w h1 h2 h3 h4 h5 h6 h7 h8 h9) (len a0) i (len a2) _ _ _ (show i <= a0.length by omega) (show 0 < a2.length by omega) (show (a0.length + a2.length) * 88 <= _ by omega)
   (fun t ht q hq => by
    show oC len gd (gd _ t) q = if t < i then oC len gd (gd a0 t) q else if t < i + a2.length then oC len gd (gd a2 (t - i)) q else oC len gd (gd a0 (t - a2.length)) q
    rw [ins_get a0 a2 i t (by omega)]
    split
    ·rfl
    ·split <;> rfl) (fun t q => rC _ _) (fun t q => rC _ _) (fun t q => fl_oncCell _ _)
 ·cases h

def Lq20_x34 (a0 : TL) (a1 : Int) (a2 : Int) (v1 : Int) (v2 : List TC) (w30 : Int) : (Int × (List TI)) -> Option ((Int × (List TI)) ⊕ (((List TC)))) := fun x34 =>
 letO x34.1 fun v32 =>
 letO x34.2 fun v33 =>
 br (std.lt v32 w30)
 (((
 req (std.inR v32 (len (gd v2 (std.nadd 0 (std.toN v1))).fI)) <|
 some (std.le a1 (gd v33 (std.nadd 0 (std.toN v32))).fc)
 ) : Option (Bool)).bind fun y46 =>
 letO y46 fun w52 =>
 ((
 br w52
 (((
 req (std.inR v32 (len (gd v2 (std.nadd 0 (std.toN v1))).fI)) <|
 req (std.inR v32 (len (gd v2 (std.nadd 0 (std.toN v1))).fI)) <|
 req (len (gd v2 (std.nadd 0 (std.toN v1))).fI = len v33) <|
 letO (List.set v33 (std.nadd 0 (std.toN v32)) (TI.mk (std.add .i64 (gd v33 (std.nadd 0 (std.toN v32))).fc a2) (gd v33 (std.nadd 0 (std.toN v32))).fp (gd v33 (std.nadd 0 (std.toN v32))).fK (gd v33 (std.nadd 0 (std.toN v32))).fR (gd v33 (std.nadd 0 (std.toN v32))).fu (gd v33 (std.nadd 0 (std.toN v32))).fv)) fun l70 =>
 some l70
 ) : Option ((List TI))).bind fun y61 =>
 letO y61 fun w67 =>
 some w67)
 (some v33)
 ) : Option ((List TI))).bind fun y54 =>
 letO y54 fun w60 =>
 some (.inl (std.add .i64 v32 1, w60)))
 (req (len (gd v2 (std.nadd 0 (std.toN v1))).fI = len v33) <|
 req (len a0.fC = len v2) <|
 letO (List.set v2 (std.nadd 0 (std.toN v1)) (TC.mk (gd v2 (std.nadd 0 (std.toN v1))).fN (gd v2 (std.nadd 0 (std.toN v1))).fS (gd v2 (std.nadd 0 (std.toN v1))).fL v33)) fun l74 =>
 some (.inr l74))
def Lq20_x3 (a0 : TL) (a1 : Int) (a2 : Int) : (Int × (List TC)) -> Option ((Int × (List TC)) ⊕ (((List TC)))) := fun x3 =>
 letO x3.1 fun v1 =>
 letO x3.2 fun v2 =>
 br (std.lt v1 (std.ofN (len a0.fC)))
 (((
 req (std.inR v1 (len a0.fC)) <|
 some ((gd v2 (std.nadd 0 (std.toN v1))).fN)
 ) : Option (ByteArray)).bind fun y15 =>
 letO y15 fun w21 =>
 req (std.inR v1 (len a0.fC)) <|
 ((
 some (std.ofN (len (gd v2 (std.nadd 0 (std.toN v1))).fI), 0)
 ) : Option (Int × Int)).bind fun y24 =>
 letO y24.1 fun w30 =>
 letO y24.2 fun w31 =>
 (whileP (σ := Int × (List TI)) (ρ := ((List TC))) (Lq20_x34 a0 a1 a2 v1 v2 w30) (w31, (gd v2 (std.nadd 0 (std.toN v1))).fI)).bind fun y35 =>
 letO y35 fun y35k0 =>
 letO y35k0 fun w77 =>
 some (.inl (std.add .i64 v1 1, w77)))
 (some (.inr v2))
/-- impl.renumber -/
def Fq20 (a0 : TL) (a1 : Int) (a2 : Int) : Option (List TC) :=
 (whileP (σ := Int × (List TC)) (ρ := ((List TC))) (Lq20_x3 a0 a1 a2) (0, a0.fC)).bind fun y4 =>
 letO y4 fun y4k0 =>
 letO y4k0 fun w79 =>
 req (len a0.fC = len w79) <|
 some w79
theorem runq20 (a0 : TL) (a1 : Int) (a2 : Int) (r : List TC) (h : Fq20 a0 a1 a2 = some r) : Fun prog 67 [.agg [.os 5 0 (len a0.fC)], .c (wi a1), .c (wi a2)] [(5, .arr .rw [] (len a0.fC) 4 (row gd (oC len gd) a0.fC))] (.tup []) [(5, .arr .rw [] (len r) 4 (row gd (oC len gd) r))] true := by
 refine ow [3, 4, 7, 8, 100029] func67 ntmps67 ?_ (hw := ⟨fun i _ j _ k hk => (noref (rC _ _) hk).elim, tv⟩) (hv := (fun _ => ⟨(by simp [AV.flat, AV.flat1, AC.flat]), ⟨fun i _ j _ => fl_oncCell _ _, tv⟩⟩)); unfold Fq20 at h; unfold Lq20_x3 at h; unfold Lq20_x34 at h
 generalize hU : @len = U_, hG_ : @gd = G_, hA : std = A, hP : prog = P at *; cbv
 revert h; refine ln (.exit 0) (fun x => (sp 42 [(1, .c (wi a1)), (2, .c (wi a2)), (10, .c (.os 5 0 (U_ a0.fC))), (11, .c (wi (A.ofN (U_ a0.fC)))), (12, .c (wi x.1))] [(5, .arr .rw [] (U_ a0.fC) 4 (row G_ (oC U_ G_) x.2))])) (fun w => (sp 42 [] [(5, .arr .rw [] (U_ a0.fC) 4 (row G_ (oC U_ G_) w))])) zb ?_ ?_
 ·rintro ⟨v1, v2⟩ z h K hK hY; replace h := oz (oz h); dsimp only at h; cbv; revert h; refine fk ?_ ?_ <;> intro h <;> cbv
  ·revert h; refine cu (fun y15 => (sp 42 [(1, .c (wi a1)), (2, .c (wi a2)), (7, .c (.ptr 448 0)), (10, .c (.os 5 0 (U_ a0.fC))), (11, .c (wi (A.ofN (U_ a0.fC)))), (12, .c (wi v1))] [(448, .var [ws y15, .os 964 0 (U_ (G_ v2 (A.nadd 0 (A.toN v1))).fS), .os 966 0 (U_ (G_ v2 (A.nadd 0 (A.toN v1))).fL), .os 968 0 (U_ (G_ v2 (A.nadd 0 (A.toN v1))).fI)]), (5, .arr .rw [964, 966, 968] (U_ a0.fC) 4 (pC (row G_ (oC U_ G_) v2) (A.nadd 0 (A.toN v1)) [ws (G_ v2 (A.nadd 0 (A.toN v1))).fN, .os 964 0 (U_ (G_ v2 (A.nadd 0 (A.toN v1))).fS), .os 966 0 (U_ (G_ v2 (A.nadd 0 (A.toN v1))).fL), .os 968 0 (U_ (G_ v2 (A.nadd 0 (A.toN v1))).fI)])), (964, .arr .rw [] (U_ (G_ v2 (A.nadd 0 (A.toN v1))).fS) 5 (row G_ (eS) (G_ v2 (A.nadd 0 (A.toN v1))).fS)), (966, .arr .rw [] (U_ (G_ v2 (A.nadd 0 (A.toN v1))).fL) 4 (row G_ (eL_0) (G_ v2 (A.nadd 0 (A.toN v1))).fL)), (968, .arr .rw [] (U_ (G_ v2 (A.nadd 0 (A.toN v1))).fI) 8 (row G_ (eI) (G_ v2 (A.nadd 0 (A.toN v1))).fI))])) ?_ fun w21 => rz fun h => ?_
   ·intro y15 S hS h; cbv; revert h; refine ra fun c22 h => ?_; refine ai c22 ?_
    refine ⟨_, rfl, _, (pC (row G_ (oC U_ G_) v2) (A.nadd 0 (A.toN v1)) [ws (G_ v2 (A.nadd 0 (A.toN v1))).fN, .os 964 0 (U_ (G_ v2 (A.nadd 0 (A.toN v1))).fS), .os 966 0 (U_ (G_ v2 (A.nadd 0 (A.toN v1))).fL), .os 968 0 (U_ (G_ v2 (A.nadd 0 (A.toN v1))).fI)]), rfl, wO (patch_of zr), ?_⟩
    refine ⟨_, row G_ (eS) (G_ v2 (A.nadd 0 (A.toN v1))).fS, rfl, wO (fun i _ j _ => plain_cp (pl_encShape _ _)), ?_⟩; refine ⟨_, row G_ (eL_0) (G_ v2 (A.nadd 0 (A.toN v1))).fL, rfl, wO (fun i _ j _ => plain_cp (pl_encLabel _ _)), ?_⟩; refine ⟨_, row G_ (eI) (G_ v2 (A.nadd 0 (A.toN v1))).fI, rfl, wO (fun i _ j _ => plain_cp (pl_encInstance _ _)), ?_⟩; cbv
    exact dn
   revert h; refine rq fun c23 h => ?_; cbv
   revert h; refine cu (fun y24 => (sp 42 [(1, .c (wi a1)), (2, .c (wi a2)), (7, .c (.ptr 448 0)), (10, .c (.os 5 0 (U_ a0.fC))), (11, .c (wi (A.ofN (U_ a0.fC)))), (12, .c (wi v1)), (18, .c (wi y24.1)), (19, .c (wi y24.2))] [(448, .var [ws w21, .os 964 0 (U_ (G_ v2 (A.nadd 0 (A.toN v1))).fS), .os 966 0 (U_ (G_ v2 (A.nadd 0 (A.toN v1))).fL), .os 968 0 (U_ (G_ v2 (A.nadd 0 (A.toN v1))).fI)]), (5, .arr .rw [964, 966, 968] (U_ a0.fC) 4 (pC (row G_ (oC U_ G_) v2) (A.nadd 0 (A.toN v1)) [ws (G_ v2 (A.nadd 0 (A.toN v1))).fN, .os 964 0 (U_ (G_ v2 (A.nadd 0 (A.toN v1))).fS), .os 966 0 (U_ (G_ v2 (A.nadd 0 (A.toN v1))).fL), .os 968 0 (U_ (G_ v2 (A.nadd 0 (A.toN v1))).fI)])), (964, .arr .rw [] (U_ (G_ v2 (A.nadd 0 (A.toN v1))).fS) 5 (row G_ (eS) (G_ v2 (A.nadd 0 (A.toN v1))).fS)), (966, .arr .rw [] (U_ (G_ v2 (A.nadd 0 (A.toN v1))).fL) 4 (row G_ (eL_0) (G_ v2 (A.nadd 0 (A.toN v1))).fL)), (968, .arr .rw [] (U_ (G_ v2 (A.nadd 0 (A.toN v1))).fI) 8 (row G_ (eI) (G_ v2 (A.nadd 0 (A.toN v1))).fI))])) (fun y24 S hS h => rg) ?_
   rintro ⟨w30, w31⟩ h; replace h := oz (oz h); dsimp only at h; cbv
   revert h; refine ln (.exit 2) (fun x => (sp 42 [(1, .c (wi a1)), (2, .c (wi a2)), (7, .c (.ptr 448 0)), (10, .c (.os 5 0 (U_ a0.fC))), (11, .c (wi (A.ofN (U_ a0.fC)))), (12, .c (wi v1)), (18, .c (wi w30)), (19, .c (wi x.1))] [(448, .var [ws w21, .os 964 0 (U_ (G_ v2 (A.nadd 0 (A.toN v1))).fS), .os 966 0 (U_ (G_ v2 (A.nadd 0 (A.toN v1))).fL), .os 968 0 (U_ (G_ v2 (A.nadd 0 (A.toN v1))).fI)]), (5, .arr .rw [964, 966, 968] (U_ a0.fC) 4 (pC (row G_ (oC U_ G_) v2) (A.nadd 0 (A.toN v1)) [ws (G_ v2 (A.nadd 0 (A.toN v1))).fN, .os 964 0 (U_ (G_ v2 (A.nadd 0 (A.toN v1))).fS), .os 966 0 (U_ (G_ v2 (A.nadd 0 (A.toN v1))).fL), .os 968 0 (U_ (G_ v2 (A.nadd 0 (A.toN v1))).fI)])), (964, .arr .rw [] (U_ (G_ v2 (A.nadd 0 (A.toN v1))).fS) 5 (row G_ (eS) (G_ v2 (A.nadd 0 (A.toN v1))).fS)), (966, .arr .rw [] (U_ (G_ v2 (A.nadd 0 (A.toN v1))).fL) 4 (row G_ (eL_0) (G_ v2 (A.nadd 0 (A.toN v1))).fL)), (968, .arr .rw [] (U_ (G_ v2 (A.nadd 0 (A.toN v1))).fI) 8 (row G_ (eI) x.2))])) (fun w => (sp 42 [(1, .c (wi a1)), (2, .c (wi a2)), (10, .c (.os 5 0 (U_ a0.fC))), (11, .c (wi (A.ofN (U_ a0.fC)))), (12, .c (wi v1))] [(5, .arr .rw [] (U_ a0.fC) 4 (row G_ (oC U_ G_) w))])) zb ?_ ?_
   ·rintro ⟨v32, v33⟩ z h K hK hY; replace h := oz (oz h); dsimp only at h; cbv; revert h; refine fk ?_ ?_ <;> intro h <;> cbv
    ·revert h; refine cu (fun y46 => (sp 42 [(1, .c (wi a1)), (2, .c (wi a2)), (7, .c (.ptr 448 0)), (8, .c (wi v32)), (10, .c (.os 5 0 (U_ a0.fC))), (11, .c (wi (A.ofN (U_ a0.fC)))), (12, .c (wi v1)), (18, .c (wi w30)), (19, .c (wi v32)), (29, .c (.v (.bool y46)))] [(448, .var [ws w21, .os 964 0 (U_ (G_ v2 (A.nadd 0 (A.toN v1))).fS), .os 966 0 (U_ (G_ v2 (A.nadd 0 (A.toN v1))).fL), .os 968 0 (U_ (G_ v2 (A.nadd 0 (A.toN v1))).fI)]), (5, .arr .rw [964, 966, 968] (U_ a0.fC) 4 (pC (row G_ (oC U_ G_) v2) (A.nadd 0 (A.toN v1)) [ws (G_ v2 (A.nadd 0 (A.toN v1))).fN, .os 964 0 (U_ (G_ v2 (A.nadd 0 (A.toN v1))).fS), .os 966 0 (U_ (G_ v2 (A.nadd 0 (A.toN v1))).fL), .os 968 0 (U_ (G_ v2 (A.nadd 0 (A.toN v1))).fI)])), (964, .arr .rw [] (U_ (G_ v2 (A.nadd 0 (A.toN v1))).fS) 5 (row G_ (eS) (G_ v2 (A.nadd 0 (A.toN v1))).fS)), (966, .arr .rw [] (U_ (G_ v2 (A.nadd 0 (A.toN v1))).fL) 4 (row G_ (eL_0) (G_ v2 (A.nadd 0 (A.toN v1))).fL)), (968, .arr .rw [] (U_ (G_ v2 (A.nadd 0 (A.toN v1))).fI) 8 (row G_ (eI) v33))])) ?_ fun w52 => rz fun h => ?_
     ·intro y46 S hS h; cbv; revert h; refine ra fun c53 h => ?_; refine ai c53 ?_; exact dn
     cbv
     revert h; refine cu (fun y54 => some (sp 42 [(1, .c (wi a1)), (2, .c (wi a2)), (7, .c (.ptr 448 0)), (10, .c (.os 5 0 (U_ a0.fC))), (11, .c (wi (A.ofN (U_ a0.fC)))), (12, .c (wi v1)), (18, .c (wi w30)), (19, .c (wi v32))] [(448, .var [ws w21, .os 964 0 (U_ (G_ v2 (A.nadd 0 (A.toN v1))).fS), .os 966 0 (U_ (G_ v2 (A.nadd 0 (A.toN v1))).fL), .os 968 0 (U_ (G_ v2 (A.nadd 0 (A.toN v1))).fI)]), (5, .arr .rw [964, 966, 968] (U_ a0.fC) 4 (pC (row G_ (oC U_ G_) v2) (A.nadd 0 (A.toN v1)) [ws (G_ v2 (A.nadd 0 (A.toN v1))).fN, .os 964 0 (U_ (G_ v2 (A.nadd 0 (A.toN v1))).fS), .os 966 0 (U_ (G_ v2 (A.nadd 0 (A.toN v1))).fL), .os 968 0 (U_ (G_ v2 (A.nadd 0 (A.toN v1))).fI)])), (964, .arr .rw [] (U_ (G_ v2 (A.nadd 0 (A.toN v1))).fS) 5 (row G_ (eS) (G_ v2 (A.nadd 0 (A.toN v1))).fS)), (966, .arr .rw [] (U_ (G_ v2 (A.nadd 0 (A.toN v1))).fL) 4 (row G_ (eL_0) (G_ v2 (A.nadd 0 (A.toN v1))).fL)), (968, .arr .rw [] (U_ (G_ v2 (A.nadd 0 (A.toN v1))).fI) 8 (row G_ (eI) y54))])) ?_ fun w60 => rz fun h => ?_
     ·intro y54 S hS h; cbv; revert h; refine fk ?_ ?_ <;> intro h <;> cbv
      ·revert h; refine cu (fun y61 => (sp 42 [(1, .c (wi a1)), (2, .c (wi a2)), (7, .c (.ptr 448 0)), (10, .c (.os 5 0 (U_ a0.fC))), (11, .c (wi (A.ofN (U_ a0.fC)))), (12, .c (wi v1)), (18, .c (wi w30)), (19, .c (wi v32))] [(448, .var [ws w21, .os 964 0 (U_ (G_ v2 (A.nadd 0 (A.toN v1))).fS), .os 966 0 (U_ (G_ v2 (A.nadd 0 (A.toN v1))).fL), .os 968 0 (U_ (G_ v2 (A.nadd 0 (A.toN v1))).fI)]), (5, .arr .rw [964, 966, 968] (U_ a0.fC) 4 (pC (row G_ (oC U_ G_) v2) (A.nadd 0 (A.toN v1)) [ws (G_ v2 (A.nadd 0 (A.toN v1))).fN, .os 964 0 (U_ (G_ v2 (A.nadd 0 (A.toN v1))).fS), .os 966 0 (U_ (G_ v2 (A.nadd 0 (A.toN v1))).fL), .os 968 0 (U_ (G_ v2 (A.nadd 0 (A.toN v1))).fI)])), (964, .arr .rw [] (U_ (G_ v2 (A.nadd 0 (A.toN v1))).fS) 5 (row G_ (eS) (G_ v2 (A.nadd 0 (A.toN v1))).fS)), (966, .arr .rw [] (U_ (G_ v2 (A.nadd 0 (A.toN v1))).fL) 4 (row G_ (eL_0) (G_ v2 (A.nadd 0 (A.toN v1))).fL)), (968, .arr .rw [] (U_ (G_ v2 (A.nadd 0 (A.toN v1))).fI) 8 (row G_ (eI) y61))])) ?_ fun w67 => rz fun h => ?_
       ·intro y61 S hS h; cbv; revert h; refine ra fun c68 h => ?_; refine ai c68 ?_; revert h; refine ra fun c69 h => ?_; revert h; refine rq fun c71 => rl fun l70 hl70 h => ?_; refine ai c69 ?_; refine ⟨_, rfl, _, row G_ (eI) l70, rfl, wO (us hA hU hG_ hl70 c69 c71), ?_⟩; cbv; exact dn
       cbv; exact dn
      exact dn
     cbv; exact dm
    revert h; refine rq fun c73 => rq fun c75 => rl fun l74 hl74 h => ?_; injection h with h; refine hY _ h.symm _ ?_; refine St.le_trans (le_foldP 5 1 964 rfl rfl rfl (by decide) (by subst hA; exact ix_ c23) (by decide) rfl (fun _ _ => rC _ _)) ?_; refine St.le_trans (le_foldP 5 2 966 rfl rfl rfl (by decide) (by subst hA; exact ix_ c23) (by decide) rfl (fun _ _ => rC _ _)) ?_
    refine St.le_trans (le_foldP 5 3 968 rfl rfl rfl (by decide) (by subst hA; exact ix_ c23) (by decide) rfl (fun _ _ => rC _ _)) ?_; exact lsp rfl zl ⟨oP (fun _ _ => rC _ _) (by subst hG_ hU hA; exact patch_set hl74 (ix_ (by rw [<- c75]; exact c23)) zr), tv⟩ rfl
   intro w77 h s q43; replace h := oz (oz h); cbv; refine ⟨_, q43, ?_⟩; cbv; exact dm
  exact dx
 intro w79 h s q12; replace h := oz (oz h); cbv; refine ⟨_, q12, ?_⟩; cbv; revert h; refine rq fun c80 h => ?_; injection h with h; subst h; refine ⟨(sp 42 [] [(5, .arr .rw [] (U_ w79) 4 (row G_ (oC U_ G_) w79))]), ?_, ?_⟩
 ·rw [c80]; exact zb
 ·exact ⟨lR _, zo, rfl⟩

section
open Go.RowKit Go.Lib
set_option maxRecDepth 1000000 in
/-- slices.Delete: the elements behind those that are taken out lie further ahead, the cells behind are emptied -/
theorem calls_slices_Delete_Limpl_Cell_impl_Cell_mobb (blk off cap n i j : Nat) (D : List Value) (w : World) (hlen : D.length = n * 4) (hD : ∀ t u, D[t]? = some u -> w.cell? ⟨blk, off + t, none⟩ = some u) (h1 : ∀ u ∈ D, u.oneCell' = true) (hfz : ∀ t, t < n * 4 -> w.frozen? ⟨blk, off + t, none⟩ = false) (hcap : n <= cap) (hij : i < j) (hj : j <= n) :
  Calls prog 124 #[.slice (some ⟨blk, off, none⟩) n cap, .int .i64 i, .int .i64 j] w fun e w' => e = .returned (.slice (some ⟨blk, off, none⟩) (n - (j - i)) cap) /\ ∃ zs : List Value, zs.length = (j - i) * 4 /\ (∀ u ∈ zs, u.oneCell' = true) /\ w' = (w.drew.setCells blk (off + i * 4) (D.drop (j * 4))).setCells blk (off + (i + (n - j)) * 4) zs := by
 obtain ⟨news, hnews⟩ : ∃ news, news = D.drop (j * 4) := ⟨_, rfl⟩
 have hl : news.length = (n - j) * 4 := by rw [hnews, List.length_drop, hlen, Nat.sub_mul]
 obtain ⟨A, hA, hsrc⟩ : ∃ A : Addr, (if cap = j then some (⟨blk, off, none⟩ : Addr) else some ⟨blk, off + j * 4, none⟩) = some A /\ Hid (∀ t u, news[t]? = some u -> w.drew.cell? (A.add t) = some u) := by
  by_cases h : cap = j
  ·refine ⟨⟨blk, off, none⟩, by simp [h], fun t u hu => ?_⟩
   have h00 : n - j = 0 := by omega
   have h0 : news.length = 0 := by rw [hl, h00, Nat.zero_mul]
   rw [List.length_eq_zero_iff.1 h0] at hu
   simp at hu
  ·refine ⟨⟨blk, off + j * 4, none⟩, by simp [h], fun t u hu => ?_⟩
   rw [Addr.add_lit, Nat.add_assoc]
   exact hD _ u (by rw [hnews, List.getElem?_drop] at hu; exact hu)
 have s1 : Hid (news.length = (n - j) * 4) := hl
 have s2 : Hid (∀ u ∈ news, u.oneCell' = true) := fun u hu => h1 u (List.mem_of_mem_drop (by rw [hnews] at hu; exact hu))
 have hex : ∀ t, t < n * 4 -> (w.cell? ⟨blk, off + t, none⟩).isSome = true := fun t ht => by
  rw [hD t (D[t]'(by omega)) (List.getElem?_eq_getElem (by omega))]; rfl
 have s3 : Hid (∀ t, t < news.length -> (w.drew.cell? ⟨blk, off + i * 4 + t, none⟩).isSome = true /\ w.drew.frozen? ⟨blk, off + i * 4 + t, none⟩ = false) := fun t ht => by
  rw [hl] at ht
  rw [Nat.add_assoc]
  exact ⟨hex _ (by omega), hfz _ (by omega)⟩
 obtain ⟨W1, hW1⟩ : ∃ W1, W1 = w.drew.setCells blk (off + i * 4) news := ⟨_, rfl⟩
 have hW : Hid (W1 = w.drew.setCells blk (off + i * 4) news) := hW1
 obtain ⟨z, hz⟩ : ∃ z, z = (Builtin.zeroCells d83.zero.cells (j - i)).toList := ⟨_, rfl⟩
 have hzs : d83.zero.cells.size = 4 := by kernel_rfl
 have hzl : z.length = (j - i) * 4 := by rw [hz, Array.length_toList, size_zeroCells, hzs]
 have hz1 : ∀ v ∈ z, v.oneCell' = true := by
  rw [hz]
  exact zeroCells_one _ (fun v hv => by
   have := Array.all_eq_true_iff_forall_mem.1 (show d83.zero.cells.all Value.oneCell' = true by kernel_rfl) v hv
   exact this) _
 have hcl : ∀ ty, (Builtin.clear_ #[24] ty #[.slice (some ⟨blk, off + (i + (n - j)) * 4, none⟩) (n - (i + (n - j))) (cap - (i + (n - j)))]).run prog W1 = .ok (.tuple #[]) (W1.setCells blk (off + (i + (n - j)) * 4) z) := fun ty => by
  have e : n - (i + (n - j)) = j - i := by omega
  rw [e, hz]
  refine run_clear_cells W1 24 83 ty d83.zero (by kernel_rfl) (fun w => ?_) blk _ _ _ (by omega) ?_ ?_ ?_
  ·exact run_zero tok (show T 83 = some d83 from rfl)
  ·rw [<- hz]; exact hz1
  ·intro t ht
   rw [size_zeroCells, hzs] at ht
   rw [hW1, Nat.add_assoc]
   refine isSome_setCells blk _ _ _ (fun q hq => ?_) _ (hex _ ?_)
   ·rw [hl] at hq
    rw [Nat.add_assoc]; exact hex _ (by omega)
   ·omega
  ·intro t ht
   rw [size_zeroCells, hzs] at ht
   rw [hW1, World.frozen?_setCells, Nat.add_assoc]
   exact hfz _ (by omega)
 have hX : Hid (∃ zs : List Value, zs.length = (j - i) * 4 /\ (∀ u ∈ zs, u.oneCell' = true) /\ W1.setCells blk (off + (i + (n - j)) * 4) z = (w.drew.setCells blk (off + i * 4) (D.drop (j * 4))).setCells blk (off + (i + (n - j)) * 4) zs) := ⟨z, hzl, hz1, by rw [hW1, hnews]⟩
 have hic : i <= cap := by omega
 have hjc : j <= cap := by omega
 have hne : ¬ (i = j) := by omega
 have hI : (prog.info? 83).map (·.size) = some 4 := by kernel_rfl
 obtain ⟨i0, hi0, hz5⟩ : ∃ i0, prog.info? 83 = some i0 /\ i0.size = 4 := by
  cases h : prog.info? 83 with
  | none => rw [h] at hI; cases hI
  | some i0 => rw [h] at hI; exact ⟨i0, rfl, by injection hI⟩
 have mixed : prog.follows .mixedOrders = true := by kernel_rfl
 clear hW1 hex hzs hnews hl hz hzl hz1 hD h1 hfz
 go_enter func124, ntmps124
 go_wp2_with fail
 go_region_law_o (refine step_append_room rfl (.tmp 22) (.tmp 25) 24 rfl 83 i0 4 (by kernel_rfl) hi0 hz5 blk off i cap (by simp [Act.eval, Act.put]) A (n - j) (cap - j) news (by simp [Act.eval, Act.put, hA]) s1.out hsrc.out s2.out (by omega) s3.out ?_; rw [<- hW.out])
 go_wp2
 go_ret
 refine ⟨by rw [show n - (j - i) = i + (n - j) by omega]; rfl, hX.out⟩
end
/-- slices.Delete[[]loop.example/g00890/impl.Cell,loop.example/g00890/impl.Cell] -/
def Fq81 (a0 : List TC) (a1 : Int) (a2 : Int) : Option (List TC) :=
 if 0 <= a1 /\ a1 < a2 /\ a2 <= (a0.length : Int) then some (a0.take a1.toNat ++ a0.drop a2.toNat) else none
theorem runq81 (a0 : List TC) (a1 : Int) (a2 : Int) (r : List TC) (h : Fq81 a0 a1 a2 = some r) : Fun prog 124 [.c (.os 5 0 (len a0)), .c (wi a1), .c (wi a2)] [(5, .arr .rw [] (len a0) 4 (row gd (oC len gd) a0))] (.c (.os 64000 0 (len r))) [(64000, .arr .rw [] (len r) 4 (row gd (oC len gd) r))] true := by
 unfold Fq81 at h
 split at h
 ·rename_i h1
  injection h with h
  subst h
  obtain ⟨i, rfl⟩ : ∃ i : Nat, a1 = i := ⟨a1.toNat, by omega⟩
  obtain ⟨j, rfl⟩ : ∃ j : Nat, a2 = j := ⟨a2.toNat, by omega⟩
  rw [Int.toNat_natCast, Int.toNat_natCast]
  have e : len (a0.take i ++ a0.drop j) = len a0 - (j - i) := by
   show List.length _ = List.length _ - _
   rw [List.length_append, List.length_take, List.length_drop]; omega
  rw [e]
  exact Fun.delete func124 (by kernel_rfl) (by kernel_rfl) 4 (fun blk off cap n i j D w h1 h2 h3 h4 h5 h6 h7 => calls_slices_Delete_Limpl_Cell_impl_Cell_mobb blk off cap n i j D w h1 h2 h3 h4 h5 h6 h7) (len a0) i j _ _ (by omega) (show j <= a0.length by omega)
   (fun t ht q hq => by show oC len gd (gd _ t) q = oC len gd (gd a0 _) q; rw [cut_get a0 i j t (by omega) (by omega)]) (fun t q => rC _ _) (fun t q => fl_oncCell _ _)
 ·cases h

/-- impl.Cell] -/
def Fq120 (a0 : List TC) (a1 : Int) : Option (List TC) :=
 (Fq81 a0 a1 (std.add .i64 a1 1)).bind fun y1 =>
 some y1
theorem runq120 (a0 : List TC) (a1 : Int) (r : List TC) (h : Fq120 a0 a1 = some r) : Fun prog 68 [.c (.os 5 0 (len a0)), .c (wi a1)] [(5, .arr .rw [] (len a0) 4 (row gd (oC len gd) a0))] (.c (.os 64000 0 (len r))) [(64000, .arr .rw [] (len r) 4 (row gd (oC len gd) r))] true := by
 refine ow [] func68 ntmps68 ?_ (hw := ⟨fun i _ j _ k hk => (noref (rC _ _) hk).elim, tv⟩) (hv := (fun _ => ⟨trivial, ⟨fun i _ j _ => fl_oncCell _ _, tv⟩⟩)); unfold Fq120 at h; have hfq81 := @runq81
 generalize hU : @len = U_, hG_ : @gd = G_, hA : std = A, hP : prog = P at *; cbv; revert h; refine rk [(5, 5)] [(64000, 576)] (hfq81 _ _ _) (fun _ => zf) fun y1 h => ⟨_, rfl, _, _, rfl, fun _ _ _ _ => .refl _, ?_⟩
 cbv; injection h with h; subst h; exact ⟨_, le_ren 576 64000 (by decide) rfl, lR _, zo, rfl⟩

section
open Go.RowKit Go.Lib
set_option maxRecDepth 1000000 in
theorem ins_shift_slices_Insert_Limpl_Shape_impl_Shape_mobo (b off n c i vb voff m vc : Nat) (cs vs : List Value) (w : World) (hi : i < n) (hm : 0 < m) (hroom : n + m <= c) (hc63 : n + m <= 9223372036854775807) (hvb : vb ≠ b)
  (hcl : cs.length = n * 5) (hvl : vs.length = m * 5)
  (hcs : ∀ j v, cs[j]? = some v -> w.cell? ⟨b, off + j, none⟩ = some v) (hsp : ∀ j, j < (n + m) * 5 -> (w.cell? ⟨b, off + j, none⟩).isSome = true) (hfz : ∀ j, j < (n + m) * 5 -> w.frozen? ⟨b, off + j, none⟩ = false)
  (hvs : ∀ j v, vs[j]? = some v -> w.cell? ⟨vb, voff + j, none⟩ = some v) (h1c : ∀ v ∈ cs, v.oneCell' = true) (h1v : ∀ v ∈ vs, v.oneCell' = true)
  (tA tB : TypeId) (kA kB : Nat) (hsa : w.shape? vb = some (tA, kA)) (hsb : w.shape? b = some (tB, kB)) (hkB : kB ≠ 0) (hfa : w.frozen? ⟨vb, voff, none⟩ = false) (hfe : w.frozen? ⟨vb, kA, none⟩ = false) :
  Calls prog 69 #[.slice (some ⟨b, off, none⟩) n c, .int .i64 i, .slice (some ⟨vb, voff, none⟩) m vc] w fun e w' =>
   e = .returned (.slice (some ⟨b, off, none⟩) (n + m) c) /\ w' = (w.drew.setCells b (off + (i + m) * 5) (cs.drop (i * 5))).setCells b (off + i * 5) vs := by
 have tSl : prog.underlying 79 = some (.slice 38) := by kernel_rfl
 have hz1 : ¬ ((m : Int) = 0) := by omega
 have hz2 : ¬ ((i : Int) = (n : Int)) := by omega
 have hsz : (prog.info? 38).map (·.size) = some 5 := by kernel_rfl
 have hov : ∀ lb cb, (callFunc 125 #[.slice (some ⟨vb, voff, none⟩) m vc, .slice (some ⟨b, off + (i + m) * 5, none⟩) lb cb]).run prog w = .ok (.value (.bool false)) w := fun lb cb => by
  rw [run_callFunc_extern func125 (by kernel_rfl) (by kernel_rfl) (by kernel_rfl) (e := Extern.SlicesOverlaps.overlaps #[79, 79] #[4]) (by kernel_rfl),
   Lib.run_overlaps_apart w 79 4 38 tSl 5 (fun w => run_sizeOf tok (show T 38 = some d38 from rfl)) ⟨vb, voff, none⟩ ⟨b, off + (i + m) * 5, none⟩ m vc lb cb hvb tA tB kA kB hsa hsb hkB hfa hfe]
  rfl
 have hdl : (cs.drop (i * 5)).length = (n - i) * 5 := by rw [List.length_drop, hcl, Nat.sub_mul]
 have mixed : prog.follows .mixedOrders = true := by kernel_rfl
 have hw1 : IntKind.i64.wrap ((i : Int) + (m : Int)) = (i : Int) + (m : Int) := by rw [IntKind.wrap_i64]; omega
 have hb1 : (0 : Int) <= (i : Int) + (m : Int) := by omega
 have hin : i <= n := by omega
 have htn : ((i : Int) + (m : Int)).toNat = i + m := by omega
 have hb2 : ¬ (c = i + m) := by omega
 have hb3 : (i : Int) <= (n : Int) + (m : Int) := by omega
 have hb4 : ¬ (c = i) := by omega
 have hcp1 : ∀ ty dc sc, (Builtin.copy_ #[79, 79] ty #[.slice (some ⟨b, off + (i + m) * 5, none⟩) (n + m - (i + m)) dc, .slice (some ⟨b, off + i * 5, none⟩) (n + m - i) sc]).run prog w.drew = .ok (goInt (Nat.min (n + m - i) (n + m - (i + m)))) (w.drew.setCells b (off + (i + m) * 5) (cs.drop (i * 5))) := fun ty dc sc =>
  run_copy_cellsN 5 w.drew _ _ ty 38 b (off + (i + m) * 5) (n + m - (i + m)) dc ⟨b, off + i * 5, none⟩ (n + m - i) sc (cs.drop (i * 5)) tSl hsz (by rw [hdl, show Nat.min (n + m - i) (n + m - (i + m)) = n - i by simp only [Nat.min_def]; split <;> omega])
   (fun j v hj => by rw [Addr.add_lit, Nat.add_assoc]; exact hcs (i * 5 + j) v (by rwa [List.getElem?_drop] at hj))
   (fun j hj => by rw [Nat.add_assoc]; exact hsp _ (by omega)) (fun j hj => by rw [Nat.add_assoc]; exact hfz _ (by omega)) (fun v hv => h1c v (List.mem_of_mem_drop hv))
 obtain ⟨W1, hW1⟩ : ∃ W1, W1 = w.drew.setCells b (off + (i + m) * 5) (cs.drop (i * 5)) := ⟨_, rfl⟩
 have hsp1 : ∀ k, k < (n + m) * 5 -> (W1.cell? ⟨b, off + k, none⟩).isSome = true := fun k hk => by
  rw [hW1]
  exact isSome_setCells b _ _ _ (fun j hj => by rw [Nat.add_assoc]; exact hsp _ (by omega)) _ (hsp k hk)
 have hcp2 : ∀ (W : World), (∀ x, W.cell? x = W1.cell? x) -> (∀ x, W.frozen? x = W1.frozen? x) -> ∀ ty dc, (Builtin.copy_ #[79, 79] ty #[.slice (some ⟨b, off + i * 5, none⟩) (n + m - i) dc, .slice (some ⟨vb, voff, none⟩) m vc]).run prog W = .ok (goInt (Nat.min m (n + m - i))) (W.setCells b (off + i * 5) vs) := fun W hWc hWf ty dc =>
  run_copy_cellsN 5 W _ _ ty 38 b (off + i * 5) (n + m - i) dc ⟨vb, voff, none⟩ m vc vs tSl hsz (by rw [hvl, show Nat.min m (n + m - i) = m by simp only [Nat.min_def]; split <;> omega])
   (fun j v hj => by
    rw [Addr.add_lit, hWc, hW1, World.cell?_setCells_out b _ _ _ _ (fun h _ => absurd h hvb)]
    exact hvs j v hj)
   (fun j hj => by rw [hWc, Nat.add_assoc]; exact hsp1 _ (by omega)) (fun j hj => by rw [hWf, hW1, World.frozen?_setCells, Nat.add_assoc]; exact hfz _ (by omega)) h1v
 rw [<- hW1] at hcp1
 clear hsp hfz hcs hvs h1c h1v
 go_enter func69, ntmps69
 go_wp2_with (simp only [hov])
 go_region_law_o (refine step_copy_runI rfl _ _ 79 79 rfl _ _ (by simp [Act.eval, Act.put]) (by simp [Act.eval, Act.put]) (hcp1 _ _ _) ?_)
 go_wp2_with (at_builtin; refine wpList_copy_runI _ rfl _ _ 79 79 rfl _ _ rfl rfl (hcp2 _ (fun _ => rfl) (fun _ => rfl) _ _) ?_)
 go_ret
 first | exact ⟨rfl, rfl⟩ | exact ⟨rfl, by rw [hW1]⟩
set_option maxRecDepth 1000000 in
theorem ins_end_room_slices_Insert_Limpl_Shape_impl_Shape_mobo (b off n c vb voff m vc : Nat) (vs : List Value) (w : World) (hm : 0 < m) (hroom : n + m <= c) (hc63 : n + m <= 9223372036854775807)
  (hvl : vs.length = m * 5) (hsp : ∀ j, j < m * 5 -> (w.cell? ⟨b, off + n * 5 + j, none⟩).isSome = true) (hfz : ∀ j, j < m * 5 -> w.frozen? ⟨b, off + n * 5 + j, none⟩ = false)
  (hvs : ∀ j v, vs[j]? = some v -> w.cell? ⟨vb, voff + j, none⟩ = some v) (h1v : ∀ v ∈ vs, v.oneCell' = true) :
  Calls prog 69 #[.slice (some ⟨b, off, none⟩) n c, .int .i64 n, .slice (some ⟨vb, voff, none⟩) m vc] w fun e w' =>
   e = .returned (.slice (some ⟨b, off, none⟩) (n + m) c) /\ w' = w.setCells b (off + n * 5) vs := by
 have tSl : prog.underlying 79 = some (.slice 38) := by kernel_rfl
 have mixed : prog.follows .mixedOrders = true := by kernel_rfl
 have hI : (prog.info? 38).map (·.size) = some 5 := by kernel_rfl
 obtain ⟨i0, hi0, hz5⟩ : ∃ i0, prog.info? 38 = some i0 /\ i0.size = 5 := by
  cases h : prog.info? 38 with
  | none => rw [h] at hI; cases hI
  | some i0 => rw [h] at hI; exact ⟨i0, rfl, by injection hI⟩
 have hz1 : ¬ ((m : Int) = 0) := by omega
 have hsrc : Src prog i0.size 79 (.slice (some ⟨vb, voff, none⟩) m vc) m vs w := Src.ofSlice w tSl ⟨vb, voff, none⟩ m vc vs (by rw [hz5]; exact hvl) (fun j u hj => by rw [Addr.add_lit]; exact hvs j u hj) h1v
 have s1 : Hid (∀ j, j < vs.length -> (w.cell? ⟨b, off + n * i0.size + j, none⟩).isSome = true) := by rw [hvl, hz5]; exact hsp
 have s2 : Hid (∀ j, j < vs.length -> w.frozen? ⟨b, off + n * i0.size + j, none⟩ = false) := by rw [hvl, hz5]; exact hfz
 clear hsp hfz hvs
 go_enter func69, ntmps69
 go_wp2_with (at_builtin; refine wpList_append_room_src _ rfl _ _ 79 79 rfl 38 i0 tSl hi0 b off n c rfl _ rfl m vs hsrc hroom s1.out s2.out ?_)
 go_ret
 exact ⟨rfl, rfl⟩
set_option maxRecDepth 1000000 in
theorem ins_end_grow_slices_Insert_Limpl_Shape_impl_Shape_mobo (base : Option Addr) (n c vb voff m vc : Nat) (cs vs : List Value) (w : World) (hm : 0 < m) (hnc : n <= c) (hroom : c < n + m) (hbig : (n + m) * 40 <= 140737488355328)
  (hcl : cs.length = n * 5) (hvl : vs.length = m * 5) (hnil : base = none -> n = 0)
  (hcs : ∀ a, base = some a -> ∀ j v, cs[j]? = some v -> w.cell? (a.add j) = some v)
  (hvs : ∀ j v, vs[j]? = some v -> w.cell? ⟨vb, voff + j, none⟩ = some v) (h1v : ∀ v ∈ vs, v.oneCell' = true) :
  Calls prog 69 #[.slice base n c, .int .i64 n, .slice (some ⟨vb, voff, none⟩) m vc] w fun e w' =>
   e = .returned (.slice (some ⟨w.heap.size, 0, none⟩) (n + m) (grownCap w (n + m) c 38)) /\
   w' = w.drew.alloc (.cells ((cs ++ vs).toArray ++ Builtin.zeroCells d38.zero.cells (grownCap w (n + m) c 38 - (n + m))) 38) := by
 have tSl : prog.underlying 79 = some (.slice 38) := by kernel_rfl
 have mixed : prog.follows .mixedOrders = true := by kernel_rfl
 obtain ⟨i0, hi0, hzs, hzb, hz0⟩ := (tok 38 d38 rfl).2.1
 have hzs : i0.size = 5 := hzs
 have hzb : i0.bytes = 40 := hzb
 have hz1 : ¬ ((m : Int) = 0) := by omega
 have hsrc : Src prog i0.size 79 (.slice (some ⟨vb, voff, none⟩) m vc) m vs w := Src.ofSlice w tSl ⟨vb, voff, none⟩ m vc vs (by rw [hzs]; exact hvl) (fun j u hj => by rw [Addr.add_lit]; exact hvs j u hj) h1v
 have hold : (Builtin.firstCells i0.size n (.slice base n c)).run prog w.drew = .ok cs.toArray w.drew := by
  rw [hzs]
  cases base with
  | none =>
   have h0 := hnil rfl
   subst h0
   have hc0 : cs.length = 0 := by rw [hcl, Nat.zero_mul]
   rw [List.length_eq_zero_iff.1 hc0]
   exact run_firstCells_none w.drew 5 0 0 c
  | some a => exact run_firstCells_some w.drew 5 n a n c cs hcl (fun j v hj => hcs a rfl j v hj)
 have hrun : ∀ ty, (Builtin.append_ #[79, 79] ty #[.slice base n c, .slice (some ⟨vb, voff, none⟩) m vc]).run prog w = _ := fun ty =>
  run_append_grow_src w 79 79 ty 38 i0 _ tSl hi0 hz0 base n c cs hold _ m vs hsrc hroom (by omega) (by rw [hzb]; exact growslice_fits hroom hbig)
 go_enter func69, ntmps69
 cases base with
 | none =>
  have h0 := hnil rfl
  subst h0
  go_wp2_with (at_builtin; refine Lib.wpList_append_run _ rfl _ _ _ _ rfl _ _ rfl rfl _ _ (hrun _) ?_)
  go_ret
  exact ⟨rfl, rfl⟩
 | some a =>
  obtain ⟨ab, ao, asp⟩ := a
  go_wp2_with (at_builtin; refine Lib.wpList_append_run _ rfl _ _ _ _ rfl _ _ rfl rfl _ _ (hrun _) ?_)
  all_goals (go_ret; exact ⟨rfl, rfl⟩)
set_option maxRecDepth 1000000 in
theorem ins_grow_slices_Insert_Limpl_Shape_impl_Shape_mobo (b off n c i vb voff m vc : Nat) (cs vs : List Value) (w : World) (hi : i < n) (hm : 0 < m) (hnc : n <= c) (hroom : c < n + m) (hbig : (n + m) * 40 <= 140737488355328)
  (hcl : cs.length = n * 5) (hvl : vs.length = m * 5)
  (hcs : ∀ j v, cs[j]? = some v -> w.cell? ⟨b, off + j, none⟩ = some v)
  (hvs : ∀ j v, vs[j]? = some v -> w.cell? ⟨vb, voff + j, none⟩ = some v) (h1c : ∀ v ∈ cs, v.oneCell' = true) (h1v : ∀ v ∈ vs, v.oneCell' = true) :
  Calls prog 69 #[.slice (some ⟨b, off, none⟩) n c, .int .i64 i, .slice (some ⟨vb, voff, none⟩) m vc] w fun e w' =>
   e = .returned (.slice (some ⟨w.heap.size, 0, none⟩) (n + m) (grownCap w (n + m) c 38)) /\
   w' = (((w.alloc (.cells ((cs.take (i * 5)).toArray ++ Builtin.zeroCells d38.zero.cells (n + m - i) ++ Builtin.zeroCells d38.zero.cells (grownCap w (n + m) c 38 - (n + m))) 38)).drew.setCells w.heap.size (i * 5) vs).drew).setCells w.heap.size ((i + m) * 5) (cs.drop (i * 5)) := by
 have tSl : prog.underlying 79 = some (.slice 38) := by kernel_rfl
 have t3 : prog.underlying 3 = some (.int .i64) := by kernel_rfl
 have mixed : prog.follows .mixedOrders = true := by kernel_rfl
 obtain ⟨i0, hi0, hzs, hzb, hz0⟩ := (tok 38 d38 rfl).2.1
 have hzs : i0.size = 5 := hzs
 have hzb : i0.bytes = 40 := hzb
 have hz5 : d38.zero.cells.size = 5 := by kernel_rfl
 have hz1 : ¬ ((m : Int) = 0) := by omega
 have hz2 : ¬ ((i : Int) = (n : Int)) := by omega
 have hz3 : (c : Int) < (n : Int) + (m : Int) := by omega
 have hsz : (prog.info? 38).map (·.size) = some 5 := by rw [hi0]; simp [hzs]
 have hbw : b < w.heap.size := block_lt_of_cell (hcs 0 _ (List.getElem?_eq_getElem (by omega)))
 have hvw : vb < w.heap.size := block_lt_of_cell (hvs 0 _ (List.getElem?_eq_getElem (by omega)))
 have hkk : (n : Int) + (m : Int) - (i : Int) = ((n + m - i : Nat) : Int) := by omega
 have hik : i + (n + m - i) = n + m := by omega
 have htl : (cs.take (i * 5)).length = i * 5 := by rw [List.length_take, hcl]; omega
 have hold : (Builtin.firstCells i0.size i (.slice (some ⟨b, off, none⟩) i c)).run prog w.drew = .ok (cs.take (i * 5)).toArray w.drew := by
  rw [hzs]
  exact run_firstCells_some w.drew 5 i ⟨b, off, none⟩ i c (cs.take (i * 5)) htl (fun j v hj => by
   rw [Addr.add_lit]
   rw [List.getElem?_take] at hj
   split at hj
   ·exact hcs j v hj
   ·cases hj)
 have hrz : ∀ ty, (Builtin.append_ #[79, 3] ty #[.slice (some ⟨b, off, none⟩) i c, .int .i64 ((n : Int) + (m : Int) - (i : Int))]).run prog w =
   .ok (.slice (some ⟨w.heap.size, 0, none⟩) (n + m) (grownCap w (n + m) c 38)) (w.drew.alloc (.cells ((cs.take (i * 5)).toArray ++ Builtin.zeroCells d38.zero.cells (n + m - i) ++ Builtin.zeroCells d38.zero.cells (grownCap w (n + m) c 38 - (n + m))) 38)) := fun ty => by
  have h := Lib.run_append_grow_zeros w 79 3 ty 38 i0 _ .i64 .i64 tSl t3 hi0 hz0 (some ⟨b, off, none⟩) i c (cs.take (i * 5)) hold (n + m - i) (by omega) (by omega) (by omega) (by omega) (by rw [hzb]; omega) (by rw [hzb, hik]; exact growslice_fits hroom hbig)
  rw [hik] at h
  rw [hkk]
  exact h
 obtain ⟨G, hG⟩ : ∃ G, G = grownCap w (n + m) c 38 := ⟨_, rfl⟩
 obtain ⟨ROW, hROW⟩ : ∃ ROW : Array Value, ROW = (cs.take (i * 5)).toArray ++ Builtin.zeroCells d38.zero.cells (n + m - i) ++ Builtin.zeroCells d38.zero.cells (G - (n + m)) := ⟨_, rfl⟩
 rw [<- hG] at hrz ⊢
 rw [<- hROW] at hrz ⊢
 have hRl : (n + m) * 5 <= ROW.size := by
  rw [hROW, Array.size_append, Array.size_append, size_zeroCells, size_zeroCells, hz5, List.size_toArray, htl]
  omega
 obtain ⟨W1, hW1⟩ : ∃ W1, W1 = w.drew.alloc (.cells ROW 38) := ⟨_, rfl⟩
 rw [<- hW1] at hrz
 have hN : ∀ j, j < (n + m) * 5 -> (W1.cell? ⟨w.heap.size, j, none⟩).isSome = true := fun j hj => by
  rw [hW1, World.cell?_alloc_at (w := w.drew) ROW _ w.heap.size j rfl, Array.getElem?_eq_getElem (by omega)]; rfl
 have hNf : ∀ j, W1.frozen? ⟨w.heap.size, j, none⟩ = false := fun j => by rw [hW1]; exact World.frozen?_alloc_at (w := w.drew) ROW _ w.heap.size j rfl
 have hOb : ∀ j v, w.cell? ⟨b, j, none⟩ = some v -> W1.cell? ⟨b, j, none⟩ = some v := fun j v h => by rw [hW1, World.cell?_alloc_past (w := w.drew) _ b j hbw]; exact h
 have hOv : ∀ j v, w.cell? ⟨vb, j, none⟩ = some v -> W1.cell? ⟨vb, j, none⟩ = some v := fun j v h => by rw [hW1, World.cell?_alloc_past (w := w.drew) _ vb j hvw]; exact h
 have hcpA : ∀ (W : World), (∀ x, W.cell? x = W1.cell? x) -> (∀ x, W.frozen? x = W1.frozen? x) -> ∀ ty dc, (Builtin.copy_ #[79, 79] ty #[.slice (some ⟨w.heap.size, i * 5, none⟩) (n + m - i) dc, .slice (some ⟨vb, voff, none⟩) m vc]).run prog W = .ok (goInt (Nat.min m (n + m - i))) (W.setCells w.heap.size (i * 5) vs) := fun W hWc hWf ty dc =>
  run_copy_cellsN 5 W _ _ ty 38 w.heap.size (i * 5) (n + m - i) dc ⟨vb, voff, none⟩ m vc vs tSl hsz (by rw [hvl, show Nat.min m (n + m - i) = m by simp only [Nat.min_def]; split <;> omega])
   (fun j v hj => by rw [Addr.add_lit, hWc]; exact hOv _ v (hvs j v hj))
   (fun j hj => by rw [hWc]; exact hN _ (by omega)) (fun j hj => by rw [hWf]; exact hNf _) h1v
 have hGn : n + m <= G := by rw [hG]; exact grownCap_ge w _ _ _
 have hG63 : G <= 9223372036854775807 := by
  have := grownCap_le_maxLen w (n + m) c 38 (by unfold maxLen; omega)
  rw [<- hG] at this
  unfold maxLen at this
  omega
 have hGi : ¬ (G = i) := by omega
 have hGim : ¬ (G = i + m) := by omega
 have hci : ¬ (c = i) := by omega
 have hbN : b ≠ w.heap.size := by omega
 have hdl : (cs.drop (i * 5)).length = (n - i) * 5 := by rw [List.length_drop, hcl, Nat.sub_mul]
 have hcpB : ∀ (W : World), (∀ x, W.cell? x = (W1.setCells w.heap.size (i * 5) vs).cell? x) -> (∀ x, W.frozen? x = (W1.setCells w.heap.size (i * 5) vs).frozen? x) -> ∀ ty dc sc, (Builtin.copy_ #[79, 79] ty #[.slice (some ⟨w.heap.size, (i + m) * 5, none⟩) (n + m - (i + m)) dc, .slice (some ⟨b, off + i * 5, none⟩) (n - i) sc]).run prog W = .ok (goInt (Nat.min (n - i) (n + m - (i + m)))) (W.setCells w.heap.size ((i + m) * 5) (cs.drop (i * 5))) := fun W hWc hWf ty dc sc =>
  run_copy_cellsN 5 W _ _ ty 38 w.heap.size ((i + m) * 5) (n + m - (i + m)) dc ⟨b, off + i * 5, none⟩ (n - i) sc (cs.drop (i * 5)) tSl hsz (by rw [hdl, show Nat.min (n - i) (n + m - (i + m)) = n - i by simp only [Nat.min_def]; split <;> omega])
   (fun j v hj => by
    rw [Addr.add_lit, hWc, World.cell?_setCells_out _ _ _ _ _ (fun h _ => absurd h hbN), Nat.add_assoc]
    exact hOb _ v (hcs (i * 5 + j) v (by rwa [List.getElem?_drop] at hj)))
   (fun j hj => by rw [hWc]; exact isSome_setCells _ _ _ _ (fun t ht => hN _ (by omega)) _ (hN _ (by omega)))
   (fun j hj => by rw [hWf, World.frozen?_setCells]; exact hNf _) (fun v hv => h1c v (List.mem_of_mem_drop hv))
 subst hW1
 have hE1 : ∀ x, ((w.alloc (.cells ROW 38)).drew).cell? x = (w.drew.alloc (.cells ROW 38)).cell? x := fun x => rfl
 have hE2 : ∀ x, ((w.alloc (.cells ROW 38)).drew).frozen? x = (w.drew.alloc (.cells ROW 38)).frozen? x := fun x => rfl
 have hF1 : ∀ x, (((w.alloc (.cells ROW 38)).drew.setCells w.heap.size (i * 5) vs).drew).cell? x = ((w.drew.alloc (.cells ROW 38)).setCells w.heap.size (i * 5) vs).cell? x := fun x => rfl
 have hF2 : ∀ x, (((w.alloc (.cells ROW 38)).drew.setCells w.heap.size (i * 5) vs).drew).frozen? x = ((w.drew.alloc (.cells ROW 38)).setCells w.heap.size (i * 5) vs).frozen? x := fun x => rfl
 have hw1 : IntKind.i64.wrap ((i : Int) + (m : Int)) = (i : Int) + (m : Int) := by rw [IntKind.wrap_i64]; omega
 have hb1 : (0 : Int) <= (i : Int) + (m : Int) := by omega
 have hin : i <= n := by omega
 have htn : ((i : Int) + (m : Int)).toNat = i + m := by omega
 have hb3 : (i : Int) <= (n : Int) := by omega
 clear hkk hik hold hROW hG hRl hcs hvs h1c h1v hN hNf hOb hOv htl hdl
 go_enter func69, ntmps69
 go_wp2_with (first
  | (at_builtin; refine Lib.wpList_append_run _ rfl _ _ _ _ rfl _ _ rfl rfl _ _ (hrz _) ?_)
  | (at_builtin; refine wpList_copy_runI _ rfl _ _ 79 79 rfl _ _ rfl rfl (hcpA _ hE1 hE2 _ _) ?_)
  | (at_builtin; refine wpList_copy_runI _ rfl _ _ 79 79 rfl _ _ rfl rfl (hcpB _ (fun _ => rfl) (fun _ => rfl) _ _ _) ?_))
 go_region_law_o (refine step_copy_runI rfl _ _ 79 79 rfl (.slice (some ⟨w.heap.size, (i + m) * 5, none⟩) (n + m - (i + m)) (G - (i + m))) (.slice (some ⟨b, off + i * 5, none⟩) (n - i) (c - i)) (by simp [Act.eval, Act.put]) (by simp [Act.eval, Act.put]) (hcpB _ hF1 hF2 3 (G - (i + m)) (c - i)) ?_)
 go_wp2
 go_ret
 exact ⟨rfl, rfl⟩
theorem calls_slices_Insert_Limpl_Shape_impl_Shape_mobo (old : Option (Nat × Nat)) (y : Value) (n cap i vb voff m vc : Nat) (cs vs : List Value) (w : World)
  (hold : (old = none /\ n = 0 /\ cap = 0 /\ ∃ ad, y = .slice ad 0 0) \/ ∃ b off C t, old = some (b, off) /\ y = .slice (some ⟨b, off, none⟩) n cap /\ n <= cap /\ w.heap[b]? = some (.cells C t (0, 0)) /\ off + cap * 5 <= C.size /\ (∀ (q : Nat) u, C[q]? = some u -> u.oneCell' = true) /\ (∀ q, q < n * 5 -> C[off + q]? = cs[q]?) /\ vb ≠ b)
  (hi : i <= n) (hm : 0 < m) (hbig : (n + m) * 40 <= 140737488355328) (hcl : cs.length = n * 5) (hvl : vs.length = m * 5) (hvb : ∃ C2 t2, w.heap[vb]? = some (.cells C2 t2 (0, 0)) /\ ∀ q, q < m * 5 -> C2[voff + q]? = vs[q]?) (h1c : ∀ u ∈ cs, u.oneCell' = true) (h1v : ∀ u ∈ vs, u.oneCell' = true) :
  Calls prog 69 #[y, .int .i64 i, .slice (some ⟨vb, voff, none⟩) m vc] w (Inserted w old 5 (n + m) (cs.take (i * 5) ++ vs ++ cs.drop (i * 5))) := by
 obtain ⟨C2, t2, hC2, hvs⟩ := hvb
 have hvcell : ∀ j v, vs[j]? = some v -> w.cell? ⟨vb, voff + j, none⟩ = some v := fun j v h => by
  rw [cell_at hC2, hvs j (by have := (List.getElem?_eq_some_iff.1 h).1; omega)]; exact h
 have hz5 : d38.zero.cells.size = 5 := by kernel_rfl
 have hz1 : ∀ k, ∀ v ∈ (Builtin.zeroCells d38.zero.cells k).toList, v.oneCell' = true := fun k => zeroCells_one _ (fun v hv => by
  have := Array.all_eq_true_iff_forall_mem.1 (show d38.zero.cells.all Value.oneCell' = true by kernel_rfl) v hv
  exact this) _
 have hzn : ∀ k, (Builtin.zeroCells d38.zero.cells k).size = k * 5 := fun k => by rw [size_zeroCells, hz5]
 rcases hold with ⟨ho, h0, hc, ad, rfl⟩ | ⟨b, off, C, t, ho, rfl, hnc, hC, hCs, h1C, hcs, hne⟩
 ·subst h0; subst hc
  obtain rfl : i = 0 := by omega
  have hcs0 : cs = [] := List.length_eq_zero_iff.1 (by omega)
  subst hcs0
  refine (ins_end_grow_slices_Insert_Limpl_Shape_impl_Shape_mobo ad 0 0 vb voff m vc [] vs w hm (Nat.le_refl _) (by omega) hbig hcl hvl (fun _ => rfl) (fun a _ j v h => by simp at h) hvcell h1v).mono ?_
  rintro e w' ⟨rfl, rfl⟩
  exact ins_post_endgrow hcl hvl h1v h1c (grownCap_ge _ _ _ _) (hzn _) (hz1 _)
 ·subst ho
  have hccell : ∀ j v, cs[j]? = some v -> w.cell? ⟨b, off + j, none⟩ = some v := fun j v h => by
   rw [cell_at hC, hcs j (by have := (List.getElem?_eq_some_iff.1 h).1; omega)]; exact h
  by_cases hroom : n + m <= cap
  ·have hsp : ∀ j, j < (n + m) * 5 -> (w.cell? ⟨b, off + j, none⟩).isSome = true := fun j hj => by
    rw [cell_at hC, Array.getElem?_eq_getElem (by omega)]; rfl
   by_cases hin : i = n
   ·subst hin
    refine (ins_end_room_slices_Insert_Limpl_Shape_impl_Shape_mobo b off i cap vb voff m vc vs w hm hroom (by omega) hvl (fun j hj => by rw [Nat.add_assoc]; exact hsp _ (by omega)) (fun j hj => frozen_of hC _) hvcell h1v).mono ?_
    rintro e w' ⟨rfl, rfl⟩
    exact ins_post_end hC hCs h1C hcs hcl hvl h1v hroom
   ·refine (ins_shift_slices_Insert_Limpl_Shape_impl_Shape_mobo b off n cap i vb voff m vc cs vs w (by omega) hm hroom (by omega) hne hcl hvl hccell hsp (fun j hj => frozen_of hC _) hvcell h1c h1v t2 t C2.size C.size (by simp [World.shape?, hC2]) (by simp [World.shape?, hC]) (by omega) (frozen_of hC2 _) (frozen_of hC2 _)).mono ?_
    rintro e w' ⟨rfl, rfl⟩
    exact ins_post_shift hC hCs h1C hcs hcl hvl h1v h1c hi hroom
  ·by_cases hin : i = n
   ·subst hin
    refine (ins_end_grow_slices_Insert_Limpl_Shape_impl_Shape_mobo (some ⟨b, off, none⟩) i cap vb voff m vc cs vs w hm hnc (by omega) hbig hcl hvl (fun h => by cases h) (fun a h j v hv => by injection h with h; subst h; rw [Addr.add_lit]; exact hccell j v hv) hvcell h1v).mono ?_
    rintro e w' ⟨rfl, rfl⟩
    exact ins_post_endgrow hcl hvl h1v h1c (grownCap_ge _ _ _ _) (hzn _) (hz1 _)
   ·refine (ins_grow_slices_Insert_Limpl_Shape_impl_Shape_mobo b off n cap i vb voff m vc cs vs w (by omega) hm hnc (by omega) hbig hcl hvl hccell hvcell h1c h1v).mono ?_
    rintro e w' ⟨rfl, rfl⟩
    exact ins_post_grow hcl hvl h1v h1c hi (grownCap_ge _ _ _ _) (hzn _) (hzn _) (hz1 _) (hz1 _)
end
/-- slices.Insert[[]loop.example/g00890/impl.Shape,loop.example/g00890/impl.Shape] -/
def Fq22 (a0 : List TS) (a1 : Int) (a2 : List TS) : Option (List TS) :=
 if 0 <= a1 /\ a1 <= (a0.length : Int) /\ 0 < a2.length /\ (a0.length + a2.length) * 40 <= 140737488355328 then some (a0.take a1.toNat ++ a2 ++ a0.drop a1.toNat) else none
theorem runq22 (a0 : List TS) (a1 : Int) (a2 : List TS) (r : List TS) (h : Fq22 a0 a1 a2 = some r) : Fun prog 69 [.c (.os 5 0 (len a0)), .c (wi a1), .c (.os 7 0 (len a2))] [(5, .arr .rw [] (len a0) 5 (row gd (eS) a0)), (7, .arr .rw [] (len a2) 5 (row gd (eS) a2))] (.c (.os 64000 0 (len r))) [(64000, .arr .rw [] (len r) 5 (row gd (eS) r))] true := by
 unfold Fq22 at h
 split at h
 ·rename_i h1
  injection h with h
  subst h
  obtain ⟨i, rfl⟩ : ∃ i : Nat, a1 = i := ⟨a1.toNat, by omega⟩
  rw [Int.toNat_natCast]
  have e : len (a0.take i ++ a2 ++ a0.drop i) = len a0 + len a2 := by
   show List.length _ = List.length _ + List.length _
   rw [List.length_append, List.length_append, List.length_take, List.length_drop]; omega
  rw [e]
  exact Fun.insert func69 (by kernel_rfl) (by kernel_rfl) 5 40 (fun old y n cap i vb voff m vc cs vs w h1 h2 h3 h4 h5 h6 h7 h8 h9 => calls_slices_Insert_Limpl_Shape_impl_Shape_mobo old y n cap i vb voff m vc cs vs w h1 h2 h3 h4 h5 h6 h7 h8 h9) (len a0) i (len a2) _ _ _ (show i <= a0.length by omega) (show 0 < a2.length by omega) (show (a0.length + a2.length) * 40 <= _ by omega)
   (fun t ht q hq => by
    show eS (gd _ t) q = if t < i then eS (gd a0 t) q else if t < i + a2.length then eS (gd a2 (t - i)) q else eS (gd a0 (t - a2.length)) q
    rw [ins_get a0 a2 i t (by omega)]
    split
    ·rfl
    ·split <;> rfl) (fun t q => plain_nil (val_plain (vl_encShape _ _))) (fun t q => plain_nil (val_plain (vl_encShape _ _))) (fun t q => val_flat (vl_encShape _ _))
 ·cases h

section
open Go.RowKit Go.Lib
set_option maxRecDepth 1000000 in
/-- slices.Delete: the elements behind those that are taken out lie further ahead, the cells behind are emptied -/
theorem calls_slices_Delete_Limpl_Shape_impl_Shape_mobb (blk off cap n i j : Nat) (D : List Value) (w : World) (hlen : D.length = n * 5) (hD : ∀ t u, D[t]? = some u -> w.cell? ⟨blk, off + t, none⟩ = some u) (h1 : ∀ u ∈ D, u.oneCell' = true) (hfz : ∀ t, t < n * 5 -> w.frozen? ⟨blk, off + t, none⟩ = false) (hcap : n <= cap) (hij : i < j) (hj : j <= n) :
  Calls prog 127 #[.slice (some ⟨blk, off, none⟩) n cap, .int .i64 i, .int .i64 j] w fun e w' => e = .returned (.slice (some ⟨blk, off, none⟩) (n - (j - i)) cap) /\ ∃ zs : List Value, zs.length = (j - i) * 5 /\ (∀ u ∈ zs, u.oneCell' = true) /\ w' = (w.drew.setCells blk (off + i * 5) (D.drop (j * 5))).setCells blk (off + (i + (n - j)) * 5) zs := by
 obtain ⟨news, hnews⟩ : ∃ news, news = D.drop (j * 5) := ⟨_, rfl⟩
 have hl : news.length = (n - j) * 5 := by rw [hnews, List.length_drop, hlen, Nat.sub_mul]
 obtain ⟨A, hA, hsrc⟩ : ∃ A : Addr, (if cap = j then some (⟨blk, off, none⟩ : Addr) else some ⟨blk, off + j * 5, none⟩) = some A /\ Hid (∀ t u, news[t]? = some u -> w.drew.cell? (A.add t) = some u) := by
  by_cases h : cap = j
  ·refine ⟨⟨blk, off, none⟩, by simp [h], fun t u hu => ?_⟩
   have h00 : n - j = 0 := by omega
   have h0 : news.length = 0 := by rw [hl, h00, Nat.zero_mul]
   rw [List.length_eq_zero_iff.1 h0] at hu
   simp at hu
  ·refine ⟨⟨blk, off + j * 5, none⟩, by simp [h], fun t u hu => ?_⟩
   rw [Addr.add_lit, Nat.add_assoc]
   exact hD _ u (by rw [hnews, List.getElem?_drop] at hu; exact hu)
 have s1 : Hid (news.length = (n - j) * 5) := hl
 have s2 : Hid (∀ u ∈ news, u.oneCell' = true) := fun u hu => h1 u (List.mem_of_mem_drop (by rw [hnews] at hu; exact hu))
 have hex : ∀ t, t < n * 5 -> (w.cell? ⟨blk, off + t, none⟩).isSome = true := fun t ht => by
  rw [hD t (D[t]'(by omega)) (List.getElem?_eq_getElem (by omega))]; rfl
 have s3 : Hid (∀ t, t < news.length -> (w.drew.cell? ⟨blk, off + i * 5 + t, none⟩).isSome = true /\ w.drew.frozen? ⟨blk, off + i * 5 + t, none⟩ = false) := fun t ht => by
  rw [hl] at ht
  rw [Nat.add_assoc]
  exact ⟨hex _ (by omega), hfz _ (by omega)⟩
 obtain ⟨W1, hW1⟩ : ∃ W1, W1 = w.drew.setCells blk (off + i * 5) news := ⟨_, rfl⟩
 have hW : Hid (W1 = w.drew.setCells blk (off + i * 5) news) := hW1
 obtain ⟨z, hz⟩ : ∃ z, z = (Builtin.zeroCells d38.zero.cells (j - i)).toList := ⟨_, rfl⟩
 have hzs : d38.zero.cells.size = 5 := by kernel_rfl
 have hzl : z.length = (j - i) * 5 := by rw [hz, Array.length_toList, size_zeroCells, hzs]
 have hz1 : ∀ v ∈ z, v.oneCell' = true := by
  rw [hz]
  exact zeroCells_one _ (fun v hv => by
   have := Array.all_eq_true_iff_forall_mem.1 (show d38.zero.cells.all Value.oneCell' = true by kernel_rfl) v hv
   exact this) _
 have hcl : ∀ ty, (Builtin.clear_ #[79] ty #[.slice (some ⟨blk, off + (i + (n - j)) * 5, none⟩) (n - (i + (n - j))) (cap - (i + (n - j)))]).run prog W1 = .ok (.tuple #[]) (W1.setCells blk (off + (i + (n - j)) * 5) z) := fun ty => by
  have e : n - (i + (n - j)) = j - i := by omega
  rw [e, hz]
  refine run_clear_cells W1 79 38 ty d38.zero (by kernel_rfl) (fun w => ?_) blk _ _ _ (by omega) ?_ ?_ ?_
  ·exact run_zero tok (show T 38 = some d38 from rfl)
  ·rw [<- hz]; exact hz1
  ·intro t ht
   rw [size_zeroCells, hzs] at ht
   rw [hW1, Nat.add_assoc]
   refine isSome_setCells blk _ _ _ (fun q hq => ?_) _ (hex _ ?_)
   ·rw [hl] at hq
    rw [Nat.add_assoc]; exact hex _ (by omega)
   ·omega
  ·intro t ht
   rw [size_zeroCells, hzs] at ht
   rw [hW1, World.frozen?_setCells, Nat.add_assoc]
   exact hfz _ (by omega)
 have hX : Hid (∃ zs : List Value, zs.length = (j - i) * 5 /\ (∀ u ∈ zs, u.oneCell' = true) /\ W1.setCells blk (off + (i + (n - j)) * 5) z = (w.drew.setCells blk (off + i * 5) (D.drop (j * 5))).setCells blk (off + (i + (n - j)) * 5) zs) := ⟨z, hzl, hz1, by rw [hW1, hnews]⟩
 have hic : i <= cap := by omega
 have hjc : j <= cap := by omega
 have hne : ¬ (i = j) := by omega
 have hI : (prog.info? 38).map (·.size) = some 5 := by kernel_rfl
 obtain ⟨i0, hi0, hz5⟩ : ∃ i0, prog.info? 38 = some i0 /\ i0.size = 5 := by
  cases h : prog.info? 38 with
  | none => rw [h] at hI; cases hI
  | some i0 => rw [h] at hI; exact ⟨i0, rfl, by injection hI⟩
 have mixed : prog.follows .mixedOrders = true := by kernel_rfl
 clear hW1 hex hzs hnews hl hz hzl hz1 hD h1 hfz
 go_enter func127, ntmps127
 go_wp2_with fail
 go_region_law_o (refine step_append_room rfl (.tmp 22) (.tmp 25) 79 rfl 38 i0 5 (by kernel_rfl) hi0 hz5 blk off i cap (by simp [Act.eval, Act.put]) A (n - j) (cap - j) news (by simp [Act.eval, Act.put, hA]) s1.out hsrc.out s2.out (by omega) s3.out ?_; rw [<- hW.out])
 go_wp2
 go_ret
 refine ⟨by rw [show n - (j - i) = i + (n - j) by omega]; rfl, hX.out⟩
end
/-- slices.Delete[[]loop.example/g00890/impl.Shape,loop.example/g00890/impl.Shape] -/
def Fq80 (a0 : List TS) (a1 : Int) (a2 : Int) : Option (List TS) :=
 if 0 <= a1 /\ a1 < a2 /\ a2 <= (a0.length : Int) then some (a0.take a1.toNat ++ a0.drop a2.toNat) else none
theorem runq80 (a0 : List TS) (a1 : Int) (a2 : Int) (r : List TS) (h : Fq80 a0 a1 a2 = some r) : Fun prog 127 [.c (.os 5 0 (len a0)), .c (wi a1), .c (wi a2)] [(5, .arr .rw [] (len a0) 5 (row gd (eS) a0))] (.c (.os 64000 0 (len r))) [(64000, .arr .rw [] (len r) 5 (row gd (eS) r))] true := by
 unfold Fq80 at h
 split at h
 ·rename_i h1
  injection h with h
  subst h
  obtain ⟨i, rfl⟩ : ∃ i : Nat, a1 = i := ⟨a1.toNat, by omega⟩
  obtain ⟨j, rfl⟩ : ∃ j : Nat, a2 = j := ⟨a2.toNat, by omega⟩
  rw [Int.toNat_natCast, Int.toNat_natCast]
  have e : len (a0.take i ++ a0.drop j) = len a0 - (j - i) := by
   show List.length _ = List.length _ - _
   rw [List.length_append, List.length_take, List.length_drop]; omega
  rw [e]
  exact Fun.delete func127 (by kernel_rfl) (by kernel_rfl) 5 (fun blk off cap n i j D w h1 h2 h3 h4 h5 h6 h7 => calls_slices_Delete_Limpl_Shape_impl_Shape_mobb blk off cap n i j D w h1 h2 h3 h4 h5 h6 h7) (len a0) i j _ _ (by omega) (show j <= a0.length by omega)
   (fun t ht q hq => by show eS (gd _ t) q = eS (gd a0 _) q; rw [cut_get a0 i j t (by omega) (by omega)]) (fun t q => plain_nil (val_plain (vl_encShape _ _))) (fun t q => val_flat (vl_encShape _ _))
 ·cases h
end
end Go.Proofs.YtfoefnkbiofejaaGreat.AM
