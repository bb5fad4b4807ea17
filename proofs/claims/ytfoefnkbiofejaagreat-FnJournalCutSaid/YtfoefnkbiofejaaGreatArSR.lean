/-
  What the functions that the law reaches compute, and that they do. No condition.
-/
import Derived.Test.YtfoefnkbiofejaaGreatArSU
import Derived.Test.YtfoefnkbiofejaaGreatArE
namespace Go.Proofs.YtfoefnkbiofejaaGreat.AM
noncomputable section
open Go Go.Proofs Go.RowKit Go.Proofs.Tryz
set_option linter.unusedVariables false
set_option linter.unusedSimpArgs false
set_option maxRecDepth 100000

set_option maxHeartbeats 40000000
/-- laws.other -/
def Fq98 (a0 : List Int) (a1 : Int) : Option (List Int) :=
 letO ([a1, std.add .u8 a1 7, std.mul .u8 3 a1] : List Int) fun l1 =>
 req (std.room (std.nadd (len l1) (len a0)) 1) <|
 letO (l1 ++ a0) fun l3 =>
 some l3
theorem runq98 (a0 : List Int) (a1 : Int) (r : List Int) (h : Fq98 a0 a1 = some r) : Fun prog 13 [.c (.bs (len a0) 1 (row gd (encI .u8) a0)), .c (.v (.int .u8 a1))] [] (.c (.os 64000 0 (len r))) [(64000, .arr .rw [] (len r) 1 (row gd (encI .u8) r))] true := by
 refine ow [] func13 ntmps13 ?_ (hv := (fun _ => ⟨trivial, ⟨fun i _ j _ => val_flat (rfl), tv⟩⟩)); unfold Fq98 at h; generalize hU : @len = U_, hG_ : @gd = G_, hA : std = A, hP : prog = P at *; cbv; revert h; refine rl fun l1 hl1 h => ?_; have e2 : 3 = U_ l1 := by subst hl1 hU; rfl
 refine ⟨_, (co e2), _, row G_ (encI .u8) l1, e2, wO ?_, ?_⟩
 ·intro i hi j hj; rw [<- e2] at hi; subst hl1; subst hG_; obtain rfl | rfl | rfl : i = 0 \/ i = 1 \/ i = 2 := (by omega); all_goals obtain rfl : j = 0 := by omega
  all_goals rfl
 cbv; revert h; refine rq fun c5 => rl fun l3 hl3 h => ?_; have e4 := nl hA hU hl3; refine ⟨c5, _, (co e4), _, row G_ (encI .u8) l3, e4, wO ?_, ?_⟩
 ·subst hG_ hU hA; exact app_bs (fun _ _ => rfl) hl3 (Nat.le_refl _)
 cbv; injection h with h; subst h; exact ⟨_, le_ren 704 64000 (by decide) rfl, lR _, zo, rfl⟩

/-- spec.l13Inverse -/
def Fq30 (a0 : TL) (a1 : TE) : Option (TE) :=
  br (std.eq a1.fk_ 8)
  (some (TE.mk 9 a1.fc a1.fx (ByteArray.mk #[]) (TS.mk 0 (TRect.mk 0 0 0 0)) (TB.mk 0 (TPoint.mk 0 0) (ByteArray.mk #[])) (TI.mk 0 (TM.mk 0 0 0) 0 0 0 0)))
  (((
  br (std.eq a1.fk_ 1)
  (some true)
  (((
  br (std.eq a1.fk_ 3)
  (some true)
  (some (std.eq a1.fk_ 5))
  ) : Option (Bool)).bind fun y8 =>
  letO y8 fun w14 =>
  some w14)
  ) : Option (Bool)).bind fun y1 =>
  letO y1 fun w7 =>
  ((
  br w7
  ((some (TE.mk (std.add .i64 a1.fk_ 1) a1.fc a1.fx (ByteArray.mk #[]) (TS.mk 0 (TRect.mk 0 0 0 0)) (TB.mk 0 (TPoint.mk 0 0) (ByteArray.mk #[])) (TI.mk 0 (TM.mk 0 0 0) 0 0 0 0))).bind fun r23 => some (.inl r23))
  (some (.inr ()))
  ) : Option (_ ⊕ Unit)).bind fun z19 => (match z19 with
 | .inl r => some r
 | .inr y17 =>
  req (std.inR a1.fc (len a0.fC)) <|
  ((
  br (std.eq a1.fk_ 2)
  (req (std.inR a1.fx (len (gd a0.fC (std.toN a1.fc)).fS)) <|
  some ((gd (gd a0.fC (std.toN a1.fc)).fS (std.toN a1.fx)).fy, (gd (gd a0.fC (std.toN a1.fc)).fS (std.toN a1.fx)).fb.fX0, (gd (gd a0.fC (std.toN a1.fc)).fS (std.toN a1.fx)).fb.fY0, (gd (gd a0.fC (std.toN a1.fc)).fS (std.toN a1.fx)).fb.fX1, (gd (gd a0.fC (std.toN a1.fc)).fS (std.toN a1.fx)).fb.fY1, (ByteArray.mk #[]), 0, 0, 0, (ByteArray.mk #[]), 0, 0, 0, 0, 0, 0, 0, 0))
  (((
  br (std.eq a1.fk_ 4)
  (req (std.inR a1.fx (len (gd a0.fC (std.toN a1.fc)).fL)) <|
  some ((gd (gd a0.fC (std.toN a1.fc)).fL (std.toN a1.fx)).fy, (gd (gd a0.fC (std.toN a1.fc)).fL (std.toN a1.fx)).fa.fX, (gd (gd a0.fC (std.toN a1.fc)).fL (std.toN a1.fx)).fa.fY, (gd (gd a0.fC (std.toN a1.fc)).fL (std.toN a1.fx)).fN, (ByteArray.mk #[]), 0, 0, 0, 0, 0, 0, 0, 0))
  (((
  br (std.eq a1.fk_ 6)
  (req (std.inR a1.fx (len (gd a0.fC (std.toN a1.fc)).fI)) <|
  some ((gd (gd a0.fC (std.toN a1.fc)).fI (std.toN a1.fx)).fc, (gd (gd a0.fC (std.toN a1.fc)).fI (std.toN a1.fx)).fp.fo, (gd (gd a0.fC (std.toN a1.fc)).fI (std.toN a1.fx)).fp.fX, (gd (gd a0.fC (std.toN a1.fc)).fI (std.toN a1.fx)).fp.fY, (gd (gd a0.fC (std.toN a1.fc)).fI (std.toN a1.fx)).fK, (gd (gd a0.fC (std.toN a1.fc)).fI (std.toN a1.fx)).fR, (gd (gd a0.fC (std.toN a1.fc)).fI (std.toN a1.fx)).fu, (gd (gd a0.fC (std.toN a1.fc)).fI (std.toN a1.fx)).fv, (ByteArray.mk #[])))
  (some (0, 0, 0, 0, 0, 0, 0, 0, (gd a0.fC (std.toN a1.fc)).fN))
  ) : Option (Int × Int × Int × Int × Int × Int × Int × Int × ByteArray)).bind fun y73 =>
  letO y73.1 fun w79 =>
  letO y73.2.1 fun w80 =>
  letO y73.2.2.1 fun w81 =>
  letO y73.2.2.2.1 fun w82 =>
  letO y73.2.2.2.2.1 fun w83 =>
  letO y73.2.2.2.2.2.1 fun w84 =>
  letO y73.2.2.2.2.2.2.1 fun w85 =>
  letO y73.2.2.2.2.2.2.2.1 fun w86 =>
  letO y73.2.2.2.2.2.2.2.2 fun w87 =>
  some (0, 0, 0, (ByteArray.mk #[]), w87, w79, w80, w81, w82, w83, w84, w85, w86))
  ) : Option (Int × Int × Int × ByteArray × ByteArray × Int × Int × Int × Int × Int × Int × Int × Int)).bind fun y53 =>
  letO y53.1 fun w59 =>
  letO y53.2.1 fun w60 =>
  letO y53.2.2.1 fun w61 =>
  letO y53.2.2.2.1 fun w62 =>
  letO y53.2.2.2.2.1 fun w63 =>
  letO y53.2.2.2.2.2.1 fun w64 =>
  letO y53.2.2.2.2.2.2.1 fun w65 =>
  letO y53.2.2.2.2.2.2.2.1 fun w66 =>
  letO y53.2.2.2.2.2.2.2.2.1 fun w67 =>
  letO y53.2.2.2.2.2.2.2.2.2.1 fun w68 =>
  letO y53.2.2.2.2.2.2.2.2.2.2.1 fun w69 =>
  letO y53.2.2.2.2.2.2.2.2.2.2.2.1 fun w70 =>
  letO y53.2.2.2.2.2.2.2.2.2.2.2.2 fun w71 =>
  some (0, 0, 0, 0, 0, w63, w59, w60, w61, w62, w64, w65, w66, w67, w68, w69, w70, w71))
  ) : Option (Int × Int × Int × Int × Int × ByteArray × Int × Int × Int × ByteArray × Int × Int × Int × Int × Int × Int × Int × Int)).bind fun y28 =>
  letO y28.1 fun w34 =>
  letO y28.2.1 fun w35 =>
  letO y28.2.2.1 fun w36 =>
  letO y28.2.2.2.1 fun w37 =>
  letO y28.2.2.2.2.1 fun w38 =>
  letO y28.2.2.2.2.2.1 fun w39 =>
  letO y28.2.2.2.2.2.2.1 fun w40 =>
  letO y28.2.2.2.2.2.2.2.1 fun w41 =>
  letO y28.2.2.2.2.2.2.2.2.1 fun w42 =>
  letO y28.2.2.2.2.2.2.2.2.2.1 fun w43 =>
  letO y28.2.2.2.2.2.2.2.2.2.2.1 fun w44 =>
  letO y28.2.2.2.2.2.2.2.2.2.2.2.1 fun w45 =>
  letO y28.2.2.2.2.2.2.2.2.2.2.2.2.1 fun w46 =>
  letO y28.2.2.2.2.2.2.2.2.2.2.2.2.2.1 fun w47 =>
  letO y28.2.2.2.2.2.2.2.2.2.2.2.2.2.2.1 fun w48 =>
  letO y28.2.2.2.2.2.2.2.2.2.2.2.2.2.2.2.1 fun w49 =>
  letO y28.2.2.2.2.2.2.2.2.2.2.2.2.2.2.2.2.1 fun w50 =>
  letO y28.2.2.2.2.2.2.2.2.2.2.2.2.2.2.2.2.2 fun w51 =>
  ((
  br (std.eq a1.fk_ 7)
  (some 7)
  (some (std.sub .i64 a1.fk_ 1))
  ) : Option (Int)).bind fun y92 =>
  letO y92 fun w98 =>
  some (TE.mk w98 a1.fc a1.fx w39 (TS.mk w34 (TRect.mk w35 w36 w37 w38)) (TB.mk w40 (TPoint.mk w41 w42) w43) (TI.mk w44 (TM.mk w45 w46 w47) w48 w49 w50 w51))))
theorem runq30 (a0 : TL) (a1 : TE) (r : TE) (h : Fq30 a0 a1 = some r) : Fun prog 103 [.agg [.bs (len a0.fC) 4 (row gd (eC len gd) a0.fC)], .agg (cE a1)] [] (.agg (cE r)) [] true := by
 refine ow [100018, 100038, 100047, 100056, 100071] func103 ntmps103 ?_ (hv := (fun _ => ⟨(by simp [AV.flat, AV.flat1, AC.flat]), tv⟩)); unfold Fq30 at h; generalize hU : @len = U_, hG_ : @gd = G_, hA : std = A, hP : prog = P at *; cbv; revert h; refine fk ?_ ?_ <;> intro h <;> cbv
 ·exact df
 revert h; refine cu (fun y1 => some (sp 74 [(2, .c (.ptr 128 0)), (3, .c (.ptr 192 0)), (4, .c (.ptr 256 0)), (5, .c (.ptr 320 0)), (18, .c (.v (.bool y1)))] [(128, .var [.bs (U_ a0.fC) 4 (row G_ (eC U_ G_) a0.fC)]), (192, .var (cE a1)), (256, .var [wi 0, wi 0, wi 0, ws (ByteArray.mk #[]), wi 0, wi 0, wi 0, wi 0, wi 0, wi 0, wi 0, wi 0, ws (ByteArray.mk #[]), wi 0, wi 0, wi 0, wi 0, wi 0, wi 0, wi 0, wi 0]), (320, .var [wi 0, wi a1.fc, wi a1.fx, ws (ByteArray.mk #[]), wi 0, wi 0, wi 0, wi 0, wi 0, wi 0, wi 0, wi 0, ws (ByteArray.mk #[]), wi 0, wi 0, wi 0, wi 0, wi 0, wi 0, wi 0, wi 0])])) ?_ fun w7 => rz fun h => ?_
 ·intro y1 S hS h; cbv; revert h; refine fk ?_ ?_ <;> intro h <;> cbv
  ·exact dn
  revert h; refine cu (fun y8 => some (sp 74 [(2, .c (.ptr 128 0)), (3, .c (.ptr 192 0)), (4, .c (.ptr 256 0)), (5, .c (.ptr 320 0)), (18, .c (.v (.bool y8)))] [(128, .var [.bs (U_ a0.fC) 4 (row G_ (eC U_ G_) a0.fC)]), (192, .var (cE a1)), (256, .var [wi 0, wi 0, wi 0, ws (ByteArray.mk #[]), wi 0, wi 0, wi 0, wi 0, wi 0, wi 0, wi 0, wi 0, ws (ByteArray.mk #[]), wi 0, wi 0, wi 0, wi 0, wi 0, wi 0, wi 0, wi 0]), (320, .var [wi 0, wi a1.fc, wi a1.fx, ws (ByteArray.mk #[]), wi 0, wi 0, wi 0, wi 0, wi 0, wi 0, wi 0, wi 0, ws (ByteArray.mk #[]), wi 0, wi 0, wi 0, wi 0, wi 0, wi 0, wi 0, wi 0])])) (fun y8 S hS h => rg) fun w14 => rz fun h => ?_
  cbv; exact dn
 cbv; obtain ⟨z19, hy18, hz20⟩ := ob_ h
 obtain ⟨S, hS⟩ : ∃ S, S = (match z19 with | .inl _ => none | .inr y17 => some (sp 74 [(2, .c (.ptr 128 0)), (3, .c (.ptr 192 0)), (4, .c (.ptr 256 0)), (5, .c (.ptr 320 0))] [(128, .var [.bs (U_ a0.fC) 4 (row G_ (eC U_ G_) a0.fC)]), (192, .var (cE a1)), (256, .var [wi 0, wi 0, wi 0, ws (ByteArray.mk #[]), wi 0, wi 0, wi 0, wi 0, wi 0, wi 0, wi 0, wi 0, ws (ByteArray.mk #[]), wi 0, wi 0, wi 0, wi 0, wi 0, wi 0, wi 0, wi 0]), (320, .var [wi 0, wi a1.fc, wi a1.fx, ws (ByteArray.mk #[]), wi 0, wi 0, wi 0, wi 0, wi 0, wi 0, wi 0, wi 0, ws (ByteArray.mk #[]), wi 0, wi 0, wi 0, wi 0, wi 0, wi 0, wi 0, wi 0])])) := ⟨_, rfl⟩
 refine ⟨S, ?_, ?_⟩
 ·have h := hy18; clear hy18; cbv; revert h; refine fk ?_ ?_ <;> intro h <;> cbv
  ·obtain ⟨r23, h24, he25⟩ := ob_ h; injection he25 with he25; subst he25; injection hz20 with hz20; subst hz20; have h := h24; exact df
  exact dn
 ·clear hy18; subst hS; rcases z19 with _ | y17
  ·trivial
  ·have h := hz20; clear hz20; cbv; revert h; refine ra fun c27 h => ?_
   revert h; refine cu (fun y28 => some (sp 74 [(3, .c (.ptr 192 0)), (4, .c (.ptr 256 0)), (5, .c (.ptr 320 0))] [(192, .var (cE a1)), (256, .var [wi 0, wi 0, wi 0, ws (ByteArray.mk #[]), wi 0, wi 0, wi 0, wi 0, wi 0, wi 0, wi 0, wi 0, ws (ByteArray.mk #[]), wi 0, wi 0, wi 0, wi 0, wi 0, wi 0, wi 0, wi 0]), (320, .var [wi 0, wi a1.fc, wi a1.fx, ws y28.2.2.2.2.2.1, wi y28.1, wi y28.2.1, wi y28.2.2.1, wi y28.2.2.2.1, wi y28.2.2.2.2.1, wi y28.2.2.2.2.2.2.1, wi y28.2.2.2.2.2.2.2.1, wi y28.2.2.2.2.2.2.2.2.1, ws y28.2.2.2.2.2.2.2.2.2.1, wi y28.2.2.2.2.2.2.2.2.2.2.1, wi y28.2.2.2.2.2.2.2.2.2.2.2.1, wi y28.2.2.2.2.2.2.2.2.2.2.2.2.1, wi y28.2.2.2.2.2.2.2.2.2.2.2.2.2.1, wi y28.2.2.2.2.2.2.2.2.2.2.2.2.2.2.1, wi y28.2.2.2.2.2.2.2.2.2.2.2.2.2.2.2.1, wi y28.2.2.2.2.2.2.2.2.2.2.2.2.2.2.2.2.1, wi y28.2.2.2.2.2.2.2.2.2.2.2.2.2.2.2.2.2])])) ?_ ?_
   ·intro y28 S hS h; cbv; revert h; refine fk ?_ ?_ <;> intro h <;> cbv
    ·revert h; refine ra fun c52 h => ?_; exact dn
    revert h; refine cu (fun y53 => some (sp 74 [(3, .c (.ptr 192 0)), (4, .c (.ptr 256 0)), (5, .c (.ptr 320 0))] [(192, .var (cE a1)), (256, .var [wi 0, wi 0, wi 0, ws (ByteArray.mk #[]), wi 0, wi 0, wi 0, wi 0, wi 0, wi 0, wi 0, wi 0, ws (ByteArray.mk #[]), wi 0, wi 0, wi 0, wi 0, wi 0, wi 0, wi 0, wi 0]), (320, .var [wi 0, wi a1.fc, wi a1.fx, ws y53.2.2.2.2.1, wi 0, wi 0, wi 0, wi 0, wi 0, wi y53.1, wi y53.2.1, wi y53.2.2.1, ws y53.2.2.2.1, wi y53.2.2.2.2.2.1, wi y53.2.2.2.2.2.2.1, wi y53.2.2.2.2.2.2.2.1, wi y53.2.2.2.2.2.2.2.2.1, wi y53.2.2.2.2.2.2.2.2.2.1, wi y53.2.2.2.2.2.2.2.2.2.2.1, wi y53.2.2.2.2.2.2.2.2.2.2.2.1, wi y53.2.2.2.2.2.2.2.2.2.2.2.2])])) ?_ ?_
    ·intro y53 S hS h; cbv; revert h; refine fk ?_ ?_ <;> intro h <;> cbv
     ·revert h; refine ra fun c72 h => ?_; exact dn
     revert h; refine cu (fun y73 => some (sp 74 [(3, .c (.ptr 192 0)), (4, .c (.ptr 256 0)), (5, .c (.ptr 320 0))] [(192, .var (cE a1)), (256, .var [wi 0, wi 0, wi 0, ws (ByteArray.mk #[]), wi 0, wi 0, wi 0, wi 0, wi 0, wi 0, wi 0, wi 0, ws (ByteArray.mk #[]), wi 0, wi 0, wi 0, wi 0, wi 0, wi 0, wi 0, wi 0]), (320, .var [wi 0, wi a1.fc, wi a1.fx, ws y73.2.2.2.2.2.2.2.2, wi 0, wi 0, wi 0, wi 0, wi 0, wi 0, wi 0, wi 0, ws (ByteArray.mk #[]), wi y73.1, wi y73.2.1, wi y73.2.2.1, wi y73.2.2.2.1, wi y73.2.2.2.2.1, wi y73.2.2.2.2.2.1, wi y73.2.2.2.2.2.2.1, wi y73.2.2.2.2.2.2.2.1])])) (fun y73 S hS h => rg) ?_
     rintro ⟨w79, w80, w81, w82, w83, w84, w85, w86, w87⟩ h; replace h := oz (oz (oz (oz (oz (oz (oz (oz (oz h)))))))); dsimp only at h; cbv; exact dn
    rintro ⟨w59, w60, w61, w62, w63, w64, w65, w66, w67, w68, w69, w70, w71⟩ h; replace h := oz (oz (oz (oz (oz (oz (oz (oz (oz (oz (oz (oz (oz h)))))))))))); dsimp only at h; cbv; exact dn
   rintro ⟨w34, w35, w36, w37, w38, w39, w40, w41, w42, w43, w44, w45, w46, w47, w48, w49, w50, w51⟩ h; replace h := oz (oz (oz (oz (oz (oz (oz (oz (oz (oz (oz (oz (oz (oz (oz (oz (oz (oz h))))))))))))))))); dsimp only at h; cbv
   revert h; refine cu (fun y92 => some (sp 74 [(4, .c (.ptr 256 0)), (5, .c (.ptr 320 0))] [(256, .var [wi 0, wi 0, wi 0, ws (ByteArray.mk #[]), wi 0, wi 0, wi 0, wi 0, wi 0, wi 0, wi 0, wi 0, ws (ByteArray.mk #[]), wi 0, wi 0, wi 0, wi 0, wi 0, wi 0, wi 0, wi 0]), (320, .var [wi y92, wi a1.fc, wi a1.fx, ws w39, wi w34, wi w35, wi w36, wi w37, wi w38, wi w40, wi w41, wi w42, ws w43, wi w44, wi w45, wi w46, wi w47, wi w48, wi w49, wi w50, wi w51])])) (fun y92 S hS h => rg) fun w98 => rz fun h => ?_
   cbv; exact df

def Lq38_x12 (a1 : List TE) : (Int × (List TE) × (List TC)) -> Option ((Int × (List TE) × (List TC)) ⊕ ((Int × Int) ⊕ ((List TE) × (List TC)))) := fun x12 =>
 letO x12.1 fun v9 =>
 letO x12.2.1 fun v10 =>
 letO x12.2.2 fun v11 =>
 br (std.lt v9 (std.ofN (len a1)))
 (req (std.inR v9 (len a1)) <|
 (Fq37 (TL.mk v11) (gd a1 (std.toN v9))).bind fun y25 =>
 br (std.not (std.eq y25 0))
 (some (.inr (.inl (y25, v9))))
 (req (std.inR v9 (len a1)) <|
 (Fq30 (TL.mk v11) (gd a1 (std.toN v9))).bind fun y28 =>
 letO ([y28] : List TE) fun l30 =>
 req (std.room (std.nadd (len l30) (len v10)) 184) <|
 letO (l30 ++ v10) fun l32 =>
 req (std.inR v9 (len a1)) <|
 (Fq48 (TL.mk v11) (gd a1 (std.toN v9))).bind fun y36 =>
 some (.inl (std.add .i64 v9 1, l32, y36.fC))))
 (some (.inr (.inr (v10, v11))))
/-- spec.l13All -/
def Fq38 (a0 : TL) (a1 : List TE) : Option (TL × (List TE) × Int × Int) :=
  (Fq9 a0).bind fun y1 =>
  br (!(y1))
  (some ((TL.mk ([] : List TC)), ([] : List TE), (1 : Int), ((-1) : Int)))
  ((Fq1 (std.ofN (len a1)) 1 8).bind fun y3 =>
  br (!(y3))
  (some ((TL.mk ([] : List TC)), ([] : List TE), (3 : Int), ((-1) : Int)))
  ((Fq7 a0).bind fun y5 =>
  letO ([] : List TE) fun l7 =>
  (whileP (σ := Int × (List TE) × (List TC)) (ρ := (Int × Int) ⊕ ((List TE) × (List TC))) (Lq38_x12 a1) (0, l7, y5.fC)).bind fun y13 =>
  (match y13 with
 | .inl y13k0 => (
  letO y13k0.1 fun w40 =>
  letO y13k0.2 fun w41 =>
  some ((TL.mk ([] : List TC)), ([] : List TE), w40, w41))
 | .inr y13m0 =>
  letO y13m0 fun y13k1 =>
  letO y13k1.1 fun w42 =>
  letO y13k1.2 fun w43 =>
  some ((TL.mk w43), w42, (0 : Int), ((-1) : Int)))))
theorem runq38 (a0 : TL) (a1 : List TE) (r : TL × (List TE) × Int × Int) (h : Fq38 a0 a1 = some r) : Fun prog 43 [.agg [.bs (len a0.fC) 4 (row gd (eC len gd) a0.fC)], .c (.bs (len a1) 21 (row gd (eE) a1))] [] (.tup [.agg [.os 64000 0 (len r.1.fC)], .c (.os 64002 0 (len r.2.1)), .c (wi r.2.2.1), .c (wi r.2.2.2)]) [(64000, .arr .rw [] (len r.1.fC) 4 (row gd (oC len gd) r.1.fC)), (64002, .arr .rw [] (len r.2.1) 21 (row gd (eE) r.2.1))] true := by
 refine ow [] func43 ntmps43 ?_ (hv := (fun _ => ⟨(by simp [AV.flat, AV.flat1, AC.flat]), ⟨fun i _ j _ => fl_oncCell _ _, fun i _ j _ => val_flat (vl_encEdit _ _), tv⟩⟩)); unfold Fq38 at h; unfold Lq38_x12 at h; have hfq9 := @runq9; have hfq7 := @runq7; have hfq1 := @runq1
 have hfq37 := @runq37; have hfq48 := @runq48; have hfq30 := @runq30; generalize hU : @len = U_, hG_ : @gd = G_, hA : std = A, hP : prog = P at *; cbv; revert h; refine rk0 (hfq9 _) fun y1 h => ?_; cbv; revert h; refine fk ?_ ?_ <;> intro h <;> cbv
 ·injection h with h; subst h
  refine ⟨(sp 58 [(4, .c (.ptr 256 0)), (5, .c (.os 64002 0 (U_ ([] : List TE)))), (6, .c (wi 1)), (7, .c (wi (-1)))] [(256, .var [.os 64000 0 (U_ ([] : List TC))]), (64002, .arr .rw [] (U_ ([] : List TE)) 21 (row G_ (eE) ([] : List TE))), (64000, .arr .rw [] (U_ ([] : List TC)) 4 (row G_ (oC U_ G_) ([] : List TC)))]), ?_, ?_⟩
  ·refine St.le_trans (le_nilV 256 0 64000 4 (row G_ (oC U_ G_) ([] : List TC)) (by decide) (by decide) rfl rfl) ?_; refine St.le_trans (le_nilT 5 64002 21 (row G_ (eE) ([] : List TE)) (by decide) rfl) ?_; subst hU; exact zb
  ·subst hU; exact ⟨lR _, zo, rfl⟩
 revert h; refine rk0 (hfq1 _ _ _) fun y3 h => ?_; cbv; revert h; refine fk ?_ ?_ <;> intro h <;> cbv
 ·injection h with h; subst h
  refine ⟨(sp 58 [(4, .c (.ptr 256 0)), (5, .c (.os 64002 0 (U_ ([] : List TE)))), (6, .c (wi 3)), (7, .c (wi (-1)))] [(256, .var [.os 64000 0 (U_ ([] : List TC))]), (64002, .arr .rw [] (U_ ([] : List TE)) 21 (row G_ (eE) ([] : List TE))), (64000, .arr .rw [] (U_ ([] : List TC)) 4 (row G_ (oC U_ G_) ([] : List TC)))]), ?_, ?_⟩
  ·refine St.le_trans (le_nilV 256 0 64000 4 (row G_ (oC U_ G_) ([] : List TC)) (by decide) (by decide) rfl rfl) ?_; refine St.le_trans (le_nilT 5 64002 21 (row G_ (eE) ([] : List TE)) (by decide) rfl) ?_; subst hU; exact zb
  ·subst hU; exact ⟨lR _, zo, rfl⟩
 revert h; refine rk [] [(64000, 1408)] (hfq7 _) (fun _ => zf) fun y5 h => ⟨_, rfl, _, _, rfl, fun _ _ _ _ => .refl _, ?_⟩
 cbv; revert h; refine rl fun l7 hl7 h => ?_; have e8 : 0 = U_ l7 := by subst hl7 hU; rfl
 refine ⟨_, (co e8), _, row G_ (eE) l7, e8, wO ?_, ?_⟩
 ·intro i hi j hj; rw [<- e8] at hi; subst hl7; subst hG_; omega
 cbv
 revert h; refine lc (fun x => (sp 58 [(1, .c (.bs (U_ a1) 21 (row G_ (eE) a1))), (4, .c (.ptr 256 0)), (8, .c (.ptr 512 0)), (9, .c (.os 62000 0 (U_ x.2.1))), (10, .c (wi x.1))] [(256, .var [.v (.slice none 0 0)]), (512, .var [.os 62002 0 (U_ x.2.2)]), (62000, .arr .rw [] (U_ x.2.1) 21 (row G_ (eE) x.2.1)), (62002, .arr .rw [] (U_ x.2.2) 4 (row G_ (oC U_ G_) x.2.2))])) (fun y e s => (match y with | .inl w => e = .ret /\ s.le (sp 58 [(4, .c (.ptr 256 0)), (5, .c (.v (.slice none 0 0))), (6, .c (wi w.1)), (7, .c (wi w.2))] [(256, .var [.v (.slice none 0 0)])]) | .inr w0 => (fun (w : (List TE) × (List TC)) => e = .exit 0 /\ s.le (sp 58 [(4, .c (.ptr 256 0)), (8, .c (.ptr 512 0)), (9, .c (.os 62000 0 (U_ w.1)))] [(256, .var [.v (.slice none 0 0)]), (512, .var [.os 62002 0 (U_ w.2)]), (62000, .arr .rw [] (U_ w.1) 21 (row G_ (eE) w.1)), (62002, .arr .rw [] (U_ w.2) 4 (row G_ (oC U_ G_) w.2))])) w0)) ?_ ?_ ?_
 ·show St.le _ _; refine St.le_trans (le_ren 1472 62000 (by decide) rfl) ?_; refine St.le_trans (le_ren 1408 62002 (by decide) rfl) ?_; exact zb
 ·rintro ⟨v9, v10, v11⟩ z h K hK hY; replace h := oz (oz (oz h)); dsimp only at h; cbv; revert h; refine fk ?_ ?_ <;> intro h <;> cbv
  ·revert h; refine ra fun c24 h => ?_; revert h; refine rk [] [] (hfq37 _ _) (fun _ => zg (lc_ (le_agg ⟨gD (rC) (ln_oncCell) rfl rfl rfl, tv⟩) (zs1))) fun y25 h => ?_; cbv; revert h; refine fk ?_ ?_ <;> intro h <;> cbv
   ·exact dy
   revert h; refine ra fun c27 h => ?_; revert h; refine rk [] [] (hfq30 _ _) (fun _ => zg (lc_ (le_agg ⟨gD (rC) (ln_oncCell) rfl rfl rfl, tv⟩) (zs1))) fun y28 h => ?_; cbv; revert h; refine rl fun l30 hl30 h => ?_; have e31 : 1 = U_ l30 := by subst hl30 hU; rfl
   refine ⟨_, (co e31), _, row G_ (eE) l30, e31, wO ?_, ?_⟩
   ·intro i hi j hj; rw [<- e31] at hi; subst hl30; subst hG_
    obtain rfl : i = 0 := (by omega) <;> obtain rfl | rfl | rfl | rfl | rfl | rfl | rfl | rfl | rfl | rfl | rfl | rfl | rfl | rfl | rfl | rfl | rfl | rfl | rfl | rfl | rfl : j = 0 \/ j = 1 \/ j = 2 \/ j = 3 \/ j = 4 \/ j = 5 \/ j = 6 \/ j = 7 \/ j = 8 \/ j = 9 \/ j = 10 \/ j = 11 \/ j = 12 \/ j = 13 \/ j = 14 \/ j = 15 \/ j = 16 \/ j = 17 \/ j = 18 \/ j = 19 \/ j = 20 := (by omega)
    all_goals rfl
   cbv; revert h; refine rq fun c34 => rl fun l32 hl32 h => ?_; have e33 := nl hA hU hl32; refine ⟨c34, _, (co e33), _, row G_ (eE) l32, e33, wO ?_, ?_⟩
   ·subst hG_ hU hA; exact app_os (off := 0) (pl_encEdit) hl32 (Nat.le_refl _)
   cbv; revert h; refine ra fun c35 h => ?_; revert h; refine rk [(5, 62002)] [(64000, 3520)] (hfq48 _ _) (fun _ => zf) fun y36 h => ⟨_, rfl, _, _, rfl, fun _ _ _ _ => .refl _, ?_⟩
   cbv; injection h with h; refine hK _ h.symm _ ?_; refine St.le_trans (le_swap 3008 62000 (by decide) (by decide)) ?_; refine St.le_trans (le_ren 3520 62002 (by decide) rfl) ?_; exact zb
  exact dy
 intro y13 h e22 s23 q21 hne; rcases y13 with y13k0 | y13m0
 ·replace h := h; obtain ⟨rfl, q21⟩ := q21; obtain ⟨y13k0_0, y13k0_1⟩ := y13k0; revert h; refine rl fun w40 hw40 h => ?_; have hw40 : w40 = y13k0_0 := hw40; subst hw40; revert h; refine rz fun h => ?_; cbv; injection h with h; subst h
  refine ⟨(sp 58 [(4, .c (.ptr 256 0)), (5, .c (.os 64002 0 (U_ ([] : List TE)))), (6, .c (wi w40)), (7, .c (wi y13k0_1))] [(256, .var [.os 64000 0 (U_ ([] : List TC))]), (64002, .arr .rw [] (U_ ([] : List TE)) 21 (row G_ (eE) ([] : List TE))), (64000, .arr .rw [] (U_ ([] : List TC)) 4 (row G_ (oC U_ G_) ([] : List TC)))]), ?_, ?_⟩
  ·refine St.le_trans q21 ?_; refine St.le_trans (le_nilV 256 0 64000 4 (row G_ (oC U_ G_) ([] : List TC)) (by decide) (by decide) rfl rfl) ?_; refine St.le_trans (le_nilT 5 64002 21 (row G_ (eE) ([] : List TE)) (by decide) rfl) ?_; subst hU; exact zb
  ·subst hU; exact ⟨lR _, zo, rfl⟩
 ·revert h; refine rz fun h => ?_; obtain ⟨rfl, q21⟩ := q21; obtain ⟨y13k1_0, y13k1_1⟩ := y13m0; revert h; refine rl fun w42 hw42 h => ?_; have hw42 : w42 = y13k1_0 := hw42; subst hw42; revert h; refine rz fun h => ?_; cbv; refine ⟨_, q21, ?_⟩; cbv; injection h with h; subst h; exact ⟨_, St.le_trans (le_ren 62002 64000 (by decide) rfl) ((le_ren 62000 64002 (by decide) rfl)), lR _, zo, rfl⟩

/-- spec.ApplyEdits -/
def Fq87 (a0 : TL) (a1 : List TE) : Option (TL × Int × Int) :=
 (Fq38 a0 a1).bind fun y1 =>
 some (y1.1, y1.2.2.1, y1.2.2.2)
theorem runq87 (a0 : TL) (a1 : List TE) (r : TL × Int × Int) (h : Fq87 a0 a1 = some r) : Fun prog 21 [.agg [.bs (len a0.fC) 4 (row gd (eC len gd) a0.fC)], .c (.bs (len a1) 21 (row gd (eE) a1))] [] (.tup [.agg [.os 64000 0 (len r.1.fC)], .c (wi r.2.1), .c (wi r.2.2)]) [(64000, .arr .rw [] (len r.1.fC) 4 (row gd (oC len gd) r.1.fC))] true := by
 refine ow [] func21 ntmps21 ?_ (hv := (fun _ => ⟨(by simp [AV.flat, AV.flat1, AC.flat]), ⟨fun i _ j _ => fl_oncCell _ _, tv⟩⟩)); unfold Fq87 at h; have hfq38 := @runq38; generalize hU : @len = U_, hG_ : @gd = G_, hA : std = A, hP : prog = P at *; cbv
 revert h; refine rk [] [(64000, 896), (64002, 898)] (hfq38 _ _) (fun _ => zf) fun y1 h => ⟨_, rfl, _, _, rfl, fun _ _ _ _ => .refl _, _, _, rfl, fun _ _ _ _ => .refl _, ?_⟩
 cbv; injection h with h; subst h; exact ⟨_, le_ren 896 64000 (by decide) rfl, lR _, zo, rfl⟩

def Lq63_x3 (a0 : List Int) : (Int × Int) -> Option ((Int × Int) ⊕ ((Int))) := fun x3 =>
 letO x3.1 fun v1 =>
 letO x3.2 fun v2 =>
 br (std.lt v1 (std.ofN (len a0)))
 (req (std.inR v1 (len a0)) <|
 some (.inl (std.add .i64 v1 1, std.add .u64 (std.add .u64 (std.mul .u64 v2 1099511628211) (std.conv .u64 (gd a0 (std.toN v1)))) 3)))
 (some (.inr v2))
/-- laws.roll -/
def Fq63 (a0 : List Int) (a1 : Int) : Option (Tdice) :=
 (whileP (σ := Int × Int) (ρ := (Int)) (Lq63_x3 a0) (0, std.add .u64 (std.mul .u64 a1 7919) (std.conv .u64 (std.ofN (len a0))))).bind fun y4 =>
 letO y4 fun y4k0 =>
 letO y4k0 fun w17 =>
 some (Tdice.mk a0 0 w17)
theorem runq63 (a0 : List Int) (a1 : Int) (r : Tdice) (h : Fq63 a0 a1 = some r) : Fun prog 23 [.c (.bs (len a0) 1 (row gd (encI .u8) a0)), .c (.v (.int .u64 a1))] [] (.c (.ptr 64000 0)) [(64000, .var [.bs (len r.gb) 1 (row gd (encI .u8) r.gb), wi r.gi, .v (.int .u64 r.gh)])] false := by
 refine ow [] func23 ntmps23 ?_ (hv := (fun h => by cases h)); unfold Fq63 at h; unfold Lq63_x3 at h; generalize hU : @len = U_, hG_ : @gd = G_, hA : std = A, hP : prog = P at *; cbv
 revert h; refine ln (.exit 0) (fun x => (sp 38 [(0, .c (.bs (U_ a0) 1 (row G_ (encI .u8) a0))), (5, .c (.ptr 960 0)), (6, .c (wi x.1))] [(960, .var [.bs (U_ a0) 1 (row G_ (encI .u8) a0), wi 0, .v (.int .u64 x.2)])])) (fun w => (sp 38 [(5, .c (.ptr 960 0))] [(960, .var [.bs (U_ a0) 1 (row G_ (encI .u8) a0), wi 0, .v (.int .u64 w)])])) zb ?_ ?_
 ·rintro ⟨v1, v2⟩ z h K hK hY; replace h := oz (oz h); dsimp only at h; cbv; revert h; refine fk ?_ ?_ <;> intro h <;> cbv
  ·revert h; refine ra fun c15 h => ?_; exact dm
  exact dx
 intro w17 h s q12; replace h := oz (oz h); cbv; refine ⟨_, q12, ?_⟩; cbv; injection h with h; subst h; exact ⟨_, le_ren 960 64000 (by decide) rfl, lR _, zo, rfl⟩

/-- laws.dice).below -/
def Fq85 (a0 : Tdice) (a1 : Int) : Option (Int × Tdice) :=
 req (std.nneg 33) <|
 ((
 br (std.lt a0.gi (std.ofN (len a0.gb)))
 (req (std.inR a0.gi (len a0.gb)) <|
 some (std.add .i64 (std.conv .i64 (std.bitand .u64 (std.shr .u64 (std.add .u64 (std.mul .u64 a0.gh 6364136223846793005) 1442695040888963407) 33) 16777215)) (std.conv .i64 (gd a0.gb (std.toN a0.gi))), std.add .i64 a0.gi 1))
 (some (std.conv .i64 (std.bitand .u64 (std.shr .u64 (std.add .u64 (std.mul .u64 a0.gh 6364136223846793005) 1442695040888963407) 33) 16777215), a0.gi))
 ) : Option (Int × Int)).bind fun y2 =>
 letO y2.1 fun w8 =>
 letO y2.2 fun w9 =>
 req (std.nz a1) <|
 some (std.rem w8 a1, (Tdice.mk a0.gb w9 (std.add .u64 (std.mul .u64 a0.gh 6364136223846793005) 1442695040888963407)))
theorem runq85 (a0 : Tdice) (a1 : Int) (r : Int × Tdice) (h : Fq85 a0 a1 = some r) : Fun prog 24 [.c (.ptr 5 0), .c (wi a1)] [(5, .var [.bs (len a0.gb) 1 (row gd (encI .u8) a0.gb), wi a0.gi, .v (.int .u64 a0.gh)])] (.c (wi r.1)) [(5, .var [.bs (len r.2.gb) 1 (row gd (encI .u8) r.2.gb), wi r.2.gi, .v (.int .u64 r.2.gh)])] false := by
 refine ow [100031] func24 ntmps24 ?_ (hv := (fun h => by cases h)); unfold Fq85 at h; generalize hU : @len = U_, hG_ : @gd = G_, hA : std = A, hP : prog = P at *; cbv; revert h; refine ra fun c1 h => ?_
 revert h; refine cu (fun y2 => some (sp 56 [(1, .c (wi a1)), (5, .c (wi y2.1))] [(5, .var [.bs (U_ a0.gb) 1 (row G_ (encI .u8) a0.gb), wi y2.2, .v (.int .u64 (A.add .u64 (A.mul .u64 a0.gh 6364136223846793005) 1442695040888963407))])])) (fun y2 S hS h => rg) ?_; rintro ⟨w8, w9⟩ h; replace h := oz (oz h); dsimp only at h; cbv
 revert h; refine ra fun c12 h => ?_; exact df
set_option maxHeartbeats 40000000
def Lq43_x2 (a0 : List TS) (a1 : List TS) : (Int) -> Option ((Int) ⊕ ((Unit) ⊕ (Unit))) := fun x2 =>
 letO x2 fun v1 =>
 br (std.lt v1 (std.ofN (len a0)))
 (req (std.inR v1 (len a0)) <|
 req (std.inR v1 (len a1)) <|
 br (std.not (std.band (std.eq (gd a0 (std.toN v1)).fy (gd a1 (std.toN v1)).fy) (std.band (std.band (std.eq (gd a0 (std.toN v1)).fb.fX0 (gd a1 (std.toN v1)).fb.fX0) (std.band (std.eq (gd a0 (std.toN v1)).fb.fY0 (gd a1 (std.toN v1)).fb.fY0) (std.band (std.eq (gd a0 (std.toN v1)).fb.fX1 (gd a1 (std.toN v1)).fb.fX1) (std.band (std.eq (gd a0 (std.toN v1)).fb.fY1 (gd a1 (std.toN v1)).fb.fY1) (true))))) (true))))
 (some (.inr (.inl ())))
 (some (.inl (std.add .i64 v1 1))))
 (some (.inr (.inr ())))
/-- impl.Shape] -/
def Fq43 (a0 : List TS) (a1 : List TS) : Option (Bool) :=
  br (std.not (std.eq (std.ofN (len a0)) (std.ofN (len a1))))
  (some false)
  ((whileP (σ := Int) (ρ := (Unit) ⊕ (Unit)) (Lq43_x2 a0 a1) 0).bind fun y3 =>
  (match y3 with
 | .inl y3k0 => (
  some false)
 | .inr y3m0 =>
  some true))
theorem runq43 (a0 : List TS) (a1 : List TS) (r : Bool) (h : Fq43 a0 a1 = some r) : Fun prog 75 [.c (.bs (len a0) 5 (row gd (eS) a0)), .c (.bs (len a1) 5 (row gd (eS) a1))] [] (.c (.v (.bool r))) [] true := by
 refine ow [] func75 ntmps75 ?_; unfold Fq43 at h; unfold Lq43_x2 at h; generalize hU : @len = U_, hG_ : @gd = G_, hA : std = A, hP : prog = P at *; cbv; revert h; refine fk ?_ ?_ <;> intro h <;> cbv
 ·exact df
 revert h; refine lc (fun x => (sp 26 [(0, .c (.bs (U_ a0) 5 (row G_ (eS) a0))), (1, .c (.bs (U_ a1) 5 (row G_ (eS) a1))), (12, .c (wi (A.ofN (U_ a0)))), (13, .c (wi x))] [])) (fun y e s => (match y with | .inl w => e = .ret /\ s.le (sp 26 [(4, .c (.v (.bool false)))] []) | .inr w0 => (fun (w : Unit) => e = .exit 0 /\ s.le (sp 26 [] [])) w0)) zb ?_ ?_
 ·intro v1 z h K hK hY; replace h := oz h; cbv; revert h; refine fk ?_ ?_ <;> intro h <;> cbv
  ·revert h; refine ra fun c14 h => ?_; revert h; refine ra fun c15 h => ?_; revert h; refine fk ?_ ?_ <;> intro h <;> cbv
   ·exact dy
   exact dm
  exact dy
 intro y3 h e12 s13 q11 hne; rcases y3 with y3k0 | y3m0
 ·replace h := h; obtain ⟨rfl, q11⟩ := q11; cbv; injection h with h; subst h; exact ⟨_, q11, lR _, zo, rfl⟩
 ·obtain ⟨rfl, q11⟩ := q11; cbv; refine ⟨_, q11, ?_⟩; cbv; exact df

def Lq44_x2 (a0 : List TB) (a1 : List TB) : (Int) -> Option ((Int) ⊕ ((Unit) ⊕ (Unit))) := fun x2 =>
 letO x2 fun v1 =>
 br (std.lt v1 (std.ofN (len a0)))
 (req (std.inR v1 (len a0)) <|
 req (std.inR v1 (len a1)) <|
 br (std.not (std.band (std.eq (gd a0 (std.toN v1)).fy (gd a1 (std.toN v1)).fy) (std.band (std.band (std.eq (gd a0 (std.toN v1)).fa.fX (gd a1 (std.toN v1)).fa.fX) (std.band (std.eq (gd a0 (std.toN v1)).fa.fY (gd a1 (std.toN v1)).fa.fY) (true))) (std.band (std.seq (gd a0 (std.toN v1)).fN (gd a1 (std.toN v1)).fN) (true)))))
 (some (.inr (.inl ())))
 (some (.inl (std.add .i64 v1 1))))
 (some (.inr (.inr ())))
/-- impl.Label] -/
def Fq44 (a0 : List TB) (a1 : List TB) : Option (Bool) :=
  br (std.not (std.eq (std.ofN (len a0)) (std.ofN (len a1))))
  (some false)
  ((whileP (σ := Int) (ρ := (Unit) ⊕ (Unit)) (Lq44_x2 a0 a1) 0).bind fun y3 =>
  (match y3 with
 | .inl y3k0 => (
  some false)
 | .inr y3m0 =>
  some true))
theorem runq44 (a0 : List TB) (a1 : List TB) (r : Bool) (h : Fq44 a0 a1 = some r) : Fun prog 76 [.c (.bs (len a0) 4 (row gd (eL_0) a0)), .c (.bs (len a1) 4 (row gd (eL_0) a1))] [] (.c (.v (.bool r))) [] true := by
 refine ow [] func76 ntmps76 ?_; unfold Fq44 at h; unfold Lq44_x2 at h; generalize hU : @len = U_, hG_ : @gd = G_, hA : std = A, hP : prog = P at *; cbv; revert h; refine fk ?_ ?_ <;> intro h <;> cbv
 ·exact df
 revert h; refine lc (fun x => (sp 26 [(0, .c (.bs (U_ a0) 4 (row G_ (eL_0) a0))), (1, .c (.bs (U_ a1) 4 (row G_ (eL_0) a1))), (12, .c (wi (A.ofN (U_ a0)))), (13, .c (wi x))] [])) (fun y e s => (match y with | .inl w => e = .ret /\ s.le (sp 26 [(4, .c (.v (.bool false)))] []) | .inr w0 => (fun (w : Unit) => e = .exit 0 /\ s.le (sp 26 [] [])) w0)) zb ?_ ?_
 ·intro v1 z h K hK hY; replace h := oz h; cbv; revert h; refine fk ?_ ?_ <;> intro h <;> cbv
  ·revert h; refine ra fun c14 h => ?_; revert h; refine ra fun c15 h => ?_; revert h; refine fk ?_ ?_ <;> intro h <;> cbv
   ·exact dy
   exact dm
  exact dy
 intro y3 h e12 s13 q11 hne; rcases y3 with y3k0 | y3m0
 ·replace h := h; obtain ⟨rfl, q11⟩ := q11; cbv; injection h with h; subst h; exact ⟨_, q11, lR _, zo, rfl⟩
 ·obtain ⟨rfl, q11⟩ := q11; cbv; refine ⟨_, q11, ?_⟩; cbv; exact df

def Lq45_x2 (a0 : List TI) (a1 : List TI) : (Int) -> Option ((Int) ⊕ ((Unit) ⊕ (Unit))) := fun x2 =>
 letO x2 fun v1 =>
 br (std.lt v1 (std.ofN (len a0)))
 (req (std.inR v1 (len a0)) <|
 req (std.inR v1 (len a1)) <|
 br (std.not (std.band (std.eq (gd a0 (std.toN v1)).fc (gd a1 (std.toN v1)).fc) (std.band (std.band (std.eq (gd a0 (std.toN v1)).fp.fo (gd a1 (std.toN v1)).fp.fo) (std.band (std.eq (gd a0 (std.toN v1)).fp.fX (gd a1 (std.toN v1)).fp.fX) (std.band (std.eq (gd a0 (std.toN v1)).fp.fY (gd a1 (std.toN v1)).fp.fY) (true)))) (std.band (std.eq (gd a0 (std.toN v1)).fK (gd a1 (std.toN v1)).fK) (std.band (std.eq (gd a0 (std.toN v1)).fR (gd a1 (std.toN v1)).fR) (std.band (std.eq (gd a0 (std.toN v1)).fu (gd a1 (std.toN v1)).fu) (std.band (std.eq (gd a0 (std.toN v1)).fv (gd a1 (std.toN v1)).fv) (true))))))))
 (some (.inr (.inl ())))
 (some (.inl (std.add .i64 v1 1))))
 (some (.inr (.inr ())))
/-- impl.Instance] -/
def Fq45 (a0 : List TI) (a1 : List TI) : Option (Bool) :=
  br (std.not (std.eq (std.ofN (len a0)) (std.ofN (len a1))))
  (some false)
  ((whileP (σ := Int) (ρ := (Unit) ⊕ (Unit)) (Lq45_x2 a0 a1) 0).bind fun y3 =>
  (match y3 with
 | .inl y3k0 => (
  some false)
 | .inr y3m0 =>
  some true))
theorem runq45 (a0 : List TI) (a1 : List TI) (r : Bool) (h : Fq45 a0 a1 = some r) : Fun prog 77 [.c (.bs (len a0) 8 (row gd (eI) a0)), .c (.bs (len a1) 8 (row gd (eI) a1))] [] (.c (.v (.bool r))) [] true := by
 refine ow [] func77 ntmps77 ?_; unfold Fq45 at h; unfold Lq45_x2 at h; generalize hU : @len = U_, hG_ : @gd = G_, hA : std = A, hP : prog = P at *; cbv; revert h; refine fk ?_ ?_ <;> intro h <;> cbv
 ·exact df
 revert h; refine lc (fun x => (sp 26 [(0, .c (.bs (U_ a0) 8 (row G_ (eI) a0))), (1, .c (.bs (U_ a1) 8 (row G_ (eI) a1))), (12, .c (wi (A.ofN (U_ a0)))), (13, .c (wi x))] [])) (fun y e s => (match y with | .inl w => e = .ret /\ s.le (sp 26 [(4, .c (.v (.bool false)))] []) | .inr w0 => (fun (w : Unit) => e = .exit 0 /\ s.le (sp 26 [] [])) w0)) zb ?_ ?_
 ·intro v1 z h K hK hY; replace h := oz h; cbv; revert h; refine fk ?_ ?_ <;> intro h <;> cbv
  ·revert h; refine ra fun c14 h => ?_; revert h; refine ra fun c15 h => ?_; revert h; refine fk ?_ ?_ <;> intro h <;> cbv
   ·exact dy
   exact dm
  exact dy
 intro y3 h e12 s13 q11 hne; rcases y3 with y3k0 | y3m0
 ·replace h := h; obtain ⟨rfl, q11⟩ := q11; cbv; injection h with h; subst h; exact ⟨_, q11, lR _, zo, rfl⟩
 ·obtain ⟨rfl, q11⟩ := q11; cbv; refine ⟨_, q11, ?_⟩; cbv; exact df

/-- impl.sameCell -/
def Fq93 (a0 : TC) (a1 : TC) : Option (Bool) :=
 ((
 br (std.seq a0.fN a1.fN)
 ((Fq43 a0.fS a1.fS).bind fun y8 =>
 br y8
 ((Fq44 a0.fL a1.fL).bind fun y10 =>
 br y10
 ((Fq45 a0.fI a1.fI).bind fun y12 =>
 some y12)
 (some false))
 (some false))
 (some false)
 ) : Option (Bool)).bind fun y1 =>
 letO y1 fun w7 =>
 some w7
theorem runq93 (a0 : TC) (a1 : TC) (r : Bool) (h : Fq93 a0 a1 = some r) : Fun prog 34 [.agg [ws a0.fN, .bs (len a0.fS) 5 (row gd (eS) a0.fS), .bs (len a0.fL) 4 (row gd (eL_0) a0.fL), .bs (len a0.fI) 8 (row gd (eI) a0.fI)], .agg [ws a1.fN, .bs (len a1.fS) 5 (row gd (eS) a1.fS), .bs (len a1.fL) 4 (row gd (eL_0) a1.fL), .bs (len a1.fI) 8 (row gd (eI) a1.fI)]] [] (.c (.v (.bool r))) [] true := by
 refine ow [1] func34 ntmps34 ?_; unfold Fq93 at h; have hfq45 := @runq45; have hfq44 := @runq44; have hfq43 := @runq43
 generalize hU : @len = U_, hG_ : @gd = G_, hA : std = A, hP : prog = P at *; cbv; revert h; refine cu (fun y1 => (sp 31 [(4, .c (.v (.bool y1)))] [])) ?_ fun w7 => rz fun h => ?_
 ·intro y1 S hS h; cbv; revert h; refine fk ?_ ?_ <;> intro h <;> cbv
  ·revert h; refine rk0 (hfq43 _ _) fun y8 h => ?_; cbv; revert h; refine fk ?_ ?_ <;> intro h <;> cbv
   ·revert h; refine rk0 (hfq44 _ _) fun y10 h => ?_; cbv; revert h; refine fk ?_ ?_ <;> intro h <;> cbv
    ·revert h; refine rk0 (hfq45 _ _) fun y12 h => ?_; cbv; exact dn
    exact dn
   exact dn
  exact dn
 cbv; exact df

def Lq47_x2 (a0 : List TC) (a1 : List TC) : (Int) -> Option ((Int) ⊕ ((Unit) ⊕ (Unit))) := fun x2 =>
 letO x2 fun v1 =>
 br (std.lt v1 (std.ofN (len a0)))
 (req (std.inR v1 (len a0)) <|
 req (std.inR v1 (len a1)) <|
 (Fq93 (gd a0 (std.toN v1)) (gd a1 (std.toN v1))).bind fun y16 =>
 br (!(y16))
 (some (.inr (.inl ())))
 (some (.inl (std.add .i64 v1 1))))
 (some (.inr (.inr ())))
/-- impl.Cell] -/
def Fq47 (a0 : List TC) (a1 : List TC) : Option (Bool) :=
  br (std.not (std.eq (std.ofN (len a0)) (std.ofN (len a1))))
  (some false)
  ((whileP (σ := Int) (ρ := (Unit) ⊕ (Unit)) (Lq47_x2 a0 a1) 0).bind fun y3 =>
  (match y3 with
 | .inl y3k0 => (
  some false)
 | .inr y3m0 =>
  some true))
theorem runq47 (a0 : List TC) (a1 : List TC) (r : Bool) (h : Fq47 a0 a1 = some r) : Fun prog 33 [.c (.bs (len a0) 4 (row gd (eC len gd) a0)), .c (.bs (len a1) 4 (row gd (eC len gd) a1)), .c (.fn 34 0 fun _ => .junk)] [] (.c (.v (.bool r))) [] true := by
 refine ow [] func33 ntmps33 ?_; unfold Fq47 at h; unfold Lq47_x2 at h; have hfq93 := @runq93; generalize hU : @len = U_, hG_ : @gd = G_, hA : std = A, hP : prog = P at *; cbv
 revert h; refine fk ?_ ?_ <;> intro h <;> cbv
 ·exact df
 revert h; refine lc (fun x => (sp 32 [(1, .c (.bs (U_ a1) 4 (row G_ (eC U_ G_) a1))), (2, .c (.fn 34 0 fun _ => .junk)), (15, .c (.bs (U_ a0) 4 (row G_ (eC U_ G_) a0))), (16, .c (wi (A.ofN (U_ a0)))), (17, .c (wi x))] [])) (fun y e s => (match y with | .inl w => e = .ret /\ s.le (sp 32 [(6, .c (.v (.bool false)))] []) | .inr w0 => (fun (w : Unit) => e = .exit 0 /\ s.le (sp 32 [] [])) w0)) zb ?_ ?_
 ·intro v1 z h K hK hY; replace h := oz h; cbv; revert h; refine fk ?_ ?_ <;> intro h <;> cbv
  ·revert h; refine ra fun c14 h => ?_; revert h; refine ra fun c15 h => ?_; revert h; refine rk0 (hfq93 _ _) fun y16 h => ?_; cbv; revert h; refine fk ?_ ?_ <;> intro h <;> cbv
   ·exact dy
   exact dm
  exact dy
 intro y3 h e12 s13 q11 hne; rcases y3 with y3k0 | y3m0
 ·replace h := h; obtain ⟨rfl, q11⟩ := q11; cbv; injection h with h; subst h; exact ⟨_, q11, lR _, zo, rfl⟩
 ·obtain ⟨rfl, q11⟩ := q11; cbv; refine ⟨_, q11, ?_⟩; cbv; exact df

/-- impl.SameLibrary -/
def Fq73 (a0 : TL) (a1 : TL) : Option (Bool) :=
 ((
 (Fq6 (TL.mk a0.fC)).bind fun y8 =>
 br y8
 ((Fq6 (TL.mk a1.fC)).bind fun y10 =>
 br y10
 ((Fq47 a0.fC a1.fC).bind fun y12 =>
 some y12)
 (some false))
 (some false)
 ) : Option (Bool)).bind fun y1 =>
 letO y1 fun w7 =>
 some w7
theorem runq73 (a0 : TL) (a1 : TL) (r : Bool) (h : Fq73 a0 a1 = some r) : Fun prog 12 [.agg [.bs (len a0.fC) 4 (row gd (eC len gd) a0.fC)], .agg [.bs (len a1.fC) 4 (row gd (eC len gd) a1.fC)]] [] (.c (.v (.bool r))) [] true := by
 refine ow [1] func12 ntmps12 ?_; unfold Fq73 at h; have hfq6 := @runq6; have hfq47 := @runq47; generalize hU : @len = U_, hG_ : @gd = G_, hA : std = A, hP : prog = P at *; cbv
 revert h; refine cu (fun y1 => (sp 18 [(4, .c (.v (.bool y1)))] [])) ?_ fun w7 => rz fun h => ?_
 ·intro y1 S hS h; cbv; revert h; refine rk0 (hfq6 _) fun y8 h => ?_; cbv; revert h; refine fk ?_ ?_ <;> intro h <;> cbv
  ·revert h; refine rk0 (hfq6 _) fun y10 h => ?_; cbv; revert h; refine fk ?_ ?_ <;> intro h <;> cbv
   ·revert h; refine rk0 (hfq47 _ _) fun y12 h => ?_; cbv; exact dn
   exact dn
  exact dn
 cbv; exact df
set_option maxHeartbeats 40000000
def Lq26_x96 (w89 : List Int) (y92 : Int × Tdice) : (Int × Int) -> Option ((Int × Int) ⊕ ((Int))) := fun x96 =>
 letO x96.1 fun v94 =>
 letO x96.2 fun v95 =>
 br (std.lt v94 (std.ofN (len w89)))
 (req (std.inR v94 (len w89)) <|
 ((
 br (std.le (gd w89 (std.nadd 0 (std.toN v94))) y92.1)
 (some v94)
 (some v95)
 ) : Option (Int)).bind fun y109 =>
 letO y109 fun w115 =>
 some (.inl (std.add .i64 v94 1, w115)))
 (some (.inr v95))
def Lq26_x38 (l32 : List (List TE)) : (ByteArray × Int × (List TL) × (List Int)) -> Option ((ByteArray × Int × (List TL) × (List Int)) ⊕ ((ByteArray × (List TL) × (List Int)))) := fun x38 =>
 letO x38.1 fun v34 =>
 letO x38.2.1 fun v35 =>
 letO x38.2.2.1 fun v36 =>
 letO x38.2.2.2 fun v37 =>
 br (std.lt v35 (std.ofN (len l32)))
 (((
 req (std.inR (std.sub .i64 (std.ofN (len v36)) 1) (len v36)) <|
 req (std.inR v35 (len l32)) <|
 (Fq87 (gd v36 (std.nadd 0 (std.toN (std.sub .i64 (std.ofN (len v36)) 1)))) (gd l32 (std.nadd 0 (std.toN v35)))).bind fun y60 =>
 some (y60.2.1, y60.1.fC)
 ) : Option (Int × (List TC))).bind fun y50 =>
 letO y50.1 fun w56 =>
 letO y50.2 fun w57 =>
 ((
 br (std.eq w56 0)
 (req (std.inR v35 (len l32)) <|
 (Fq28 (gd l32 (std.nadd 0 (std.toN v35)))).bind fun y72 =>
 req (std.room (std.nadd (std.slen v34) (std.slen y72)) 1) <|
 letO ([(TL.mk w57)] : List TL) fun l75 =>
 req (std.room (std.nadd (len v36) (len l75)) 24) <|
 letO (v36 ++ l75) fun l77 =>
 letO ([std.ofN (std.slen (std.scat v34 y72))] : List Int) fun l80 =>
 req (std.room (std.nadd (len v37) (len l80)) 8) <|
 letO (v37 ++ l80) fun l82 =>
 some (std.scat v34 y72, l77, l82))
 (some (v34, v36, v37))
 ) : Option (ByteArray × (List TL) × (List Int))).bind fun y62 =>
 letO y62.1 fun w68 =>
 letO y62.2.1 fun w69 =>
 letO y62.2.2 fun w70 =>
 some (.inl (w68, std.add .i64 v35 1, w69, w70)))
 (some (.inr (v34, v36, v37)))
/-- laws.FnJournalCut -/
def Fq26 (a0 : List Int) : Option (Bool) :=
 (Fq122 a0).bind fun y1 =>
 br y1
 (some true)
 (((
 (Fq78 a0).bind fun y11 =>
 some (y11.2, y11.1.fC)
 ) : Option ((List TE) × (List TC))).bind fun y3 =>
 letO y3.1 fun w9 =>
 letO y3.2 fun w10 =>
 (Fq9 (TL.mk w10)).bind fun y13 =>
 br (!(y13))
 ((Fq21 (TL.mk w10) (ByteArray.mk #[])).bind fun y15 =>
 some (std.eq y15.2.2 1))
 (((
 (Fq98 a0 5).bind fun y24 =>
 (Fq78 y24).bind fun y26 =>
 some y26.2
 ) : Option ((List TE))).bind fun y17 =>
 letO y17 fun w23 =>
 letO ([(TL.mk w10)] : List TL) fun l28 =>
 letO ([0] : List Int) fun l30 =>
 letO ([w9, w23, w9] : List (List TE)) fun l32 =>
 (whileP (σ := ByteArray × Int × (List TL) × (List Int)) (ρ := (ByteArray × (List TL) × (List Int))) (Lq26_x38 l32) ((ByteArray.mk #[]), 0, l28, l30)).bind fun y39 =>
 letO y39 fun y39k0 =>
 letO y39k0.1 fun w87 =>
 letO y39k0.2.1 fun w88 =>
 letO y39k0.2.2 fun w89 =>
 (Fq63 a0 521).bind fun y90 =>
 (Fq85 y90 (std.add .i64 (std.ofN (std.slen w87)) 1)).bind fun y92 =>
 (whileP (σ := Int × Int) (ρ := (Int)) (Lq26_x96 w89 y92) (0, 0)).bind fun y97 =>
 letO y97 fun y97k0 =>
 letO y97k0 fun w118 =>
 req (std.upTo y92.1 (std.slen w87)) <|
 (Fq21 (TL.mk w10) (std.ssub w87 0 (std.toN y92.1))).bind fun y120 =>
 (Fq21 (TL.mk w10) w87).bind fun y122 =>
 ((
 br (std.eq y120.2.2 0)
 (br (std.eq y120.2.1 w118)
 (req (std.inR w118 (len w88)) <|
 (Fq73 y120.1 (gd w88 (std.nadd 0 (std.toN w118)))).bind fun y132 =>
 br y132
 (br (std.eq y122.2.1 (std.sub .i64 (std.ofN (len w88)) 1))
 (req (std.inR (std.sub .i64 (std.ofN (len w88)) 1) (len w88)) <|
 (Fq73 y122.1 (gd w88 (std.nadd 0 (std.toN (std.sub .i64 (std.ofN (len w88)) 1))))).bind fun y135 =>
 some y135)
 (some false))
 (some false))
 (some false))
 (some false)
 ) : Option (Bool)).bind fun y124 =>
 letO y124 fun w130 =>
 some w130))
theorem runq26 (a0 : List Int) (r : Bool) (h : Fq26 a0 = some r) : Fun prog 6 [.c (.bs (len a0) 1 (row gd (encI .u8) a0))] [] (.c (.v (.bool r))) [] true := by
 refine ow [3, 7, 15, 29, 100080, 100114] func6 ntmps6 ?_; unfold Fq26 at h; unfold Lq26_x38 at h; unfold Lq26_x96 at h; have hfq28 := @runq28; have hfq21 := @runq21; have hfq73 := @runq73; have hfq122 := @runq122
 have hfq85 := @runq85; have hfq98 := @runq98; have hfq63 := @runq63; have hfq87 := @runq87; have hfq78 := @runq78; have hfq9 := @runq9; generalize hU : @len = U_, hG_ : @gd = G_, hA : std = A, hP : prog = P at *; cbv
 revert h; refine rk0 (hfq122 _) fun y1 h => ?_; cbv; revert h; refine fk ?_ ?_ <;> intro h <;> cbv
 ·exact df
 revert h; refine cu (fun y3 => (sp 164 [(0, .c (.bs (U_ a0) 1 (row G_ (encI .u8) a0))), (3, .c (.ptr 192 0)), (4, .c (.bs (U_ y3.1) 21 (row G_ (eE) y3.1)))] [(192, .var [.bs (U_ y3.2) 4 (row G_ (eC U_ G_) y3.2)])])) ?_ ?_
 ·intro y3 S hS h; cbv; revert h; refine rk [] [(64000, 1984)] (hfq78 _) (fun _ => zf) fun y11 h => ⟨_, rfl, _, _, rfl, fun _ _ _ _ => .refl _, ?_⟩
  cbv; injection h with h; subst h; subst hS; show St.le _ _; refine St.le_trans (le_fz 1984 (row G_ (eE) y11.2) rfl (fun _ _ => lent_plain (pl_encEdit _ _))) ?_; exact zb
 rintro ⟨w9, w10⟩ h; replace h := oz (oz h); dsimp only at h; cbv; revert h; refine rk0 (hfq9 _) fun y13 h => ?_; cbv; revert h; refine fk ?_ ?_ <;> intro h <;> cbv
 ·revert h; refine rk [] [(64000, 2496)] (hfq21 _ _) (fun _ => zf) fun y15 h => ⟨_, rfl, _, _, rfl, fun _ _ _ _ => .refl _, ?_⟩
  cbv; exact df
 revert h; refine cu (fun y17 => (sp 164 [(0, .c (.bs (U_ a0) 1 (row G_ (encI .u8) a0))), (3, .c (.ptr 192 0)), (4, .c (.bs (U_ w9) 21 (row G_ (eE) w9))), (9, .c (.bs (U_ y17) 21 (row G_ (eE) y17)))] [(192, .var [.bs (U_ w10) 4 (row G_ (eC U_ G_) w10)])])) ?_ fun w23 => rz fun h => ?_
 ·intro y17 S hS h; cbv; revert h; refine rk [] [(64000, 3008)] (hfq98 _ _) (fun _ => zf) fun y24 h => ⟨_, rfl, _, _, rfl, fun _ _ _ _ => .refl _, ?_⟩
  cbv; revert h; refine rk [] [(64000, 3072)] (hfq78 _) (fun _ => zg (lc_ (give_os (fun _ _ => rfl) rfl rfl rfl) (ln_))) fun y26 h => ⟨_, rfl, _, _, rfl, fun _ _ _ _ => .refl _, _, _, rfl, fun _ _ _ _ => .refl _, ?_⟩
  cbv; injection h with h; subst h; subst hS; show St.le _ _; refine St.le_trans (le_fz 3072 (row G_ (eE) y26.2) rfl (fun _ _ => lent_plain (pl_encEdit _ _))) ?_; exact zb
 cbv; revert h; refine rl fun l28 hl28 h => ?_; have e29 : 1 = U_ l28 := by subst hl28 hU; rfl
 refine ⟨_, (co e29), _, row G_ (encLibrary U_ G_) l28, e29, wO ?_, ?_⟩
 ·intro i hi j hj; rw [<- e29] at hi; subst hl28; subst hG_; obtain rfl : i = 0 := (by omega); all_goals obtain rfl : j = 0 := by omega
  all_goals rfl
 cbv; revert h; refine rl fun l30 hl30 h => ?_; have e31 : 1 = U_ l30 := by subst hl30 hU; rfl
 refine ⟨_, (co e31), _, row G_ (encI .i64) l30, e31, wO ?_, ?_⟩
 ·intro i hi j hj; rw [<- e31] at hi; subst hl30; subst hG_; obtain rfl : i = 0 := (by omega); all_goals obtain rfl : j = 0 := by omega
  all_goals rfl
 cbv; revert h; refine rl fun l32 hl32 h => ?_; have e33 : 3 = U_ l32 := by subst hl32 hU; rfl
 refine ⟨_, (co e33), _, row G_ (eN U_ G_ 21 (eE)) l32, e33, wO ?_, ?_⟩
 ·intro i hi j hj; rw [<- e33] at hi; subst hl32; subst hG_; obtain rfl | rfl | rfl : i = 0 \/ i = 1 \/ i = 2 := (by omega); all_goals obtain rfl : j = 0 := by omega
  all_goals rfl
 cbv
 revert h; refine ln (.exit 0) (fun x => (sp 164 [(0, .c (.bs (U_ a0) 1 (row G_ (encI .u8) a0))), (3, .c (.ptr 192 0)), (10, .c (.os 3328 0 (U_ x.2.2.1))), (11, .c (.os 3392 0 (U_ x.2.2.2))), (12, .c (ws x.1)), (13, .c (.os 3648 0 (U_ l32))), (14, .c (wi x.2.1))] [(192, .var [.bs (U_ w10) 4 (row G_ (eC U_ G_) w10)]), (3328, .arr .rw [] (U_ x.2.2.1) 1 (row G_ (encLibrary U_ G_) x.2.2.1)), (3392, .arr .rw [] (U_ x.2.2.2) 1 (row G_ (encI .i64) x.2.2.2)), (3648, .arr .rw [] (U_ l32) 1 (row G_ (eN U_ G_ 21 (eE)) l32))])) (fun w => (sp 164 [(0, .c (.bs (U_ a0) 1 (row G_ (encI .u8) a0))), (3, .c (.ptr 192 0)), (10, .c (.os 3328 0 (U_ w.2.1))), (11, .c (.os 3392 0 (U_ w.2.2))), (12, .c (ws w.1))] [(192, .var [.bs (U_ w10) 4 (row G_ (eC U_ G_) w10)]), (3328, .arr .rw [] (U_ w.2.1) 1 (row G_ (encLibrary U_ G_) w.2.1)), (3392, .arr .rw [] (U_ w.2.2) 1 (row G_ (encI .i64) w.2.2))])) zb ?_ ?_
 ·rintro ⟨v34, v35, v36, v37⟩ z h K hK hY; replace h := oz (oz (oz (oz h))); dsimp only at h; cbv; revert h; refine fk ?_ ?_ <;> intro h <;> cbv
  ·revert h; refine cu (fun y50 => (sp 164 [(0, .c (.bs (U_ a0) 1 (row G_ (encI .u8) a0))), (3, .c (.ptr 192 0)), (10, .c (.os 3328 0 (U_ v36))), (11, .c (.os 3392 0 (U_ v37))), (12, .c (ws v34)), (13, .c (.os 3648 0 (U_ l32))), (14, .c (wi v35)), (15, .c (.ptr 960 0)), (16, .c (wi y50.1))] [(192, .var [.bs (U_ w10) 4 (row G_ (eC U_ G_) w10)]), (3328, .arr .rw [] (U_ v36) 1 (row G_ (encLibrary U_ G_) v36)), (3392, .arr .rw [] (U_ v37) 1 (row G_ (encI .i64) v37)), (3648, .arr .rw [] (U_ l32) 1 (row G_ (eN U_ G_ 21 (eE)) l32)), (960, .var [.bs (U_ y50.2) 4 (row G_ (eC U_ G_) y50.2)])])) ?_ ?_
   ·intro y50 S hS h; cbv; revert h; refine ra fun c58 h => ?_; refine ai c58 ?_; revert h; refine ra fun c59 h => ?_; refine ai c59 ?_; revert h; refine rk [] [(64000, 4800)] (hfq87 _ _) (fun _ => zf) fun y60 h => ⟨_, rfl, _, _, rfl, fun _ _ _ _ => .refl _, ?_⟩
    cbv; injection h with h; subst h; subst hS; show St.le _ _; refine St.le_trans (le_fz 4800 (row G_ (eC U_ G_) y60.1.fC) rfl (fun _ _ => ln_oncCell _ _)) ?_; exact zb
   rintro ⟨w56, w57⟩ h; replace h := oz (oz h); dsimp only at h; cbv
   revert h; refine cu (fun y62 => some (sp 164 [(0, .c (.bs (U_ a0) 1 (row G_ (encI .u8) a0))), (3, .c (.ptr 192 0)), (10, .c (.os 3328 0 (U_ y62.2.1))), (11, .c (.os 3392 0 (U_ y62.2.2))), (12, .c (ws y62.1)), (13, .c (.os 3648 0 (U_ l32))), (14, .c (wi v35))] [(192, .var [.bs (U_ w10) 4 (row G_ (eC U_ G_) w10)]), (3328, .arr .rw [] (U_ y62.2.1) 1 (row G_ (encLibrary U_ G_) y62.2.1)), (3392, .arr .rw [] (U_ y62.2.2) 1 (row G_ (encI .i64) y62.2.2)), (3648, .arr .rw [] (U_ l32) 1 (row G_ (eN U_ G_ 21 (eE)) l32))])) ?_ ?_
   ·intro y62 S hS h; cbv; revert h; refine fk ?_ ?_ <;> intro h <;> cbv
    ·revert h; refine ra fun c71 h => ?_; refine ai c71 ?_; revert h; refine rk0 (hfq28 _) fun y72 h => ?_; cbv; revert h; refine ra fun c74 h => ?_; revert h; refine rl fun l75 hl75 h => ?_; have e76 : 1 = U_ l75 := by subst hl75 hU; rfl
     refine ⟨_, (co e76), _, row G_ (encLibrary U_ G_) l75, e76, wO ?_, ?_⟩
     ·intro i hi j hj; rw [<- e76] at hi; subst hl75; subst hG_; obtain rfl : i = 0 := (by omega); all_goals obtain rfl : j = 0 := by omega
      all_goals rfl
     cbv; revert h; refine rq fun c79 => rl fun l77 hl77 h => ?_; have e78 := nl hA hU hl77; refine ⟨c79, _, (co e78), _, row G_ (encLibrary U_ G_) l77, e78, wO ?_, ?_⟩
     ·subst hG_ hU hA; exact app_os (off := 0) (pl_encLibrary) hl77 (Nat.le_refl _)
     cbv; revert h; refine rl fun l80 hl80 h => ?_; have e81 : 1 = U_ l80 := by subst hl80 hU; rfl
     refine ⟨_, (co e81), _, row G_ (encI .i64) l80, e81, wO ?_, ?_⟩
     ·intro i hi j hj; rw [<- e81] at hi; subst hl80; subst hG_; obtain rfl : i = 0 := (by omega); all_goals obtain rfl : j = 0 := by omega
      all_goals rfl
     cbv; revert h; refine rq fun c84 => rl fun l82 hl82 h => ?_; have e83 := nl hA hU hl82; refine ⟨c84, _, (co e83), _, row G_ (encI .i64) l82, e83, wO ?_, ?_⟩
     ·subst hG_ hU hA; exact app_os (off := 0) (fun _ _ => rfl) hl82 (Nat.le_refl _)
     cbv; exact dn
    exact dn
   rintro ⟨w68, w69, w70⟩ h; replace h := oz (oz (oz h)); dsimp only at h; cbv; exact dm
  exact dx
 rintro ⟨w87, w88, w89⟩ h s q47; replace h := oz (oz (oz (oz h))); dsimp only at h; cbv; refine ⟨_, q47, ?_⟩; cbv; revert h; refine rk [] [(64000, 6272)] (hfq63 _ _) (fun _ => zf) fun y90 h => ?_; cbv; revert h; refine rk [(5, 6272)] [(5, 6272)] (hfq85 _ _) (fun _ => yf) fun y92 h => ?_; cbv
 revert h; refine ln (.exit 2) (fun x => (sp 164 [(3, .c (.ptr 192 0)), (10, .c (.os 3328 0 (U_ w88))), (11, .c (.os 3392 0 (U_ w89))), (12, .c (ws w87)), (18, .c (wi y92.1)), (19, .c (wi x.2)), (20, .c (wi x.1))] [(192, .var [.bs (U_ w10) 4 (row G_ (eC U_ G_) w10)]), (3328, .arr .rw [] (U_ w88) 1 (row G_ (encLibrary U_ G_) w88)), (3392, .arr .rw [] (U_ w89) 1 (row G_ (encI .i64) w89))])) (fun w => (sp 164 [(3, .c (.ptr 192 0)), (10, .c (.os 3328 0 (U_ w88))), (12, .c (ws w87)), (18, .c (wi y92.1)), (19, .c (wi w))] [(192, .var [.bs (U_ w10) 4 (row G_ (eC U_ G_) w10)]), (3328, .arr .rw [] (U_ w88) 1 (row G_ (encLibrary U_ G_) w88))])) zb ?_ ?_
 ·rintro ⟨v94, v95⟩ z h K hK hY; replace h := oz (oz h); dsimp only at h; cbv; revert h; refine fk ?_ ?_ <;> intro h <;> cbv
  ·revert h; refine ra fun c108 h => ?_; refine ai c108 ?_
   revert h; refine cu (fun y109 => some (sp 164 [(3, .c (.ptr 192 0)), (10, .c (.os 3328 0 (U_ w88))), (11, .c (.os 3392 0 (U_ w89))), (12, .c (ws w87)), (18, .c (wi y92.1)), (19, .c (wi y109)), (20, .c (wi v94))] [(192, .var [.bs (U_ w10) 4 (row G_ (eC U_ G_) w10)]), (3328, .arr .rw [] (U_ w88) 1 (row G_ (encLibrary U_ G_) w88)), (3392, .arr .rw [] (U_ w89) 1 (row G_ (encI .i64) w89))])) (fun y109 S hS h => rg) fun w115 => rz fun h => ?_
   cbv; exact dm
  exact dx
 intro w118 h s q105; replace h := oz (oz h); cbv; refine ⟨_, q105, ?_⟩; cbv; revert h; refine ra fun c119 h => ?_; revert h; refine rk [] [(64000, 7744)] (hfq21 _ _) (fun _ => zf) fun y120 h => ⟨_, rfl, _, _, rfl, fun _ _ _ _ => .refl _, ?_⟩
 cbv; revert h; refine rk [] [(64000, 8192)] (hfq21 _ _) (fun _ => zf) fun y122 h => ⟨_, rfl, _, _, rfl, fun _ _ _ _ => .refl _, ?_⟩
 cbv; revert h; refine cu (fun y124 => (sp 164 [(2, .c (.v (.bool y124)))] [])) ?_ fun w130 => rz fun h => ?_
 ·intro y124 S hS h; cbv; revert h; refine fk ?_ ?_ <;> intro h <;> cbv
  ·revert h; refine fk ?_ ?_ <;> intro h <;> cbv
   ·revert h; refine ra fun c131 h => ?_; refine ai c131 ?_; revert h; refine rk [] [] (hfq73 _ _) (fun _ => zg (lc_ (le_agg ⟨gD (rC) (ln_oncCell) rfl rfl rfl, tv⟩) (zs1))) fun y132 h => ?_; cbv; revert h; refine fk ?_ ?_ <;> intro h <;> cbv
    ·revert h; refine fk ?_ ?_ <;> intro h <;> cbv
     ·revert h; refine ra fun c134 h => ?_; refine ai c134 ?_; revert h; refine rk [] [] (hfq73 _ _) (fun _ => zg (lc_ (le_agg ⟨gD (rC) (ln_oncCell) rfl rfl rfl, tv⟩) (zs1))) fun y135 h => ?_; cbv; exact dn
     exact dn
    exact dn
   exact dn
  exact dn
 cbv; exact df
set_option maxHeartbeats 40000000
theorem op_5 (d : Nat) : Opens T (d + 1) 5 (clI .u8) (wfI .u8) := op_int .u8 (show T 5 = some d5 from rfl) rfl
theorem op_22 (d : Nat) : Opens T (d + 2) 22 (clL 1 (encI .u8)) (wfL (wfI .u8)) := op_slice (e := 5) (sz := 1) (show T 22 = some d22 from rfl) rfl (show T 5 = some d5 from rfl) rfl (fun x j hj => by match j, hj with | 0, _ => rfl | (j_ + 1), h_ => omega) (op_5 d)
theorem open_22 {H : Type} {enc : TypeId × Value -> H} {W : World} {spare : Nat -> Bool} {held : Bool} {r : Reach} {base : Nat} {v : Value} {x : DataW H} {ps : List MemPlace}
    (hv : Value.okWide prog W r base 22 v) (h : DataW.Trod enc prog W 0 spare held 22 v x ps) : ∃ e : List Int, (wfL (wfI .u8)) e /\ RelV (RelI (fun b => b < W.heap.size) W) (.c (.bs (len e) 1 (row gd (encI .u8) e))) v := by
  refine opened_one tok (op_22 0) (fun _ => rfl) (by kernel_rfl) ?_ h
  have ht : prog.underlying 22 = some (.slice 5) := (tok 22 d22 rfl).1
  unfold Value.okWide at hv
  rw [ht] at hv
  cases v <;> first | rfl | exact False.elim hv
end
end Go.Proofs.YtfoefnkbiofejaaGreat.AM
