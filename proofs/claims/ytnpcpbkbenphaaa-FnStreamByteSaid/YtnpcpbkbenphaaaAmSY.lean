/-
  What the functions that the law reaches compute, and that they do. No condition.
-/
import Derived.Test.YtnpcpbkbenphaaaAmSX
namespace Go.Proofs.Ytnpcpbkbenphaaa.AM
open Go Go.Proofs Go.RowKit
set_option linter.unusedVariables false
set_option linter.unusedSimpArgs false
set_option maxRecDepth 100000

/-- impl.byteReader).label -/
noncomputable def F_impl_byteReader_label_mPb (a0 : TbyteReader) : Option (TLabel × TbyteReader) :=
 (F_impl_byteReader_one_mPb a0).bind fun y1 =>
 (F_impl_byteReader_coordinate_mPb y1.2).bind fun y3 =>
 (F_impl_byteReader_coordinate_mPb y3.2).bind fun y5 =>
 (F_impl_byteReader_name_mPb y5.2).bind fun y7 =>
 some ((TLabel.mk y1.1 (TPoint.mk y3.1 y5.1) y7.1), y7.2)
set_option maxHeartbeats 4000000 in
theorem run_impl_byteReader_label_mPb (a0 : TbyteReader) (r : TLabel × TbyteReader) (h : F_impl_byteReader_label_mPb a0 = some r) : Fun Try.prog 70 [.c (.ptr 5 0)] [(5, .var [.v (.string a0.gs), .v (.bool a0.gbad)])] (.agg [.v (.int .i64 r.1.fLayer), .v (.int .i64 r.1.fAt.fX), .v (.int .i64 r.1.fAt.fY), .v (.string r.1.fName)]) [(5, .var [.v (.string r.2.gs), .v (.bool r.2.gbad)])] true := by
 refine ow [] Try.func70 Try.ntmps70 ?_ (hv := (fun _ => ⟨(by simp [AV.flat, AV.flat1, AC.flat]), ⟨(by simp [AO.flat, AC.flat]), trivial⟩⟩)); unfold F_impl_byteReader_label_mPb at h; have hf_impl_byteReader_coordinate_mPb := @run_impl_byteReader_coordinate_mPb; have hf_impl_byteReader_name_mPb := @run_impl_byteReader_name_mPb; have hf_impl_byteReader_one_mPb := @run_impl_byteReader_one_mPb
 generalize hLEN : @len = LEN, hGD : @gd = GD, hA : std = A, hP : Try.prog = P at *; cbv; revert h; refine rk [(5, 5)] [(5, 5)] (hf_impl_byteReader_one_mPb _) (fun _ => yf) fun y1 h => ?_; cbv; revert h; refine rk [(5, 5)] [(5, 5)] (hf_impl_byteReader_coordinate_mPb _) (fun _ => yf) fun y3 h => ?_; cbv
 revert h; refine rk [(5, 5)] [(5, 5)] (hf_impl_byteReader_coordinate_mPb _) (fun _ => yf) fun y5 h => ?_; cbv; revert h; refine rk [(5, 5)] [(5, 5)] (hf_impl_byteReader_name_mPb _) (fun _ => yf) fun y7 h => ?_; cbv; exact df

/-- impl.byteReader).instance -/
noncomputable def F_impl_byteReader_instance_mPb (a0 : TbyteReader) : Option (TInstance × TbyteReader) :=
 (F_impl_byteReader_one_mPb a0).bind fun y1 =>
 (F_impl_byteReader_coordinate_mPb y1.2).bind fun y3 =>
 (F_impl_byteReader_coordinate_mPb y3.2).bind fun y5 =>
 (F_impl_byteReader_one_mPb y5.2).bind fun y7 =>
 (F_impl_byteReader_one_mPb y7.2).bind fun y9 =>
 (F_impl_byteReader_coordinate_mPb y9.2).bind fun y11 =>
 (F_impl_byteReader_coordinate_mPb y11.2).bind fun y13 =>
 some ((TInstance.mk 0 (TTransform.mk y1.1 y3.1 y5.1) y7.1 y9.1 y11.1 y13.1), y13.2)
set_option maxHeartbeats 4000000 in
theorem run_impl_byteReader_instance_mPb (a0 : TbyteReader) (r : TInstance × TbyteReader) (h : F_impl_byteReader_instance_mPb a0 = some r) : Fun Try.prog 71 [.c (.ptr 5 0)] [(5, .var [.v (.string a0.gs), .v (.bool a0.gbad)])] (.agg [.v (.int .i64 r.1.fCell), .v (.int .i64 r.1.fPlace.fOrientation), .v (.int .i64 r.1.fPlace.fX), .v (.int .i64 r.1.fPlace.fY), .v (.int .i64 r.1.fColumns), .v (.int .i64 r.1.fRows), .v (.int .i64 r.1.fStepX), .v (.int .i64 r.1.fStepY)]) [(5, .var [.v (.string r.2.gs), .v (.bool r.2.gbad)])] true := by
 refine ow [] Try.func71 Try.ntmps71 ?_ (hv := (fun _ => ⟨(by simp [AV.flat, AV.flat1, AC.flat]), ⟨(by simp [AO.flat, AC.flat]), trivial⟩⟩)); unfold F_impl_byteReader_instance_mPb at h; have hf_impl_byteReader_coordinate_mPb := @run_impl_byteReader_coordinate_mPb; have hf_impl_byteReader_one_mPb := @run_impl_byteReader_one_mPb
 generalize hLEN : @len = LEN, hGD : @gd = GD, hA : std = A, hP : Try.prog = P at *; cbv; revert h; refine rk [(5, 5)] [(5, 5)] (hf_impl_byteReader_one_mPb _) (fun _ => yf) fun y1 h => ?_; cbv; revert h; refine rk [(5, 5)] [(5, 5)] (hf_impl_byteReader_coordinate_mPb _) (fun _ => yf) fun y3 h => ?_; cbv
 revert h; refine rk [(5, 5)] [(5, 5)] (hf_impl_byteReader_coordinate_mPb _) (fun _ => yf) fun y5 h => ?_; cbv; revert h; refine rk [(5, 5)] [(5, 5)] (hf_impl_byteReader_one_mPb _) (fun _ => yf) fun y7 h => ?_; cbv; revert h; refine rk [(5, 5)] [(5, 5)] (hf_impl_byteReader_one_mPb _) (fun _ => yf) fun y9 h => ?_; cbv
 revert h; refine rk [(5, 5)] [(5, 5)] (hf_impl_byteReader_coordinate_mPb _) (fun _ => yf) fun y11 h => ?_; cbv; revert h; refine rk [(5, 5)] [(5, 5)] (hf_impl_byteReader_coordinate_mPb _) (fun _ => yf) fun y13 h => ?_; cbv; exact df

noncomputable def L_slices_Equal_Lint64_int64_x2 (a0 : List Int) (a1 : List Int) : (Int) → Option ((Int) ⊕ ((Unit) ⊕ (Unit))) := fun x2 =>
 letO x2 fun v1 =>
 br (std.lt v1 (std.ofN (len a0)))
 (req (std.inR v1 (len a0)) <|
 req (std.inR v1 (len a1)) <|
 br (std.not (std.eq (gd a0 (std.toN v1)) (gd a1 (std.toN v1))))
 (some (.inr (.inl ())))
 (some (.inl (std.add .i64 v1 1))))
 (some (.inr (.inr ())))
/-- slices.Equal[[]int64,int64] -/
noncomputable def F_slices_Equal_Lint64_int64 (a0 : List Int) (a1 : List Int) : Option (Bool) :=
 br (std.not (std.eq (std.ofN (len a0)) (std.ofN (len a1))))
 (some false)
 ((whileP (σ := Int) (ρ := (Unit) ⊕ (Unit)) (L_slices_Equal_Lint64_int64_x2 a0 a1) 0).bind fun y3 =>
 (match y3 with
  | .inl y3k0 => (
    some false)
  | .inr y3m0 =>
    some true))
set_option maxHeartbeats 4000000 in
theorem run_slices_Equal_Lint64_int64 (a0 : List Int) (a1 : List Int) (r : Bool) (h : F_slices_Equal_Lint64_int64 a0 a1 = some r) : Fun Try.prog 72 [.c (.bs (len a0) 1 (row gd (encI .i64) a0)), .c (.bs (len a1) 1 (row gd (encI .i64) a1))] [] (.c (.v (.bool r))) [] true := by
 refine ow [] Try.func72 Try.ntmps72 ?_; unfold F_slices_Equal_Lint64_int64 at h; unfold L_slices_Equal_Lint64_int64_x2 at h; generalize hLEN : @len = LEN, hGD : @gd = GD, hA : std = A, hP : Try.prog = P at *; cbv; revert h; refine fk ?_ ?_ <;> intro h <;> cbv
 ·exact df
 revert h; refine lc (fun x => (sparse 26 [(0, .c (.bs (LEN a0) 1 (row GD (encI .i64) a0))), (1, .c (.bs (LEN a1) 1 (row GD (encI .i64) a1))), (12, .c (.v (.int .i64 (A.ofN (LEN a0))))), (13, .c (.v (.int .i64 x)))] [])) (fun y e s => (match y with | .inl w => e = .ret ∧ s.le (sparse 26 [(4, .c (.v (.bool false)))] []) | .inr w0 => (fun (w : Unit) => e = .exit 0 ∧ s.le (sparse 26 [] [])) w0)) zb ?_ ?_
 ·intro v1 z h K hK hY; replace h := oz h; cbv; revert h; refine fk ?_ ?_ <;> intro h <;> cbv
  ·revert h; refine ra fun c14 h => ?_; revert h; refine ra fun c15 h => ?_; revert h; refine fk ?_ ?_ <;> intro h <;> cbv
   ·exact dy
   exact dm
  exact dy
 intro y3 h e12 s13 q11 hne; rcases y3 with y3k0 | y3m0
 ·replace h := h; obtain ⟨rfl, q11⟩ := q11; cbv; injection h with h; subst h; exact ⟨_, q11, lR _, zo, rfl⟩
 ·obtain ⟨rfl, q11⟩ := q11; cbv; refine ⟨_, q11, ?_⟩; cbv; exact df

/-- impl.streamReader).take -/
noncomputable def F_impl_streamReader_take_mPoooobbb (a0 : TstreamReader) (a1 : Int) (a2 : ByteArray) (a3 : ByteArray) : Option (Int × TstreamReader) :=
 (F_impl_streamReader_possible_mpb a0 a1).bind fun y1 =>
 br (!(y1))
 (some ((4 : Int), a0))
 (((
    br (std.eq a1 1)
    ((F_impl_byteReader_one_mPb (TbyteReader.mk a2 false)).bind fun y18 =>
    (F_impl_byteReader_one_mPb y18.2).bind fun y20 =>
    ((
       (F_impl_streamReader_take_1_mPP y20.2).bind fun y29 =>
       br (!(y29.1))
       (some true)
       (some (std.not (std.eq y18.1 1)))
     ) : Option (Bool)).bind fun y22 =>
    letO y22 fun w28 =>
    br w28
    ((some ((4 : Int), a0)).bind fun r32 => some (.inl r32))
    ((F_impl_within y20.1 1 8).bind fun y35 =>
    br (!(y35))
    ((some ((3 : Int), a0)).bind fun r37 => some (.inl r37))
    (some (.inr (true, y20.1, a0.gcell.fShapes, a0.gcell.fLabels, a0.gcell.fInstances, a0.glib.fCells, a0.gdone, a0.ginside, a0.gcell.fName)))))
    (((
       br (std.eq a1 2)
       ((F_impl_byteReader_name_mPb (TbyteReader.mk a2 false)).bind fun y55 =>
       (F_impl_streamReader_take_1_mPP y55.2).bind fun y57 =>
       br (!(y57.1))
       (((some ((4 : Int), a0)).bind fun r59 => some (.inl r59)).bind fun r62 => some (.inl r62))
       (((
          (F_impl_IsName y55.1).bind fun y72 =>
          br (!(y72))
          (some true)
          ((F_impl_named a0.glib y55.1).bind fun y74 =>
          some (std.le 0 y74))
        ) : Option (Bool)).bind fun y65 =>
       letO y65 fun w71 =>
       br w71
       (((some ((1 : Int), a0)).bind fun r77 => some (.inl r77)).bind fun r80 => some (.inl r80))
       (some (.inr (true, y55.1, ([] : List TShape), ([] : List TLabel), ([] : List TInstance), a0.glib.fCells, a0.gdone)))))
       (((
          br (std.eq a1 3)
          ((F_impl_byteReader_shape_mPb (TbyteReader.mk a2 false)).bind fun y98 =>
          (F_impl_streamReader_take_1_mPP y98.2).bind fun y100 =>
          br (!(y100.1))
          ((((some ((4 : Int), a0)).bind fun r102 => some (.inl r102)).bind fun r105 => some (.inl r105)).bind fun r108 => some (.inl r108))
          (br (std.eq (std.ofN (len a0.gcell.fShapes)) 24)
          ((((some ((3 : Int), a0)).bind fun r111 => some (.inl r111)).bind fun r114 => some (.inl r114)).bind fun r117 => some (.inl r117))
          ((F_impl_validShape y98.1).bind fun y120 =>
          br (!(y120))
          ((((some ((1 : Int), a0)).bind fun r122 => some (.inl r122)).bind fun r125 => some (.inl r125)).bind fun r128 => some (.inl r128))
          (letO ([y98.1] : List TShape) fun l131 =>
          req (std.room (std.nadd (len a0.gcell.fShapes) (len l131)) 40) <|
          letO (a0.gcell.fShapes ++ l131) fun l133 =>
          some (.inr (l133, a0.gcell.fLabels, a0.gcell.fInstances, a0.glib.fCells, a0.gdone, a0.ginside, a0.gcell.fName))))))
          (((
             br (std.eq a1 4)
             ((F_impl_byteReader_label_mPb (TbyteReader.mk a2 false)).bind fun y152 =>
             (F_impl_streamReader_take_1_mPP y152.2).bind fun y154 =>
             br (!(y154.1))
             (((((some ((4 : Int), a0)).bind fun r156 => some (.inl r156)).bind fun r159 => some (.inl r159)).bind fun r162 => some (.inl r162)).bind fun r165 => some (.inl r165))
             (br (std.eq (std.ofN (len a0.gcell.fLabels)) 8)
             (((((some ((3 : Int), a0)).bind fun r168 => some (.inl r168)).bind fun r171 => some (.inl r171)).bind fun r174 => some (.inl r174)).bind fun r177 => some (.inl r177))
             ((F_impl_validLabel y152.1).bind fun y180 =>
             br (!(y180))
             (((((some ((1 : Int), a0)).bind fun r182 => some (.inl r182)).bind fun r185 => some (.inl r185)).bind fun r188 => some (.inl r188)).bind fun r191 => some (.inl r191))
             (letO ([y152.1] : List TLabel) fun l194 =>
             req (std.room (std.nadd (len a0.gcell.fLabels) (len l194)) 40) <|
             letO (a0.gcell.fLabels ++ l194) fun l196 =>
             some (.inr (a0.gcell.fShapes, l196, a0.gcell.fInstances, a0.glib.fCells, a0.gdone, a0.ginside, a0.gcell.fName))))))
             (((
                br (std.eq a1 5)
                ((F_impl_byteReader_name_mPb (TbyteReader.mk a2 false)).bind fun y215 =>
                (F_impl_byteReader_instance_mPb y215.2).bind fun y217 =>
                (F_impl_named a0.glib y215.1).bind fun y219 =>
                (F_impl_streamReader_take_1_mPP y217.2).bind fun y221 =>
                br (!(y221.1))
                ((((((some ((4 : Int), a0)).bind fun r223 => some (.inl r223)).bind fun r226 => some (.inl r226)).bind fun r229 => some (.inl r229)).bind fun r232 => some (.inl r232)).bind fun r235 => some (.inl r235))
                (br (std.eq (std.ofN (len a0.gcell.fInstances)) 8)
                ((((((some ((3 : Int), a0)).bind fun r238 => some (.inl r238)).bind fun r241 => some (.inl r241)).bind fun r244 => some (.inl r244)).bind fun r247 => some (.inl r247)).bind fun r250 => some (.inl r250))
                (br (std.lt y219 0)
                ((((((some ((5 : Int), a0)).bind fun r253 => some (.inl r253)).bind fun r256 => some (.inl r256)).bind fun r259 => some (.inl r259)).bind fun r262 => some (.inl r262)).bind fun r265 => some (.inl r265))
                ((F_impl_validInstance (TInstance.mk y219 y217.1.fPlace y217.1.fColumns y217.1.fRows y217.1.fStepX y217.1.fStepY) (std.ofN (len a0.glib.fCells))).bind fun y268 =>
                br (!(y268))
                ((((((some ((1 : Int), a0)).bind fun r270 => some (.inl r270)).bind fun r273 => some (.inl r273)).bind fun r276 => some (.inl r276)).bind fun r279 => some (.inl r279)).bind fun r282 => some (.inl r282))
                (letO ([(TInstance.mk y219 y217.1.fPlace y217.1.fColumns y217.1.fRows y217.1.fStepX y217.1.fStepY)] : List TInstance) fun l285 =>
                req (std.room (std.nadd (len a0.gcell.fInstances) (len l285)) 64) <|
                letO (a0.gcell.fInstances ++ l285) fun l287 =>
                some (.inr (a0.gcell.fShapes, a0.gcell.fLabels, l287, a0.glib.fCells, a0.gdone, a0.ginside, a0.gcell.fName)))))))
                (((
                   br (std.eq a1 6)
                   ((F_impl_byteReader_one_mPb (TbyteReader.mk a2 false)).bind fun y307 =>
                   (F_impl_byteReader_one_mPb y307.2).bind fun y309 =>
                   (F_impl_byteReader_one_mPb y309.2).bind fun y311 =>
                   letO ([y307.1, y309.1, y311.1] : List Int) fun l313 =>
                   ((
                      (F_impl_streamReader_take_1_mPP y311.2).bind fun y322 =>
                      br (!(y322.1))
                      (some true)
                      (letO ([std.ofN (len a0.gcell.fShapes), std.ofN (len a0.gcell.fLabels), std.ofN (len a0.gcell.fInstances)] : List Int) fun l324 =>
                      (F_slices_Equal_Lint64_int64 l313 l324).bind fun y326 =>
                      some (!(y326)))
                    ) : Option (Bool)).bind fun y315 =>
                   letO y315 fun w321 =>
                   br w321
                   (((((((some ((4 : Int), a0)).bind fun r329 => some (.inl r329)).bind fun r332 => some (.inl r332)).bind fun r335 => some (.inl r335)).bind fun r338 => some (.inl r338)).bind fun r341 => some (.inl r341)).bind fun r344 => some (.inl r344))
                   (((
                      letO ([a0.gcell] : List TCell) fun l354 =>
                      req (std.room (std.nadd (len a0.glib.fCells) (len l354)) 88) <|
                      letO (a0.glib.fCells ++ l354) fun l356 =>
                      some l356
                    ) : Option ((List TCell))).bind fun y347 =>
                   letO y347 fun w353 =>
                   some (.inr (false, (ByteArray.mk #[]), ([] : List TShape), ([] : List TLabel), ([] : List TInstance), w353, a0.gdone))))
                   (((
                      br (std.eq a1 7)
                      ((F_impl_byteReader_two_mPb (TbyteReader.mk a2 false)).bind fun y367 =>
                      (F_impl_streamReader_take_1_mPP y367.2).bind fun y369 =>
                      br (!(y369.1))
                      ((((((((some ((4 : Int), a0)).bind fun r371 => some (.inl r371)).bind fun r374 => some (.inl r374)).bind fun r377 => some (.inl r377)).bind fun r380 => some (.inl r380)).bind fun r383 => some (.inl r383)).bind fun r386 => some (.inl r386)).bind fun r389 => some (.inl r389))
                      ((F_impl_Checksum16 a3).bind fun y392 =>
                      br (std.not (std.eq y367.1 y392))
                      ((((((((some ((8 : Int), a0)).bind fun r394 => some (.inl r394)).bind fun r397 => some (.inl r397)).bind fun r400 => some (.inl r400)).bind fun r403 => some (.inl r403)).bind fun r406 => some (.inl r406)).bind fun r409 => some (.inl r409)).bind fun r412 => some (.inl r412))
                      (some (.inr true))))
                      (some (.inr a0.gdone))
                    ) : Option (_ ⊕ Bool)).bind fun z362 => (match z362 with
                    | .inl r => some r
                    | .inr y360 =>
                      letO y360 fun w366 =>
                      some (.inr (a0.ginside, a0.gcell.fName, a0.gcell.fShapes, a0.gcell.fLabels, a0.gcell.fInstances, a0.glib.fCells, w366))))
                 ) : Option (_ ⊕ (Bool × ByteArray × (List TShape) × (List TLabel) × (List TInstance) × (List TCell) × Bool))).bind fun z296 => (match z296 with
                 | .inl r => some r
                 | .inr y294 =>
                   letO y294.1 fun w300 =>
                   letO y294.2.1 fun w301 =>
                   letO y294.2.2.1 fun w302 =>
                   letO y294.2.2.2.1 fun w303 =>
                   letO y294.2.2.2.2.1 fun w304 =>
                   letO y294.2.2.2.2.2.1 fun w305 =>
                   letO y294.2.2.2.2.2.2 fun w306 =>
                   some (.inr (w302, w303, w304, w305, w306, w300, w301))))
              ) : Option (_ ⊕ ((List TShape) × (List TLabel) × (List TInstance) × (List TCell) × Bool × Bool × ByteArray))).bind fun z204 => (match z204 with
              | .inl r => some r
              | .inr y202 =>
                letO y202.1 fun w208 =>
                letO y202.2.1 fun w209 =>
                letO y202.2.2.1 fun w210 =>
                letO y202.2.2.2.1 fun w211 =>
                letO y202.2.2.2.2.1 fun w212 =>
                letO y202.2.2.2.2.2.1 fun w213 =>
                letO y202.2.2.2.2.2.2 fun w214 =>
                some (.inr (w208, w209, w210, w211, w212, w213, w214))))
           ) : Option (_ ⊕ ((List TShape) × (List TLabel) × (List TInstance) × (List TCell) × Bool × Bool × ByteArray))).bind fun z141 => (match z141 with
           | .inl r => some r
           | .inr y139 =>
             letO y139.1 fun w145 =>
             letO y139.2.1 fun w146 =>
             letO y139.2.2.1 fun w147 =>
             letO y139.2.2.2.1 fun w148 =>
             letO y139.2.2.2.2.1 fun w149 =>
             letO y139.2.2.2.2.2.1 fun w150 =>
             letO y139.2.2.2.2.2.2 fun w151 =>
             some (.inr (w145, w146, w147, w148, w149, w150, w151))))
        ) : Option (_ ⊕ ((List TShape) × (List TLabel) × (List TInstance) × (List TCell) × Bool × Bool × ByteArray))).bind fun z87 => (match z87 with
        | .inl r => some r
        | .inr y85 =>
          letO y85.1 fun w91 =>
          letO y85.2.1 fun w92 =>
          letO y85.2.2.1 fun w93 =>
          letO y85.2.2.2.1 fun w94 =>
          letO y85.2.2.2.2.1 fun w95 =>
          letO y85.2.2.2.2.2.1 fun w96 =>
          letO y85.2.2.2.2.2.2 fun w97 =>
          some (.inr (w96, w97, w91, w92, w93, w94, w95))))
     ) : Option (_ ⊕ (Bool × ByteArray × (List TShape) × (List TLabel) × (List TInstance) × (List TCell) × Bool))).bind fun z44 => (match z44 with
     | .inl r => some r
     | .inr y42 =>
       letO y42.1 fun w48 =>
       letO y42.2.1 fun w49 =>
       letO y42.2.2.1 fun w50 =>
       letO y42.2.2.2.1 fun w51 =>
       letO y42.2.2.2.2.1 fun w52 =>
       letO y42.2.2.2.2.2.1 fun w53 =>
       letO y42.2.2.2.2.2.2 fun w54 =>
       some (.inr (a0.gbegun, a0.gcells, w50, w51, w52, w53, w54, w48, w49))))
  ) : Option (_ ⊕ (Bool × Int × (List TShape) × (List TLabel) × (List TInstance) × (List TCell) × Bool × Bool × ByteArray))).bind fun z5 => (match z5 with
  | .inl r => some r
  | .inr y3 =>
    letO y3.1 fun w9 =>
    letO y3.2.1 fun w10 =>
    letO y3.2.2.1 fun w11 =>
    letO y3.2.2.2.1 fun w12 =>
    letO y3.2.2.2.2.1 fun w13 =>
    letO y3.2.2.2.2.2.1 fun w14 =>
    letO y3.2.2.2.2.2.2.1 fun w15 =>
    letO y3.2.2.2.2.2.2.2.1 fun w16 =>
    letO y3.2.2.2.2.2.2.2.2 fun w17 =>
    some ((0 : Int), (TstreamReader.mk w9 w15 w10 w16 (TCell.mk w17 w11 w12 w13) (TLibrary.mk w14)))))
set_option maxHeartbeats 4000000 in
theorem run_impl_streamReader_take_mPoooobbb (a0 : TstreamReader) (a1 : Int) (a2 : ByteArray) (a3 : ByteArray) (r : Int × TstreamReader) (h : F_impl_streamReader_take_mPoooobbb a0 a1 a2 a3 = some r) : Fun Try.prog 43 [.c (.ptr 5 0), .c (.v (.int .i64 a1)), .c (.v (.string a2)), .c (.v (.string a3))] [(5, .var [.v (.bool a0.gbegun), .v (.bool a0.gdone), .v (.int .i64 a0.gcells), .v (.bool a0.ginside), .v (.string a0.gcell.fName), .os 7 0 (len a0.gcell.fShapes), .os 9 0 (len a0.gcell.fLabels), .os 11 0 (len a0.gcell.fInstances), .os 13 0 (len a0.glib.fCells)]), (7, .arr .rw [] (len a0.gcell.fShapes) 5 (row gd (encShape) a0.gcell.fShapes)), (9, .arr .rw [] (len a0.gcell.fLabels) 4 (row gd (encLabel) a0.gcell.fLabels)), (11, .arr .rw [] (len a0.gcell.fInstances) 8 (row gd (encInstance) a0.gcell.fInstances)), (13, .arr .rw [] (len a0.glib.fCells) 4 (row gd (oncCell len gd) a0.glib.fCells))] (.c (.v (.int .i64 r.1))) [(64000, .arr .rw [] (len r.2.gcell.fShapes) 5 (row gd (encShape) r.2.gcell.fShapes)), (64002, .arr .rw [] (len r.2.gcell.fLabels) 4 (row gd (encLabel) r.2.gcell.fLabels)), (64004, .arr .rw [] (len r.2.gcell.fInstances) 8 (row gd (encInstance) r.2.gcell.fInstances)), (64006, .arr .rw [] (len r.2.glib.fCells) 4 (row gd (oncCell len gd) r.2.glib.fCells)), (5, .var [.v (.bool r.2.gbegun), .v (.bool r.2.gdone), .v (.int .i64 r.2.gcells), .v (.bool r.2.ginside), .v (.string r.2.gcell.fName), .os 64000 0 (len r.2.gcell.fShapes), .os 64002 0 (len r.2.gcell.fLabels), .os 64004 0 (len r.2.gcell.fInstances), .os 64006 0 (len r.2.glib.fCells)])] true := by
 refine ow [9, 18, 54, 56, 100036, 100061, 100090, 100122, 100154, 100200, 100258] Try.func43 Try.ntmps43 ?_ (hw := ⟨fun i _ j _ k hk => (noref (plain_nil (pl_encShape _ _)) hk).elim, fun i _ j _ k hk => (noref (plain_nil (pl_encLabel _ _)) hk).elim, fun i _ j _ k hk => (noref (plain_nil (pl_encInstance _ _)) hk).elim, fun i _ j _ k hk => (noref (rf_oncCell _ _) hk).elim, trivial⟩) (hv := (fun _ => ⟨trivial, ⟨fun i _ j _ => val_flat (vl_encShape _ _), fun i _ j _ => val_flat (vl_encLabel _ _), fun i _ j _ => val_flat (vl_encInstance _ _), fun i _ j _ => fl_oncCell _ _, (by simp [AO.flat, AC.flat]), trivial⟩⟩))
 unfold F_impl_streamReader_take_mPoooobbb at h; have hf_impl_Checksum16 := @run_impl_Checksum16; have hf_impl_IsName := @run_impl_IsName; have hf_impl_byteReader_instance_mPb := @run_impl_byteReader_instance_mPb; have hf_impl_byteReader_label_mPb := @run_impl_byteReader_label_mPb; have hf_impl_byteReader_name_mPb := @run_impl_byteReader_name_mPb
 have hf_impl_byteReader_one_mPb := @run_impl_byteReader_one_mPb; have hf_impl_byteReader_shape_mPb := @run_impl_byteReader_shape_mPb; have hf_impl_byteReader_two_mPb := @run_impl_byteReader_two_mPb; have hf_impl_named := @run_impl_named; have hf_impl_streamReader_possible_mpb := @run_impl_streamReader_possible_mpb; have hf_impl_streamReader_take_1_mPP := @run_impl_streamReader_take_1_mPP
 have hf_impl_validInstance := @run_impl_validInstance; have hf_impl_validLabel := @run_impl_validLabel; have hf_impl_validShape := @run_impl_validShape; have hf_impl_within := @run_impl_within; have hf_slices_Equal_Lint64_int64 := @run_slices_Equal_Lint64_int64; generalize hLEN : @len = LEN, hGD : @gd = GD, hA : std = A, hP : Try.prog = P at *; cbv
 revert h; refine rk [] [] (hf_impl_streamReader_possible_mpb _ _) (fun _ => zg (les_cons (le_bp (show 9 ≤ 9 from by decide) (by intro j hj; match j, hj with | 0, _ => exact rle_refl _ | 1, _ => exact rle_refl _ | 2, _ => exact rle_refl _ | 3, _ => exact rle_refl _ | 4, _ => exact rle_refl _ | 5, _ => exact (rle_bs rfl (fun i _ j _ => by rw [Nat.zero_add]; exact lent_plain (pl_encShape _ _))) | 6, _ => exact (rle_bs rfl (fun i _ j _ => by rw [Nat.zero_add]; exact lent_plain (pl_encLabel _ _))) | 7, _ => exact (rle_bs rfl (fun i _ j _ => by rw [Nat.zero_add]; exact lent_plain (pl_encInstance _ _))) | 8, _ => exact (rle_bs rfl (fun i _ j _ => by rw [Nat.zero_add]; exact ln_oncCell _ _)) | (j_ + 9), h_ => exact absurd h_ (by omega))) (les_cons (lR _) (les_nil)))) fun y1 h => ?_
 cbv; revert h; refine fk ?_ ?_ <;> intro h <;> cbv
 ·injection h with h; subst h; exact ⟨_, St.le_trans (le_ren 7 64000 (by decide) rfl) (St.le_trans (le_ren 9 64002 (by decide) rfl) (St.le_trans (le_ren 11 64004 (by decide) rfl) ((le_ren 13 64006 (by decide) rfl)))), lR _, zo, rfl⟩
 obtain ⟨z5, hy4, hz6⟩ := of_bind h
 obtain ⟨S, hS⟩ : ∃ S, S = (match z5 with | .inl _ => none | .inr y3 => some (sparse 274 [] [(5, .var [.v (.bool y3.1), .v (.bool y3.2.2.2.2.2.2.1), .v (.int .i64 y3.2.1), .v (.bool y3.2.2.2.2.2.2.2.1), .v (.string y3.2.2.2.2.2.2.2.2), .os 7552 0 (LEN y3.2.2.1), .os 9600 0 (LEN y3.2.2.2.1), .os 12544 0 (LEN y3.2.2.2.2.1), .os 15808 0 (LEN y3.2.2.2.2.2.1)]), (7552, .arr .rw [] (LEN y3.2.2.1) 5 (row GD (encShape) y3.2.2.1)), (9600, .arr .rw [] (LEN y3.2.2.2.1) 4 (row GD (encLabel) y3.2.2.2.1)), (12544, .arr .rw [] (LEN y3.2.2.2.2.1) 8 (row GD (encInstance) y3.2.2.2.2.1)), (15808, .arr .rw [] (LEN y3.2.2.2.2.2.1) 4 (row GD (oncCell LEN GD) y3.2.2.2.2.2.1))])) := ⟨_, rfl⟩
 refine ⟨S, ?_, ?_⟩
 ·have h := hy4; clear hy4; cbv; revert h; refine fk ?_ ?_ <;> intro h <;> cbv
  ·revert h; refine rk [(5, 1728)] [(5, 1728)] (hf_impl_byteReader_one_mPb _) (fun _ => yf) fun y18 h => ?_; cbv; revert h; refine rk [(5, 1728)] [(5, 1728)] (hf_impl_byteReader_one_mPb _) (fun _ => yf) fun y20 h => ?_; cbv
   revert h; refine cu (fun y22 => (sparse 274 [(0, .c (.ptr 5 0)), (13, .c (.v (.int .i64 y20.1))), (42, .c (.v (.bool y22)))] [(5, .var [.v (.bool a0.gbegun), .v (.bool a0.gdone), .v (.int .i64 a0.gcells), .v (.bool a0.ginside), .v (.string a0.gcell.fName), .os 7 0 (LEN a0.gcell.fShapes), .os 9 0 (LEN a0.gcell.fLabels), .os 11 0 (LEN a0.gcell.fInstances), .os 13 0 (LEN a0.glib.fCells)]), (7, .arr .rw [] (LEN a0.gcell.fShapes) 5 (row GD (encShape) a0.gcell.fShapes)), (9, .arr .rw [] (LEN a0.gcell.fLabels) 4 (row GD (encLabel) a0.gcell.fLabels)), (11, .arr .rw [] (LEN a0.gcell.fInstances) 8 (row GD (encInstance) a0.gcell.fInstances)), (13, .arr .rw [] (LEN a0.glib.fCells) 4 (row GD (oncCell LEN GD) a0.glib.fCells))])) ?_ fun w28 => rz fun h => ?_
   ·intro y22 S hS h; cbv; revert h; refine rk [(5, 576), (7, 1728)] [(5, 576), (7, 1728)] (hf_impl_streamReader_take_1_mPP _) (fun _ => yf) fun y29 h => ?_; cbv; revert h; refine fk ?_ ?_ <;> intro h <;> cbv
    ·exact dn
    exact dn
   cbv; revert h; refine fk ?_ ?_ <;> intro h <;> cbv
   ·obtain ⟨r32, h33, he34⟩ := of_bind h; injection he34 with he34; subst he34; injection hz6 with hz6; subst hz6; have h := h33; injection h with h; subst h; exact ⟨_, St.le_trans (le_ren 7 64000 (by decide) rfl) (St.le_trans (le_ren 9 64002 (by decide) rfl) (St.le_trans (le_ren 11 64004 (by decide) rfl) ((le_ren 13 64006 (by decide) rfl)))), lR _, zo, rfl⟩
   revert h; refine rk0 (hf_impl_within _ _ _) fun y35 h => ?_; cbv; revert h; refine fk ?_ ?_ <;> intro h <;> cbv
   ·obtain ⟨r37, h38, he39⟩ := of_bind h; injection he39 with he39; subst he39; injection hz6 with hz6; subst hz6; have h := h38; injection h with h; subst h; exact ⟨_, St.le_trans (le_ren 7 64000 (by decide) rfl) (St.le_trans (le_ren 9 64002 (by decide) rfl) (St.le_trans (le_ren 11 64004 (by decide) rfl) ((le_ren 13 64006 (by decide) rfl)))), lR _, zo, rfl⟩
   injection h with h; subst h; subst hS; show St.le _ _; refine St.le_trans (le_ren 7 7552 (by decide) rfl) ?_; refine St.le_trans (le_ren 9 9600 (by decide) rfl) ?_; refine St.le_trans (le_ren 11 12544 (by decide) rfl) ?_; refine St.le_trans (le_ren 13 15808 (by decide) rfl) ?_; exact zb
  obtain ⟨z44, hy43, hz45⟩ := of_bind h
  obtain ⟨S, hS⟩ : ∃ S, S = (match z44 with | .inl _ => none | .inr y42 => some (sparse 274 [] [(5, .var [.v (.bool a0.gbegun), .v (.bool y42.2.2.2.2.2.2), .v (.int .i64 a0.gcells), .v (.bool y42.1), .v (.string y42.2.1), .os 7552 0 (LEN y42.2.2.1), .os 9600 0 (LEN y42.2.2.2.1), .os 12544 0 (LEN y42.2.2.2.2.1), .os 15808 0 (LEN y42.2.2.2.2.2.1)]), (7552, .arr .rw [] (LEN y42.2.2.1) 5 (row GD (encShape) y42.2.2.1)), (9600, .arr .rw [] (LEN y42.2.2.2.1) 4 (row GD (encLabel) y42.2.2.2.1)), (12544, .arr .rw [] (LEN y42.2.2.2.2.1) 8 (row GD (encInstance) y42.2.2.2.2.1)), (15808, .arr .rw [] (LEN y42.2.2.2.2.2.1) 4 (row GD (oncCell LEN GD) y42.2.2.2.2.2.1))])) := ⟨_, rfl⟩
  refine ⟨S, ?_, ?_⟩
  ·have h := hy43; clear hy43; cbv; revert h; refine fk ?_ ?_ <;> intro h <;> cbv
   ·revert h; refine rk [(5, 1728)] [(5, 1728)] (hf_impl_byteReader_name_mPb _) (fun _ => yf) fun y55 h => ?_; cbv; revert h; refine rk [(5, 576), (7, 1728)] [(5, 576), (7, 1728)] (hf_impl_streamReader_take_1_mPP _) (fun _ => yf) fun y57 h => ?_; cbv; revert h; refine fk ?_ ?_ <;> intro h <;> cbv
    ·obtain ⟨r62, h63, he64⟩ := of_bind h; injection he64 with he64; subst he64; injection hz45 with hz45; subst hz45; have h := h63; obtain ⟨r59, h60, he61⟩ := of_bind h; injection he61 with he61; subst he61; injection hz6 with hz6; subst hz6; have h := h60
     injection h with h; subst h; exact ⟨_, St.le_trans (le_ren 7 64000 (by decide) rfl) (St.le_trans (le_ren 9 64002 (by decide) rfl) (St.le_trans (le_ren 11 64004 (by decide) rfl) ((le_ren 13 64006 (by decide) rfl)))), lR _, zo, rfl⟩
    revert h; refine cu (fun y65 => (sparse 274 [(0, .c (.ptr 5 0)), (14, .c (.v (.string y55.1))), (69, .c (.v (.bool y65)))] [(5, .var [.v (.bool a0.gbegun), .v (.bool a0.gdone), .v (.int .i64 a0.gcells), .v (.bool a0.ginside), .v (.string a0.gcell.fName), .os 7 0 (LEN a0.gcell.fShapes), .os 9 0 (LEN a0.gcell.fLabels), .os 11 0 (LEN a0.gcell.fInstances), .os 13 0 (LEN a0.glib.fCells)]), (7, .arr .rw [] (LEN a0.gcell.fShapes) 5 (row GD (encShape) a0.gcell.fShapes)), (9, .arr .rw [] (LEN a0.gcell.fLabels) 4 (row GD (encLabel) a0.gcell.fLabels)), (11, .arr .rw [] (LEN a0.gcell.fInstances) 8 (row GD (encInstance) a0.gcell.fInstances)), (13, .arr .rw [] (LEN a0.glib.fCells) 4 (row GD (oncCell LEN GD) a0.glib.fCells))])) ?_ fun w71 => rz fun h => ?_
    ·intro y65 S hS h; cbv; revert h; refine rk0 (hf_impl_IsName _) fun y72 h => ?_; cbv; revert h; refine fk ?_ ?_ <;> intro h <;> cbv
     ·exact dn
     revert h; refine rk [] [] (hf_impl_named _ _) (fun _ => zg (les_cons (le_agg ⟨give_osD (rf_oncCell) (ln_oncCell) rfl rfl rfl, trivial⟩) (les_cons (lR _) (les_nil)))) fun y74 h => ?_; cbv; exact dn
    cbv; revert h; refine fk ?_ ?_ <;> intro h <;> cbv
    ·obtain ⟨r80, h81, he82⟩ := of_bind h; injection he82 with he82; subst he82; injection hz45 with hz45; subst hz45; have h := h81; obtain ⟨r77, h78, he79⟩ := of_bind h; injection he79 with he79; subst he79; injection hz6 with hz6; subst hz6; have h := h78
     injection h with h; subst h; exact ⟨_, St.le_trans (le_ren 7 64000 (by decide) rfl) (St.le_trans (le_ren 9 64002 (by decide) rfl) (St.le_trans (le_ren 11 64004 (by decide) rfl) ((le_ren 13 64006 (by decide) rfl)))), lR _, zo, rfl⟩
    injection h with h; subst h; subst hS; show St.le _ _; refine St.le_trans (le_nilV 5 5 7552 5 (row GD (encShape) ([] : List TShape)) (by decide) (by decide) rfl rfl) ?_; refine St.le_trans (le_nilV 5 6 9600 4 (row GD (encLabel) ([] : List TLabel)) (by decide) (by decide) rfl rfl) ?_
    refine St.le_trans (le_nilV 5 7 12544 8 (row GD (encInstance) ([] : List TInstance)) (by decide) (by decide) rfl rfl) ?_; refine St.le_trans (le_ren 13 15808 (by decide) rfl) ?_; subst hLEN; exact zb
   obtain ⟨z87, hy86, hz88⟩ := of_bind h
   obtain ⟨S, hS⟩ : ∃ S, S = (match z87 with | .inl _ => none | .inr y85 => some (sparse 274 [] [(5, .var [.v (.bool a0.gbegun), .v (.bool y85.2.2.2.2.1), .v (.int .i64 a0.gcells), .v (.bool y85.2.2.2.2.2.1), .v (.string y85.2.2.2.2.2.2), .os 7552 0 (LEN y85.1), .os 9600 0 (LEN y85.2.1), .os 12544 0 (LEN y85.2.2.1), .os 15808 0 (LEN y85.2.2.2.1)]), (7552, .arr .rw [] (LEN y85.1) 5 (row GD (encShape) y85.1)), (9600, .arr .rw [] (LEN y85.2.1) 4 (row GD (encLabel) y85.2.1)), (12544, .arr .rw [] (LEN y85.2.2.1) 8 (row GD (encInstance) y85.2.2.1)), (15808, .arr .rw [] (LEN y85.2.2.2.1) 4 (row GD (oncCell LEN GD) y85.2.2.2.1))])) := ⟨_, rfl⟩
   refine ⟨S, ?_, ?_⟩
   ·have h := hy86; clear hy86; cbv; revert h; refine fk ?_ ?_ <;> intro h <;> cbv
    ·revert h; refine rk [(5, 1728)] [(5, 1728)] (hf_impl_byteReader_shape_mPb _) (fun _ => yf) fun y98 h => ?_; cbv; revert h; refine rk [(5, 576), (7, 1728)] [(5, 576), (7, 1728)] (hf_impl_streamReader_take_1_mPP _) (fun _ => yf) fun y100 h => ?_; cbv; revert h; refine fk ?_ ?_ <;> intro h <;> cbv
     ·obtain ⟨r108, h109, he110⟩ := of_bind h; injection he110 with he110; subst he110; injection hz88 with hz88; subst hz88; have h := h109; obtain ⟨r105, h106, he107⟩ := of_bind h; injection he107 with he107; subst he107; injection hz45 with hz45; subst hz45; have h := h106; obtain ⟨r102, h103, he104⟩ := of_bind h; injection he104 with he104; subst he104; injection hz6 with hz6; subst hz6
      have h := h103; injection h with h; subst h; exact ⟨_, St.le_trans (le_ren 7 64000 (by decide) rfl) (St.le_trans (le_ren 9 64002 (by decide) rfl) (St.le_trans (le_ren 11 64004 (by decide) rfl) ((le_ren 13 64006 (by decide) rfl)))), lR _, zo, rfl⟩
     revert h; refine fk ?_ ?_ <;> intro h <;> cbv
     ·obtain ⟨r117, h118, he119⟩ := of_bind h; injection he119 with he119; subst he119; injection hz88 with hz88; subst hz88; have h := h118; obtain ⟨r114, h115, he116⟩ := of_bind h; injection he116 with he116; subst he116; injection hz45 with hz45; subst hz45; have h := h115; obtain ⟨r111, h112, he113⟩ := of_bind h; injection he113 with he113; subst he113; injection hz6 with hz6; subst hz6
      have h := h112; injection h with h; subst h; exact ⟨_, St.le_trans (le_ren 7 64000 (by decide) rfl) (St.le_trans (le_ren 9 64002 (by decide) rfl) (St.le_trans (le_ren 11 64004 (by decide) rfl) ((le_ren 13 64006 (by decide) rfl)))), lR _, zo, rfl⟩
     revert h; refine rk0 (hf_impl_validShape _) fun y120 h => ?_; cbv; revert h; refine fk ?_ ?_ <;> intro h <;> cbv
     ·obtain ⟨r128, h129, he130⟩ := of_bind h; injection he130 with he130; subst he130; injection hz88 with hz88; subst hz88; have h := h129; obtain ⟨r125, h126, he127⟩ := of_bind h; injection he127 with he127; subst he127; injection hz45 with hz45; subst hz45; have h := h126; obtain ⟨r122, h123, he124⟩ := of_bind h; injection he124 with he124; subst he124; injection hz6 with hz6; subst hz6
      have h := h123; injection h with h; subst h; exact ⟨_, St.le_trans (le_ren 7 64000 (by decide) rfl) (St.le_trans (le_ren 9 64002 (by decide) rfl) (St.le_trans (le_ren 11 64004 (by decide) rfl) ((le_ren 13 64006 (by decide) rfl)))), lR _, zo, rfl⟩
     revert h; refine rl fun l131 hl131 h => ?_; have e132 : 1 = LEN l131 := by subst hl131 hLEN; rfl
     refine ⟨_, (co e132), _, row GD (encShape) l131, e132, wkOf ?_, ?_⟩
     ·intro i hi j hj; rw [← e132] at hi; subst hl131; subst hGD; obtain rfl : i = 0 := (by omega) <;> obtain rfl | rfl | rfl | rfl | rfl : j = 0 ∨ j = 1 ∨ j = 2 ∨ j = 3 ∨ j = 4 := (by omega)
      all_goals rfl
     cbv; revert h; refine rq fun c135 => rl fun l133 hl133 h => ?_; have e134 := nl hA hLEN hl133; refine ⟨c135, _, (co e134), _, row GD (encShape) l133, e134, wkOf ?_, ?_⟩
     ·subst hGD hLEN hA; exact app_os (off := 0) (pl_encShape) hl133 (Nat.le_refl _)
     cbv; injection h with h; subst h; subst hS; show St.le _ _; refine St.le_trans (le_ren 9 9600 (by decide) rfl) ?_; refine St.le_trans (le_ren 11 12544 (by decide) rfl) ?_; refine St.le_trans (le_ren 13 15808 (by decide) rfl) ?_; exact zb
    obtain ⟨z141, hy140, hz142⟩ := of_bind h
    obtain ⟨S, hS⟩ : ∃ S, S = (match z141 with | .inl _ => none | .inr y139 => some (sparse 274 [] [(5, .var [.v (.bool a0.gbegun), .v (.bool y139.2.2.2.2.1), .v (.int .i64 a0.gcells), .v (.bool y139.2.2.2.2.2.1), .v (.string y139.2.2.2.2.2.2), .os 62000 0 (LEN y139.1), .os 9600 0 (LEN y139.2.1), .os 12544 0 (LEN y139.2.2.1), .os 15808 0 (LEN y139.2.2.2.1)]), (62000, .arr .rw [] (LEN y139.1) 5 (row GD (encShape) y139.1)), (9600, .arr .rw [] (LEN y139.2.1) 4 (row GD (encLabel) y139.2.1)), (12544, .arr .rw [] (LEN y139.2.2.1) 8 (row GD (encInstance) y139.2.2.1)), (15808, .arr .rw [] (LEN y139.2.2.2.1) 4 (row GD (oncCell LEN GD) y139.2.2.2.1))])) := ⟨_, rfl⟩
    refine ⟨S, ?_, ?_⟩
    ·have h := hy140; clear hy140; cbv; revert h; refine fk ?_ ?_ <;> intro h <;> cbv
     ·revert h; refine rk [(5, 1728)] [(5, 1728)] (hf_impl_byteReader_label_mPb _) (fun _ => yf) fun y152 h => ?_; cbv; revert h; refine rk [(5, 576), (7, 1728)] [(5, 576), (7, 1728)] (hf_impl_streamReader_take_1_mPP _) (fun _ => yf) fun y154 h => ?_; cbv; revert h; refine fk ?_ ?_ <;> intro h <;> cbv
      ·obtain ⟨r165, h166, he167⟩ := of_bind h; injection he167 with he167; subst he167; injection hz142 with hz142; subst hz142; have h := h166; obtain ⟨r162, h163, he164⟩ := of_bind h; injection he164 with he164; subst he164; injection hz88 with hz88; subst hz88; have h := h163; obtain ⟨r159, h160, he161⟩ := of_bind h; injection he161 with he161; subst he161; injection hz45 with hz45; subst hz45
       have h := h160; obtain ⟨r156, h157, he158⟩ := of_bind h; injection he158 with he158; subst he158; injection hz6 with hz6; subst hz6; have h := h157; injection h with h; subst h; exact ⟨_, St.le_trans (le_ren 7 64000 (by decide) rfl) (St.le_trans (le_ren 9 64002 (by decide) rfl) (St.le_trans (le_ren 11 64004 (by decide) rfl) ((le_ren 13 64006 (by decide) rfl)))), lR _, zo, rfl⟩
      revert h; refine fk ?_ ?_ <;> intro h <;> cbv
      ·obtain ⟨r177, h178, he179⟩ := of_bind h; injection he179 with he179; subst he179; injection hz142 with hz142; subst hz142; have h := h178; obtain ⟨r174, h175, he176⟩ := of_bind h; injection he176 with he176; subst he176; injection hz88 with hz88; subst hz88; have h := h175; obtain ⟨r171, h172, he173⟩ := of_bind h; injection he173 with he173; subst he173; injection hz45 with hz45; subst hz45
       have h := h172; obtain ⟨r168, h169, he170⟩ := of_bind h; injection he170 with he170; subst he170; injection hz6 with hz6; subst hz6; have h := h169; injection h with h; subst h; exact ⟨_, St.le_trans (le_ren 7 64000 (by decide) rfl) (St.le_trans (le_ren 9 64002 (by decide) rfl) (St.le_trans (le_ren 11 64004 (by decide) rfl) ((le_ren 13 64006 (by decide) rfl)))), lR _, zo, rfl⟩
      revert h; refine rk0 (hf_impl_validLabel _) fun y180 h => ?_; cbv; revert h; refine fk ?_ ?_ <;> intro h <;> cbv
      ·obtain ⟨r191, h192, he193⟩ := of_bind h; injection he193 with he193; subst he193; injection hz142 with hz142; subst hz142; have h := h192; obtain ⟨r188, h189, he190⟩ := of_bind h; injection he190 with he190; subst he190; injection hz88 with hz88; subst hz88; have h := h189; obtain ⟨r185, h186, he187⟩ := of_bind h; injection he187 with he187; subst he187; injection hz45 with hz45; subst hz45
       have h := h186; obtain ⟨r182, h183, he184⟩ := of_bind h; injection he184 with he184; subst he184; injection hz6 with hz6; subst hz6; have h := h183; injection h with h; subst h; exact ⟨_, St.le_trans (le_ren 7 64000 (by decide) rfl) (St.le_trans (le_ren 9 64002 (by decide) rfl) (St.le_trans (le_ren 11 64004 (by decide) rfl) ((le_ren 13 64006 (by decide) rfl)))), lR _, zo, rfl⟩
      revert h; refine rl fun l194 hl194 h => ?_; have e195 : 1 = LEN l194 := by subst hl194 hLEN; rfl
      refine ⟨_, (co e195), _, row GD (encLabel) l194, e195, wkOf ?_, ?_⟩
      ·intro i hi j hj; rw [← e195] at hi; subst hl194; subst hGD; obtain rfl : i = 0 := (by omega) <;> obtain rfl | rfl | rfl | rfl : j = 0 ∨ j = 1 ∨ j = 2 ∨ j = 3 := (by omega)
       all_goals rfl
      cbv; revert h; refine rq fun c198 => rl fun l196 hl196 h => ?_; have e197 := nl hA hLEN hl196; refine ⟨c198, _, (co e197), _, row GD (encLabel) l196, e197, wkOf ?_, ?_⟩
      ·subst hGD hLEN hA; exact app_os (off := 0) (pl_encLabel) hl196 (Nat.le_refl _)
      cbv; injection h with h; subst h; subst hS; show St.le _ _; refine St.le_trans (le_ren 7 62000 (by decide) rfl) ?_; refine St.le_trans (le_ren 11 12544 (by decide) rfl) ?_; refine St.le_trans (le_ren 13 15808 (by decide) rfl) ?_; exact zb
     obtain ⟨z204, hy203, hz205⟩ := of_bind h
     obtain ⟨S, hS⟩ : ∃ S, S = (match z204 with | .inl _ => none | .inr y202 => some (sparse 274 [] [(5, .var [.v (.bool a0.gbegun), .v (.bool y202.2.2.2.2.1), .v (.int .i64 a0.gcells), .v (.bool y202.2.2.2.2.2.1), .v (.string y202.2.2.2.2.2.2), .os 62000 0 (LEN y202.1), .os 62002 0 (LEN y202.2.1), .os 12544 0 (LEN y202.2.2.1), .os 15808 0 (LEN y202.2.2.2.1)]), (62000, .arr .rw [] (LEN y202.1) 5 (row GD (encShape) y202.1)), (62002, .arr .rw [] (LEN y202.2.1) 4 (row GD (encLabel) y202.2.1)), (12544, .arr .rw [] (LEN y202.2.2.1) 8 (row GD (encInstance) y202.2.2.1)), (15808, .arr .rw [] (LEN y202.2.2.2.1) 4 (row GD (oncCell LEN GD) y202.2.2.2.1))])) := ⟨_, rfl⟩
     refine ⟨S, ?_, ?_⟩
     ·have h := hy203; clear hy203; cbv; revert h; refine fk ?_ ?_ <;> intro h <;> cbv
      ·revert h; refine rk [(5, 1728)] [(5, 1728)] (hf_impl_byteReader_name_mPb _) (fun _ => yf) fun y215 h => ?_; cbv; revert h; refine rk [(5, 1728)] [(5, 1728)] (hf_impl_byteReader_instance_mPb _) (fun _ => yf) fun y217 h => ?_; cbv
       revert h; refine rk [] [] (hf_impl_named _ _) (fun _ => zg (les_cons (le_agg ⟨give_osD (rf_oncCell) (ln_oncCell) rfl rfl rfl, trivial⟩) (les_cons (lR _) (les_nil)))) fun y219 h => ?_; cbv; revert h; refine rk [(5, 576), (7, 1728)] [(5, 576), (7, 1728)] (hf_impl_streamReader_take_1_mPP _) (fun _ => yf) fun y221 h => ?_; cbv; revert h; refine fk ?_ ?_ <;> intro h <;> cbv
       ·obtain ⟨r235, h236, he237⟩ := of_bind h; injection he237 with he237; subst he237; injection hz205 with hz205; subst hz205; have h := h236; obtain ⟨r232, h233, he234⟩ := of_bind h; injection he234 with he234; subst he234; injection hz142 with hz142; subst hz142; have h := h233; obtain ⟨r229, h230, he231⟩ := of_bind h; injection he231 with he231; subst he231; injection hz88 with hz88; subst hz88
        have h := h230; obtain ⟨r226, h227, he228⟩ := of_bind h; injection he228 with he228; subst he228; injection hz45 with hz45; subst hz45; have h := h227; obtain ⟨r223, h224, he225⟩ := of_bind h; injection he225 with he225; subst he225; injection hz6 with hz6; subst hz6; have h := h224
        injection h with h; subst h; exact ⟨_, St.le_trans (le_ren 7 64000 (by decide) rfl) (St.le_trans (le_ren 9 64002 (by decide) rfl) (St.le_trans (le_ren 11 64004 (by decide) rfl) ((le_ren 13 64006 (by decide) rfl)))), lR _, zo, rfl⟩
       revert h; refine fk ?_ ?_ <;> intro h <;> cbv
       ·obtain ⟨r250, h251, he252⟩ := of_bind h; injection he252 with he252; subst he252; injection hz205 with hz205; subst hz205; have h := h251; obtain ⟨r247, h248, he249⟩ := of_bind h; injection he249 with he249; subst he249; injection hz142 with hz142; subst hz142; have h := h248; obtain ⟨r244, h245, he246⟩ := of_bind h; injection he246 with he246; subst he246; injection hz88 with hz88; subst hz88
        have h := h245; obtain ⟨r241, h242, he243⟩ := of_bind h; injection he243 with he243; subst he243; injection hz45 with hz45; subst hz45; have h := h242; obtain ⟨r238, h239, he240⟩ := of_bind h; injection he240 with he240; subst he240; injection hz6 with hz6; subst hz6; have h := h239
        injection h with h; subst h; exact ⟨_, St.le_trans (le_ren 7 64000 (by decide) rfl) (St.le_trans (le_ren 9 64002 (by decide) rfl) (St.le_trans (le_ren 11 64004 (by decide) rfl) ((le_ren 13 64006 (by decide) rfl)))), lR _, zo, rfl⟩
       revert h; refine fk ?_ ?_ <;> intro h <;> cbv
       ·obtain ⟨r265, h266, he267⟩ := of_bind h; injection he267 with he267; subst he267; injection hz205 with hz205; subst hz205; have h := h266; obtain ⟨r262, h263, he264⟩ := of_bind h; injection he264 with he264; subst he264; injection hz142 with hz142; subst hz142; have h := h263; obtain ⟨r259, h260, he261⟩ := of_bind h; injection he261 with he261; subst he261; injection hz88 with hz88; subst hz88
        have h := h260; obtain ⟨r256, h257, he258⟩ := of_bind h; injection he258 with he258; subst he258; injection hz45 with hz45; subst hz45; have h := h257; obtain ⟨r253, h254, he255⟩ := of_bind h; injection he255 with he255; subst he255; injection hz6 with hz6; subst hz6; have h := h254
        injection h with h; subst h; exact ⟨_, St.le_trans (le_ren 7 64000 (by decide) rfl) (St.le_trans (le_ren 9 64002 (by decide) rfl) (St.le_trans (le_ren 11 64004 (by decide) rfl) ((le_ren 13 64006 (by decide) rfl)))), lR _, zo, rfl⟩
       revert h; refine rk0 (hf_impl_validInstance _ _) fun y268 h => ?_; cbv; revert h; refine fk ?_ ?_ <;> intro h <;> cbv
       ·obtain ⟨r282, h283, he284⟩ := of_bind h; injection he284 with he284; subst he284; injection hz205 with hz205; subst hz205; have h := h283; obtain ⟨r279, h280, he281⟩ := of_bind h; injection he281 with he281; subst he281; injection hz142 with hz142; subst hz142; have h := h280; obtain ⟨r276, h277, he278⟩ := of_bind h; injection he278 with he278; subst he278; injection hz88 with hz88; subst hz88
        have h := h277; obtain ⟨r273, h274, he275⟩ := of_bind h; injection he275 with he275; subst he275; injection hz45 with hz45; subst hz45; have h := h274; obtain ⟨r270, h271, he272⟩ := of_bind h; injection he272 with he272; subst he272; injection hz6 with hz6; subst hz6; have h := h271
        injection h with h; subst h; exact ⟨_, St.le_trans (le_ren 7 64000 (by decide) rfl) (St.le_trans (le_ren 9 64002 (by decide) rfl) (St.le_trans (le_ren 11 64004 (by decide) rfl) ((le_ren 13 64006 (by decide) rfl)))), lR _, zo, rfl⟩
       revert h; refine rl fun l285 hl285 h => ?_; have e286 : 1 = LEN l285 := by subst hl285 hLEN; rfl
       refine ⟨_, (co e286), _, row GD (encInstance) l285, e286, wkOf ?_, ?_⟩
       ·intro i hi j hj; rw [← e286] at hi; subst hl285; subst hGD; obtain rfl : i = 0 := (by omega) <;> obtain rfl | rfl | rfl | rfl | rfl | rfl | rfl | rfl : j = 0 ∨ j = 1 ∨ j = 2 ∨ j = 3 ∨ j = 4 ∨ j = 5 ∨ j = 6 ∨ j = 7 := (by omega)
        all_goals rfl
       cbv; revert h; refine rq fun c289 => rl fun l287 hl287 h => ?_; have e288 := nl hA hLEN hl287; refine ⟨c289, _, (co e288), _, row GD (encInstance) l287, e288, wkOf ?_, ?_⟩
       ·subst hGD hLEN hA; exact app_os (off := 0) (pl_encInstance) hl287 (Nat.le_refl _)
       cbv; injection h with h; subst h; subst hS; show St.le _ _; refine St.le_trans (le_ren 7 62000 (by decide) rfl) ?_; refine St.le_trans (le_ren 9 62002 (by decide) rfl) ?_; refine St.le_trans (le_ren 13 15808 (by decide) rfl) ?_; exact zb
      obtain ⟨z296, hy295, hz297⟩ := of_bind h
      obtain ⟨S, hS⟩ : ∃ S, S = (match z296 with | .inl _ => none | .inr y294 => some (sparse 274 [] [(5, .var [.v (.bool a0.gbegun), .v (.bool y294.2.2.2.2.2.2), .v (.int .i64 a0.gcells), .v (.bool y294.1), .v (.string y294.2.1), .os 62000 0 (LEN y294.2.2.1), .os 62002 0 (LEN y294.2.2.2.1), .os 62004 0 (LEN y294.2.2.2.2.1), .os 15808 0 (LEN y294.2.2.2.2.2.1)]), (62000, .arr .rw [] (LEN y294.2.2.1) 5 (row GD (encShape) y294.2.2.1)), (62002, .arr .rw [] (LEN y294.2.2.2.1) 4 (row GD (encLabel) y294.2.2.2.1)), (62004, .arr .rw [] (LEN y294.2.2.2.2.1) 8 (row GD (encInstance) y294.2.2.2.2.1)), (15808, .arr .rw [] (LEN y294.2.2.2.2.2.1) 4 (row GD (oncCell LEN GD) y294.2.2.2.2.2.1))])) := ⟨_, rfl⟩
      refine ⟨S, ?_, ?_⟩
      ·have h := hy295; clear hy295; cbv; revert h; refine fk ?_ ?_ <;> intro h <;> cbv
       ·revert h; refine rk [(5, 1728)] [(5, 1728)] (hf_impl_byteReader_one_mPb _) (fun _ => yf) fun y307 h => ?_; cbv; revert h; refine rk [(5, 1728)] [(5, 1728)] (hf_impl_byteReader_one_mPb _) (fun _ => yf) fun y309 h => ?_; cbv; revert h; refine rk [(5, 1728)] [(5, 1728)] (hf_impl_byteReader_one_mPb _) (fun _ => yf) fun y311 h => ?_; cbv; revert h; refine rl fun l313 hl313 h => ?_
        have e314 : 3 = LEN l313 := by subst hl313 hLEN; rfl
        refine ⟨_, (co e314), _, row GD (encI .i64) l313, e314, wkOf ?_, ?_⟩
        ·intro i hi j hj; rw [← e314] at hi; subst hl313; subst hGD; obtain rfl | rfl | rfl : i = 0 ∨ i = 1 ∨ i = 2 := (by omega); all_goals obtain rfl : j = 0 := by omega
         all_goals rfl
        cbv
        revert h; refine cu (fun y315 => (sparse 274 [(0, .c (.ptr 5 0)), (235, .c (.v (.bool y315)))] [(5, .var [.v (.bool a0.gbegun), .v (.bool a0.gdone), .v (.int .i64 a0.gcells), .v (.bool a0.ginside), .v (.string a0.gcell.fName), .os 7 0 (LEN a0.gcell.fShapes), .os 9 0 (LEN a0.gcell.fLabels), .os 11 0 (LEN a0.gcell.fInstances), .os 13 0 (LEN a0.glib.fCells)]), (7, .arr .rw [] (LEN a0.gcell.fShapes) 5 (row GD (encShape) a0.gcell.fShapes)), (9, .arr .rw [] (LEN a0.gcell.fLabels) 4 (row GD (encLabel) a0.gcell.fLabels)), (11, .arr .rw [] (LEN a0.gcell.fInstances) 8 (row GD (encInstance) a0.gcell.fInstances)), (13, .arr .rw [] (LEN a0.glib.fCells) 4 (row GD (oncCell LEN GD) a0.glib.fCells))])) ?_ fun w321 => rz fun h => ?_
        ·intro y315 S hS h; cbv; revert h; refine rk [(5, 576), (7, 1728)] [(5, 576), (7, 1728)] (hf_impl_streamReader_take_1_mPP _) (fun _ => yf) fun y322 h => ?_; cbv; revert h; refine fk ?_ ?_ <;> intro h <;> cbv
         ·exact dn
         revert h; refine rl fun l324 hl324 h => ?_; have e325 : 3 = LEN l324 := by subst hl324 hLEN; rfl
         refine ⟨_, (co e325), _, row GD (encI .i64) l324, e325, wkOf ?_, ?_⟩
         ·intro i hi j hj; rw [← e325] at hi; subst hl324; subst hGD; obtain rfl | rfl | rfl : i = 0 ∨ i = 1 ∨ i = 2 := (by omega); all_goals obtain rfl : j = 0 := by omega
          all_goals rfl
         cbv; revert h; refine rk [] [] (hf_slices_Equal_Lint64_int64 _ _) (fun _ => zg (les_cons (give_os (fun _ _ => rfl) rfl rfl rfl) (les_cons (give_os (fun _ _ => rfl) rfl rfl rfl) (les_nil)))) fun y326 h => ?_; cbv; exact dn
        cbv; revert h; refine fk ?_ ?_ <;> intro h <;> cbv
        ·obtain ⟨r344, h345, he346⟩ := of_bind h; injection he346 with he346; subst he346; injection hz297 with hz297; subst hz297; have h := h345; obtain ⟨r341, h342, he343⟩ := of_bind h; injection he343 with he343; subst he343; injection hz205 with hz205; subst hz205; have h := h342; obtain ⟨r338, h339, he340⟩ := of_bind h; injection he340 with he340; subst he340; injection hz142 with hz142; subst hz142
         have h := h339; obtain ⟨r335, h336, he337⟩ := of_bind h; injection he337 with he337; subst he337; injection hz88 with hz88; subst hz88; have h := h336; obtain ⟨r332, h333, he334⟩ := of_bind h; injection he334 with he334; subst he334; injection hz45 with hz45; subst hz45; have h := h333; obtain ⟨r329, h330, he331⟩ := of_bind h; injection he331 with he331; subst he331; injection hz6 with hz6
         subst hz6; have h := h330; injection h with h; subst h; exact ⟨_, St.le_trans (le_ren 7 64000 (by decide) rfl) (St.le_trans (le_ren 9 64002 (by decide) rfl) (St.le_trans (le_ren 11 64004 (by decide) rfl) ((le_ren 13 64006 (by decide) rfl)))), lR _, zo, rfl⟩
        revert h; refine cu (fun y347 => (sparse 274 [(0, .c (.ptr 5 0))] [(5, .var [.v (.bool a0.gbegun), .v (.bool a0.gdone), .v (.int .i64 a0.gcells), .v (.bool a0.ginside), .v (.string a0.gcell.fName), .junk, .junk, .junk, .os 15808 0 (LEN y347)]), (15808, .arr .rw [] (LEN y347) 4 (row GD (oncCell LEN GD) y347))])) ?_ fun w353 => rz fun h => ?_
        ·intro y347 S hS h; cbv; revert h; refine rl fun l354 hl354 h => ?_; have e355 : 1 = LEN l354 := by subst hl354 hLEN; rfl
         refine ⟨_, (co e355), _, (patchC (fun _ _ => AC.junk) 0 [.v (.string a0.gcell.fName), .os 7 0 (LEN a0.gcell.fShapes), .os 9 0 (LEN a0.gcell.fLabels), .os 11 0 (LEN a0.gcell.fInstances)]), e355, wkOf ?_, ?_⟩
         ·refine patch_one (by subst hl354 hLEN; rfl) ?_; exact zr
         cbv; revert h; refine rq fun c358 => rl fun l356 hl356 h => ?_; have e357 := nl hA hLEN hl356; refine ⟨c358, _, (co e357), _, (patchC (row GD (oncCell LEN GD) a0.glib.fCells) (LEN a0.glib.fCells) [.v (.string a0.gcell.fName), .os 7 0 (LEN a0.gcell.fShapes), .os 9 0 (LEN a0.gcell.fLabels), .os 11 0 (LEN a0.gcell.fInstances)]), e357, wkOf ?_, ?_⟩
         ·subst hLEN hA; refine patch_joinG (by first | (rw [hl356]; simp [len]; done) | (rw [hl356]; simp [len]; omega) | (subst_vars; simp [len])) ?_; exact zr
         cbv; rw [hl354] at hl356; injection h with h; subst h; subst hS; show St.le _ _; refine St.le_trans (le_foldP 15808 1 7 rfl rfl rfl (by decide) (by subst hLEN; exact app_lt hl356) (by decide) rfl (fun _ _ => rf_oncCell _ _)) ?_; refine St.le_trans (le_foldP 15808 2 9 rfl rfl rfl (by decide) (by subst hLEN; exact app_lt hl356) (by decide) rfl (fun _ _ => rf_oncCell _ _)) ?_
         refine St.le_trans (le_foldP 15808 3 11 rfl rfl rfl (by decide) (by subst hLEN; exact app_lt hl356) (by decide) rfl (fun _ _ => rf_oncCell _ _)) ?_; exact le_sparse rfl zl ⟨rfl, oP (fun _ _ => rf_oncCell _ _) (by subst hGD hLEN hA; exact patch_app hl356 (Nat.le_refl _) zr), trivial⟩ rfl
        cbv; injection h with h; subst h; subst hS; show St.le _ _; refine St.le_trans (le_nilV 5 5 62000 5 (row GD (encShape) ([] : List TShape)) (by decide) (by decide) rfl rfl) ?_; refine St.le_trans (le_nilV 5 6 62002 4 (row GD (encLabel) ([] : List TLabel)) (by decide) (by decide) rfl rfl) ?_
        refine St.le_trans (le_nilV 5 7 62004 8 (row GD (encInstance) ([] : List TInstance)) (by decide) (by decide) rfl rfl) ?_; subst hLEN; exact zb
       obtain ⟨z362, hy361, hz363⟩ := of_bind h
       obtain ⟨S, hS⟩ : ∃ S, S = (match z362 with | .inl _ => none | .inr y360 => some (sparse 274 [] [(5, .var [.v (.bool a0.gbegun), .v (.bool y360), .v (.int .i64 a0.gcells), .v (.bool a0.ginside), .v (.string a0.gcell.fName), .os 7 0 (LEN a0.gcell.fShapes), .os 9 0 (LEN a0.gcell.fLabels), .os 11 0 (LEN a0.gcell.fInstances), .os 13 0 (LEN a0.glib.fCells)]), (7, .arr .rw [] (LEN a0.gcell.fShapes) 5 (row GD (encShape) a0.gcell.fShapes)), (9, .arr .rw [] (LEN a0.gcell.fLabels) 4 (row GD (encLabel) a0.gcell.fLabels)), (11, .arr .rw [] (LEN a0.gcell.fInstances) 8 (row GD (encInstance) a0.gcell.fInstances)), (13, .arr .rw [] (LEN a0.glib.fCells) 4 (row GD (oncCell LEN GD) a0.glib.fCells))])) := ⟨_, rfl⟩
       refine ⟨S, ?_, ?_⟩
       ·have h := hy361; clear hy361; cbv; revert h; refine fk ?_ ?_ <;> intro h <;> cbv
        ·revert h; refine rk [(5, 1728)] [(5, 1728)] (hf_impl_byteReader_two_mPb _) (fun _ => yf) fun y367 h => ?_; cbv; revert h; refine rk [(5, 576), (7, 1728)] [(5, 576), (7, 1728)] (hf_impl_streamReader_take_1_mPP _) (fun _ => yf) fun y369 h => ?_; cbv; revert h; refine fk ?_ ?_ <;> intro h <;> cbv
         ·obtain ⟨r389, h390, he391⟩ := of_bind h; injection he391 with he391; subst he391; injection hz363 with hz363; subst hz363; have h := h390; obtain ⟨r386, h387, he388⟩ := of_bind h; injection he388 with he388; subst he388; injection hz297 with hz297; subst hz297; have h := h387; obtain ⟨r383, h384, he385⟩ := of_bind h; injection he385 with he385; subst he385; injection hz205 with hz205; subst hz205
          have h := h384; obtain ⟨r380, h381, he382⟩ := of_bind h; injection he382 with he382; subst he382; injection hz142 with hz142; subst hz142; have h := h381; obtain ⟨r377, h378, he379⟩ := of_bind h; injection he379 with he379; subst he379; injection hz88 with hz88; subst hz88; have h := h378; obtain ⟨r374, h375, he376⟩ := of_bind h; injection he376 with he376; subst he376; injection hz45 with hz45
          subst hz45; have h := h375; obtain ⟨r371, h372, he373⟩ := of_bind h; injection he373 with he373; subst he373; injection hz6 with hz6; subst hz6; have h := h372; injection h with h; subst h; exact ⟨_, St.le_trans (le_ren 7 64000 (by decide) rfl) (St.le_trans (le_ren 9 64002 (by decide) rfl) (St.le_trans (le_ren 11 64004 (by decide) rfl) ((le_ren 13 64006 (by decide) rfl)))), lR _, zo, rfl⟩
         revert h; refine rk0 (hf_impl_Checksum16 _) fun y392 h => ?_; cbv; revert h; refine fk ?_ ?_ <;> intro h <;> cbv
         ·obtain ⟨r412, h413, he414⟩ := of_bind h; injection he414 with he414; subst he414; injection hz363 with hz363; subst hz363; have h := h413; obtain ⟨r409, h410, he411⟩ := of_bind h; injection he411 with he411; subst he411; injection hz297 with hz297; subst hz297; have h := h410; obtain ⟨r406, h407, he408⟩ := of_bind h; injection he408 with he408; subst he408; injection hz205 with hz205; subst hz205
          have h := h407; obtain ⟨r403, h404, he405⟩ := of_bind h; injection he405 with he405; subst he405; injection hz142 with hz142; subst hz142; have h := h404; obtain ⟨r400, h401, he402⟩ := of_bind h; injection he402 with he402; subst he402; injection hz88 with hz88; subst hz88; have h := h401; obtain ⟨r397, h398, he399⟩ := of_bind h; injection he399 with he399; subst he399; injection hz45 with hz45
          subst hz45; have h := h398; obtain ⟨r394, h395, he396⟩ := of_bind h; injection he396 with he396; subst he396; injection hz6 with hz6; subst hz6; have h := h395; injection h with h; subst h; exact ⟨_, St.le_trans (le_ren 7 64000 (by decide) rfl) (St.le_trans (le_ren 9 64002 (by decide) rfl) (St.le_trans (le_ren 11 64004 (by decide) rfl) ((le_ren 13 64006 (by decide) rfl)))), lR _, zo, rfl⟩
         exact dn
        exact dn
       ·clear hy361; subst hS; rcases z362 with _ | y360
        ·trivial
        ·have h := hz363; clear hz363; revert h; refine rl fun w366 hw366 h => ?_; have hw366 : w366 = y360 := hw366; subst hw366; cbv; injection h with h; subst h; subst hS; show St.le _ _; refine St.le_trans (le_ren 7 62000 (by decide) rfl) ?_; refine St.le_trans (le_ren 9 62002 (by decide) rfl) ?_; refine St.le_trans (le_ren 11 62004 (by decide) rfl) ?_
         refine St.le_trans (le_ren 13 15808 (by decide) rfl) ?_; exact zb
      ·clear hy295; subst hS; rcases z296 with _ | y294
       ·trivial
       ·have h := hz297; clear hz297; obtain ⟨y294_0, y294_1, y294_2, y294_3, y294_4, y294_5, y294_6⟩ := y294; revert h; refine rl fun w300 hw300 h => ?_; have hw300 : w300 = y294_0 := hw300; subst hw300; revert h; refine rl fun w301 hw301 h => ?_; have hw301 : w301 = y294_1 := hw301; subst hw301; revert h; refine rl fun w302 hw302 h => ?_; have hw302 : w302 = y294_2 := hw302; subst hw302
        revert h; refine rl fun w303 hw303 h => ?_; have hw303 : w303 = y294_3 := hw303; subst hw303; revert h; refine rl fun w304 hw304 h => ?_; have hw304 : w304 = y294_4 := hw304; subst hw304; revert h; refine rl fun w305 hw305 h => ?_; have hw305 : w305 = y294_5 := hw305; subst hw305; revert h; refine rl fun w306 hw306 h => ?_; have hw306 : w306 = y294_6 := hw306; subst hw306; cbv; injection h with h
        subst h; subst hS; show St.le _ _; refine St.le_trans (le_ren 62004 12544 (by decide) rfl) ?_; exact zb
     ·clear hy203; subst hS; rcases z204 with _ | y202
      ·trivial
      ·have h := hz205; clear hz205; obtain ⟨y202_0, y202_1, y202_2, y202_3, y202_4, y202_5, y202_6⟩ := y202; revert h; refine rl fun w208 hw208 h => ?_; have hw208 : w208 = y202_0 := hw208; subst hw208; revert h; refine rl fun w209 hw209 h => ?_; have hw209 : w209 = y202_1 := hw209; subst hw209; revert h; refine rl fun w210 hw210 h => ?_; have hw210 : w210 = y202_2 := hw210; subst hw210
       revert h; refine rl fun w211 hw211 h => ?_; have hw211 : w211 = y202_3 := hw211; subst hw211; revert h; refine rl fun w212 hw212 h => ?_; have hw212 : w212 = y202_4 := hw212; subst hw212; revert h; refine rl fun w213 hw213 h => ?_; have hw213 : w213 = y202_5 := hw213; subst hw213; revert h; refine rl fun w214 hw214 h => ?_; have hw214 : w214 = y202_6 := hw214; subst hw214; cbv; injection h with h
       subst h; subst hS; show St.le _ _; refine St.le_trans (le_ren 62002 9600 (by decide) rfl) ?_; exact zb
    ·clear hy140; subst hS; rcases z141 with _ | y139
     ·trivial
     ·have h := hz142; clear hz142; obtain ⟨y139_0, y139_1, y139_2, y139_3, y139_4, y139_5, y139_6⟩ := y139; revert h; refine rl fun w145 hw145 h => ?_; have hw145 : w145 = y139_0 := hw145; subst hw145; revert h; refine rl fun w146 hw146 h => ?_; have hw146 : w146 = y139_1 := hw146; subst hw146; revert h; refine rl fun w147 hw147 h => ?_; have hw147 : w147 = y139_2 := hw147; subst hw147
      revert h; refine rl fun w148 hw148 h => ?_; have hw148 : w148 = y139_3 := hw148; subst hw148; revert h; refine rl fun w149 hw149 h => ?_; have hw149 : w149 = y139_4 := hw149; subst hw149; revert h; refine rl fun w150 hw150 h => ?_; have hw150 : w150 = y139_5 := hw150; subst hw150; revert h; refine rl fun w151 hw151 h => ?_; have hw151 : w151 = y139_6 := hw151; subst hw151; cbv; injection h with h
      subst h; subst hS; show St.le _ _; refine St.le_trans (le_ren 62000 7552 (by decide) rfl) ?_; exact zb
   ·clear hy86; subst hS; rcases z87 with _ | y85
    ·trivial
    ·have h := hz88; clear hz88; obtain ⟨y85_0, y85_1, y85_2, y85_3, y85_4, y85_5, y85_6⟩ := y85; revert h; refine rl fun w91 hw91 h => ?_; have hw91 : w91 = y85_0 := hw91; subst hw91; revert h; refine rl fun w92 hw92 h => ?_; have hw92 : w92 = y85_1 := hw92; subst hw92; revert h; refine rl fun w93 hw93 h => ?_; have hw93 : w93 = y85_2 := hw93; subst hw93; revert h; refine rl fun w94 hw94 h => ?_
     have hw94 : w94 = y85_3 := hw94; subst hw94; revert h; refine rl fun w95 hw95 h => ?_; have hw95 : w95 = y85_4 := hw95; subst hw95; revert h; refine rl fun w96 hw96 h => ?_; have hw96 : w96 = y85_5 := hw96; subst hw96; revert h; refine rl fun w97 hw97 h => ?_; have hw97 : w97 = y85_6 := hw97; subst hw97; cbv; exact dn
  ·clear hy43; subst hS; rcases z44 with _ | y42
   ·trivial
   ·have h := hz45; clear hz45; obtain ⟨y42_0, y42_1, y42_2, y42_3, y42_4, y42_5, y42_6⟩ := y42; revert h; refine rl fun w48 hw48 h => ?_; have hw48 : w48 = y42_0 := hw48; subst hw48; revert h; refine rl fun w49 hw49 h => ?_; have hw49 : w49 = y42_1 := hw49; subst hw49; revert h; refine rl fun w50 hw50 h => ?_; have hw50 : w50 = y42_2 := hw50; subst hw50; revert h; refine rl fun w51 hw51 h => ?_
    have hw51 : w51 = y42_3 := hw51; subst hw51; revert h; refine rl fun w52 hw52 h => ?_; have hw52 : w52 = y42_4 := hw52; subst hw52; revert h; refine rl fun w53 hw53 h => ?_; have hw53 : w53 = y42_5 := hw53; subst hw53; revert h; refine rl fun w54 hw54 h => ?_; have hw54 : w54 = y42_6 := hw54; subst hw54; cbv; exact dn
 ·clear hy4; subst hS; rcases z5 with _ | y3
  ·trivial
  ·have h := hz6; clear hz6; obtain ⟨y3_0, y3_1, y3_2, y3_3, y3_4, y3_5, y3_6, y3_7, y3_8⟩ := y3; revert h; refine rl fun w9 hw9 h => ?_; have hw9 : w9 = y3_0 := hw9; subst hw9; revert h; refine rl fun w10 hw10 h => ?_; have hw10 : w10 = y3_1 := hw10; subst hw10; revert h; refine rl fun w11 hw11 h => ?_; have hw11 : w11 = y3_2 := hw11; subst hw11; revert h; refine rl fun w12 hw12 h => ?_
   have hw12 : w12 = y3_3 := hw12; subst hw12; revert h; refine rl fun w13 hw13 h => ?_; have hw13 : w13 = y3_4 := hw13; subst hw13; revert h; refine rl fun w14 hw14 h => ?_; have hw14 : w14 = y3_5 := hw14; subst hw14; revert h; refine rl fun w15 hw15 h => ?_; have hw15 : w15 = y3_6 := hw15; subst hw15; revert h; refine rl fun w16 hw16 h => ?_; have hw16 : w16 = y3_7 := hw16; subst hw16
   revert h; refine rz fun h => ?_; cbv; injection h with h; subst h; exact ⟨_, St.le_trans (le_ren 7552 64000 (by decide) rfl) (St.le_trans (le_ren 9600 64002 (by decide) rfl) (St.le_trans (le_ren 12544 64004 (by decide) rfl) ((le_ren 15808 64006 (by decide) rfl)))), lR _, zo, rfl⟩

noncomputable def L_impl_readStream_x11 (a0 : ByteArray) : (Int × Bool × Bool × Int × Bool × ByteArray × (List TShape) × (List TLabel) × (List TInstance) × (List TCell)) → Option ((Int × Bool × Bool × Int × Bool × ByteArray × (List TShape) × (List TLabel) × (List TInstance) × (List TCell)) ⊕ ((Int × Int × (List TCell)) ⊕ (Int × Bool × Bool × Int × Bool × ByteArray × (List TShape) × (List TLabel) × (List TInstance) × (List TCell)))) := fun x11 =>
 letO x11.1 fun v1 =>
 letO x11.2.1 fun v2 =>
 letO x11.2.2.1 fun v3 =>
 letO x11.2.2.2.1 fun v4 =>
 letO x11.2.2.2.2.1 fun v5 =>
 letO x11.2.2.2.2.2.1 fun v6 =>
 letO x11.2.2.2.2.2.2.1 fun v7 =>
 letO x11.2.2.2.2.2.2.2.1 fun v8 =>
 letO x11.2.2.2.2.2.2.2.2.1 fun v9 =>
 letO x11.2.2.2.2.2.2.2.2.2 fun v10 =>
 br (!(v3))
 ((F_impl_SplitRecord a0 v1).bind fun y23 =>
 ((
    br (std.eq y23.2.2.2 0)
    (req (std.upTo v1 (std.slen a0)) <|
    (F_impl_streamReader_take_mPoooobbb (TstreamReader.mk v2 v3 v4 v5 (TCell.mk v6 v7 v8 v9) (TLibrary.mk v10)) y23.1 y23.2.1 (std.ssub a0 0 (std.toN v1))).bind fun y42 =>
    some (y42.1, y42.2.gbegun, y42.2.gdone, y42.2.gcells, y42.2.ginside, y42.2.gcell.fName, y42.2.gcell.fShapes, y42.2.gcell.fLabels, y42.2.gcell.fInstances, y42.2.glib.fCells))
    (some (y23.2.2.2, v2, v3, v4, v5, v6, v7, v8, v9, v10))
  ) : Option (Int × Bool × Bool × Int × Bool × ByteArray × (List TShape) × (List TLabel) × (List TInstance) × (List TCell))).bind fun y25 =>
 letO y25.1 fun w31 =>
 letO y25.2.1 fun w32 =>
 letO y25.2.2.1 fun w33 =>
 letO y25.2.2.2.1 fun w34 =>
 letO y25.2.2.2.2.1 fun w35 =>
 letO y25.2.2.2.2.2.1 fun w36 =>
 letO y25.2.2.2.2.2.2.1 fun w37 =>
 letO y25.2.2.2.2.2.2.2.1 fun w38 =>
 letO y25.2.2.2.2.2.2.2.2.1 fun w39 =>
 letO y25.2.2.2.2.2.2.2.2.2 fun w40 =>
 br (std.not (std.eq w31 0))
 (some (.inr (.inl (w31, v1, w40))))
 (some (.inl (y23.2.2.1, w32, w33, w34, w35, w36, w37, w38, w39, w40))))
 (some (.inr (.inr (v1, v2, v3, v4, v5, v6, v7, v8, v9, v10))))
/-- impl.readStream -/
noncomputable def F_impl_readStream (a0 : ByteArray) : Option (TLibrary × Int × Int) :=
 (whileP (σ := Int × Bool × Bool × Int × Bool × ByteArray × (List TShape) × (List TLabel) × (List TInstance) × (List TCell)) (ρ := (Int × Int × (List TCell)) ⊕ (Int × Bool × Bool × Int × Bool × ByteArray × (List TShape) × (List TLabel) × (List TInstance) × (List TCell))) (L_impl_readStream_x11 a0) (0, false, false, 0, false, (ByteArray.mk #[]), ([] : List TShape), ([] : List TLabel), ([] : List TInstance), ([] : List TCell))).bind fun y12 =>
 (match y12 with
  | .inl y12k0 => (
    letO y12k0.1 fun w47 =>
    letO y12k0.2.1 fun w48 =>
    letO y12k0.2.2 fun w49 =>
    some ((TLibrary.mk w49), w47, w48))
  | .inr y12m0 =>
    letO y12m0 fun y12k1 =>
    letO y12k1.1 fun w50 =>
    letO y12k1.2.1 fun w51 =>
    letO y12k1.2.2.1 fun w52 =>
    letO y12k1.2.2.2.1 fun w53 =>
    letO y12k1.2.2.2.2.1 fun w54 =>
    letO y12k1.2.2.2.2.2.1 fun w55 =>
    letO y12k1.2.2.2.2.2.2.1 fun w56 =>
    letO y12k1.2.2.2.2.2.2.2.1 fun w57 =>
    letO y12k1.2.2.2.2.2.2.2.2.1 fun w58 =>
    letO y12k1.2.2.2.2.2.2.2.2.2 fun w59 =>
    br (std.lt w50 (std.ofN (std.slen a0)))
    (some ((TLibrary.mk w59), (4 : Int), w50))
    (some ((TLibrary.mk w59), (0 : Int), w50)))
set_option maxHeartbeats 4000000 in
theorem run_impl_readStream (a0 : ByteArray) (r : TLibrary × Int × Int) (h : F_impl_readStream a0 = some r) : Fun Try.prog 24 [.c (.v (.string a0))] [] (.tup [.agg [.os 64000 0 (len r.1.fCells)], .c (.v (.int .i64 r.2.1)), .c (.v (.int .i64 r.2.2))]) [(64000, .arr .rw [] (len r.1.fCells) 4 (row gd (oncCell len gd) r.1.fCells))] true := by
 refine ow [100027] Try.func24 Try.ntmps24 ?_ (hv := (fun _ => ⟨(by simp [AV.flat, AV.flat1, AC.flat]), ⟨fun i _ j _ => fl_oncCell _ _, trivial⟩⟩)); unfold F_impl_readStream at h; unfold L_impl_readStream_x11 at h; have hf_impl_SplitRecord := @run_impl_SplitRecord; have hf_impl_streamReader_take_mPoooobbb := @run_impl_streamReader_take_mPoooobbb
 generalize hLEN : @len = LEN, hGD : @gd = GD, hA : std = A, hP : Try.prog = P at *; cbv
 revert h; refine lc (fun x => (sparse 58 [(0, .c (.v (.string a0))), (2, .c (.ptr 128 0)), (5, .c (.ptr 768 0)), (6, .c (.v (.int .i64 x.1)))] [(128, .var [.v (.slice none 0 0)]), (768, .var [.v (.bool x.2.1), .v (.bool x.2.2.1), .v (.int .i64 x.2.2.2.1), .v (.bool x.2.2.2.2.1), .v (.string x.2.2.2.2.2.1), .os 2176 0 (LEN x.2.2.2.2.2.2.1), .os 2178 0 (LEN x.2.2.2.2.2.2.2.1), .os 2180 0 (LEN x.2.2.2.2.2.2.2.2.1), .os 2182 0 (LEN x.2.2.2.2.2.2.2.2.2)]), (2176, .arr .rw [] (LEN x.2.2.2.2.2.2.1) 5 (row GD (encShape) x.2.2.2.2.2.2.1)), (2178, .arr .rw [] (LEN x.2.2.2.2.2.2.2.1) 4 (row GD (encLabel) x.2.2.2.2.2.2.2.1)), (2180, .arr .rw [] (LEN x.2.2.2.2.2.2.2.2.1) 8 (row GD (encInstance) x.2.2.2.2.2.2.2.2.1)), (2182, .arr .rw [] (LEN x.2.2.2.2.2.2.2.2.2) 4 (row GD (oncCell LEN GD) x.2.2.2.2.2.2.2.2.2))])) (fun y e s => (match y with | .inl w => e = .ret ∧ s.le (sparse 58 [(2, .c (.ptr 128 0)), (3, .c (.v (.int .i64 w.1))), (4, .c (.v (.int .i64 w.2.1)))] [(128, .var [.os 2182 0 (LEN w.2.2)]), (2182, .arr .rw [] (LEN w.2.2) 4 (row GD (oncCell LEN GD) w.2.2))]) | .inr w0 => (fun (w : Int × Bool × Bool × Int × Bool × ByteArray × (List TShape) × (List TLabel) × (List TInstance) × (List TCell)) => e = .exit 0 ∧ s.le (sparse 58 [(0, .c (.v (.string a0))), (2, .c (.ptr 128 0)), (5, .c (.ptr 768 0)), (6, .c (.v (.int .i64 w.1)))] [(128, .var [.v (.slice none 0 0)]), (768, .var [.v (.bool w.2.1), .v (.bool w.2.2.1), .v (.int .i64 w.2.2.2.1), .v (.bool w.2.2.2.2.1), .v (.string w.2.2.2.2.2.1), .os 2176 0 (LEN w.2.2.2.2.2.2.1), .os 2178 0 (LEN w.2.2.2.2.2.2.2.1), .os 2180 0 (LEN w.2.2.2.2.2.2.2.2.1), .os 2182 0 (LEN w.2.2.2.2.2.2.2.2.2)]), (2176, .arr .rw [] (LEN w.2.2.2.2.2.2.1) 5 (row GD (encShape) w.2.2.2.2.2.2.1)), (2178, .arr .rw [] (LEN w.2.2.2.2.2.2.2.1) 4 (row GD (encLabel) w.2.2.2.2.2.2.2.1)), (2180, .arr .rw [] (LEN w.2.2.2.2.2.2.2.2.1) 8 (row GD (encInstance) w.2.2.2.2.2.2.2.2.1)), (2182, .arr .rw [] (LEN w.2.2.2.2.2.2.2.2.2) 4 (row GD (oncCell LEN GD) w.2.2.2.2.2.2.2.2.2))])) w0)) ?_ ?_ ?_
 ·show St.le _ _; refine St.le_trans (le_nilV 768 5 2176 5 (row GD (encShape) ([] : List TShape)) (by decide) (by decide) rfl rfl) ?_; refine St.le_trans (le_nilV 768 6 2178 4 (row GD (encLabel) ([] : List TLabel)) (by decide) (by decide) rfl rfl) ?_; refine St.le_trans (le_nilV 768 7 2180 8 (row GD (encInstance) ([] : List TInstance)) (by decide) (by decide) rfl rfl) ?_
  refine St.le_trans (le_nilV 768 8 2182 4 (row GD (oncCell LEN GD) ([] : List TCell)) (by decide) (by decide) rfl rfl) ?_; subst hLEN; exact zb
 ·rintro ⟨v1, v2, v3, v4, v5, v6, v7, v8, v9, v10⟩ z h K hK hY; replace h := oz (oz (oz (oz (oz (oz (oz (oz (oz (oz h))))))))); dsimp only at h; cbv; revert h; refine fk ?_ ?_ <;> intro h <;> cbv
  ·revert h; refine rk0 (hf_impl_SplitRecord _ _) fun y23 h => ?_; cbv
   revert h; refine cu (fun y25 => some (sparse 58 [(0, .c (.v (.string a0))), (2, .c (.ptr 128 0)), (5, .c (.ptr 768 0)), (6, .c (.v (.int .i64 v1))), (9, .c (.v (.int .i64 y23.2.2.1))), (10, .c (.v (.int .i64 y25.1)))] [(128, .var [.v (.slice none 0 0)]), (768, .var [.v (.bool y25.2.1), .v (.bool y25.2.2.1), .v (.int .i64 y25.2.2.2.1), .v (.bool y25.2.2.2.2.1), .v (.string y25.2.2.2.2.2.1), .os 2176 0 (LEN y25.2.2.2.2.2.2.1), .os 2178 0 (LEN y25.2.2.2.2.2.2.2.1), .os 2180 0 (LEN y25.2.2.2.2.2.2.2.2.1), .os 2182 0 (LEN y25.2.2.2.2.2.2.2.2.2)]), (2176, .arr .rw [] (LEN y25.2.2.2.2.2.2.1) 5 (row GD (encShape) y25.2.2.2.2.2.2.1)), (2178, .arr .rw [] (LEN y25.2.2.2.2.2.2.2.1) 4 (row GD (encLabel) y25.2.2.2.2.2.2.2.1)), (2180, .arr .rw [] (LEN y25.2.2.2.2.2.2.2.2.1) 8 (row GD (encInstance) y25.2.2.2.2.2.2.2.2.1)), (2182, .arr .rw [] (LEN y25.2.2.2.2.2.2.2.2.2) 4 (row GD (oncCell LEN GD) y25.2.2.2.2.2.2.2.2.2))])) ?_ ?_
   ·intro y25 S hS h; cbv; revert h; refine fk ?_ ?_ <;> intro h <;> cbv
    ·revert h; refine ra fun c41 h => ?_
     revert h; refine rk [(5, 768), (7, 2176), (9, 2178), (11, 2180), (13, 2182)] [(64000, 2176), (64002, 2178), (64004, 2180), (64006, 2182), (5, 768)] (hf_impl_streamReader_take_mPoooobbb _ _ _ _) (fun _ => ⟨les_cons (lR _) (les_cons (lR _) (les_cons (lR _) (les_cons (lR _) (les_nil)))), ⟨rfl, oS, oS, oS, oS, trivial⟩, rfl, rfl, rfl, rfl, ⟨fun h => absurd (show (64000 : Nat) % 2 = 1 from h) (by decide), fun h => absurd (show (64002 : Nat) % 2 = 1 from h) (by decide), fun h => absurd (show (64004 : Nat) % 2 = 1 from h) (by decide), fun h => absurd (show (64006 : Nat) % 2 = 1 from h) (by decide), fun _ => rfl, trivial⟩, rfl⟩) fun y42 h => ⟨_, rfl, _, _, rfl, fun _ _ _ _ => .refl _, _, _, rfl, fun _ _ _ _ => .refl _, _, _, rfl, fun _ _ _ _ => .refl _, _, _, rfl, fun _ _ _ _ => .refl _, ?_⟩
     cbv; exact dn
    exact dn
   rintro ⟨w31, w32, w33, w34, w35, w36, w37, w38, w39, w40⟩ h; replace h := oz (oz (oz (oz (oz (oz (oz (oz (oz (oz h))))))))); dsimp only at h; cbv; revert h; refine fk ?_ ?_ <;> intro h <;> cbv
   ·exact dy
   exact dm
  exact dy
 intro y12 h e21 s22 q20 hne; rcases y12 with y12k0 | y12m0
 ·replace h := h; obtain ⟨rfl, q20⟩ := q20; obtain ⟨y12k0_0, y12k0_1, y12k0_2⟩ := y12k0; revert h; refine rl fun w47 hw47 h => ?_; have hw47 : w47 = y12k0_0 := hw47; subst hw47; revert h; refine rl fun w48 hw48 h => ?_; have hw48 : w48 = y12k0_1 := hw48; subst hw48; revert h; refine rz fun h => ?_; cbv
  injection h with h; subst h; exact ⟨_, St.le_trans q20 ((le_ren 2182 64000 (by decide) rfl)), lR _, zo, rfl⟩
 ·revert h; refine rz fun h => ?_; obtain ⟨rfl, q20⟩ := q20; obtain ⟨y12k1_0, y12k1_1, y12k1_2, y12k1_3, y12k1_4, y12k1_5, y12k1_6, y12k1_7, y12k1_8, y12k1_9⟩ := y12m0; revert h; refine rl fun w50 hw50 h => ?_; have hw50 : w50 = y12k1_0 := hw50; subst hw50; revert h; refine rl fun w51 hw51 h => ?_; have hw51 : w51 = y12k1_1 := hw51; subst hw51; revert h; refine rl fun w52 hw52 h => ?_
  have hw52 : w52 = y12k1_2 := hw52; subst hw52; revert h; refine rl fun w53 hw53 h => ?_; have hw53 : w53 = y12k1_3 := hw53; subst hw53; revert h; refine rl fun w54 hw54 h => ?_; have hw54 : w54 = y12k1_4 := hw54; subst hw54; revert h; refine rl fun w55 hw55 h => ?_; have hw55 : w55 = y12k1_5 := hw55; subst hw55; revert h; refine rl fun w56 hw56 h => ?_; have hw56 : w56 = y12k1_6 := hw56; subst hw56
  revert h; refine rl fun w57 hw57 h => ?_; have hw57 : w57 = y12k1_7 := hw57; subst hw57; revert h; refine rl fun w58 hw58 h => ?_; have hw58 : w58 = y12k1_8 := hw58; subst hw58; revert h; refine rz fun h => ?_; cbv; refine ⟨_, q20, ?_⟩; cbv; revert h; refine fk ?_ ?_ <;> intro h <;> cbv
  ·injection h with h; subst h; exact ⟨_, le_ren 2182 64000 (by decide) rfl, lR _, zo, rfl⟩
  injection h with h; subst h; exact ⟨_, le_ren 2182 64000 (by decide) rfl, lR _, zo, rfl⟩

/-- impl.ReadStream -/
noncomputable def F_impl_ReadStream (a0 : ByteArray) : Option (TLibrary × Int × Int) :=
 (F_impl_readStream a0).bind fun y1 =>
 br (std.not (std.eq y1.2.1 0))
 (some ((TLibrary.mk ([] : List TCell)), y1.2.1, y1.2.2))
 (some (y1.1, (0 : Int), y1.2.2))
set_option maxHeartbeats 4000000 in
theorem run_impl_ReadStream (a0 : ByteArray) (r : TLibrary × Int × Int) (h : F_impl_ReadStream a0 = some r) : Fun Try.prog 11 [.c (.v (.string a0))] [] (.tup [.agg [.os 64000 0 (len r.1.fCells)], .c (.v (.int .i64 r.2.1)), .c (.v (.int .i64 r.2.2))]) [(64000, .arr .rw [] (len r.1.fCells) 4 (row gd (oncCell len gd) r.1.fCells))] true := by
 refine ow [] Try.func11 Try.ntmps11 ?_ (hv := (fun _ => ⟨(by simp [AV.flat, AV.flat1, AC.flat]), ⟨fun i _ j _ => fl_oncCell _ _, trivial⟩⟩)); unfold F_impl_ReadStream at h; have hf_impl_readStream := @run_impl_readStream; generalize hLEN : @len = LEN, hGD : @gd = GD, hA : std = A, hP : Try.prog = P at *; cbv
 revert h; refine rk [] [(64000, 640)] (hf_impl_readStream _) (fun _ => zf) fun y1 h => ⟨_, rfl, _, _, rfl, fun _ _ _ _ => .refl _, ?_⟩
 cbv; revert h; refine fk ?_ ?_ <;> intro h <;> cbv
 ·injection h with h; subst h; refine ⟨(sparse 21 [(2, .c (.ptr 128 0)), (3, .c (.v (.int .i64 y1.2.1))), (4, .c (.v (.int .i64 y1.2.2)))] [(128, .var [.os 64000 0 (LEN ([] : List TCell))]), (64000, .arr .rw [] (LEN ([] : List TCell)) 4 (row GD (oncCell LEN GD) ([] : List TCell)))]), ?_, ?_⟩
  ·refine St.le_trans (le_nilV 128 0 64000 4 (row GD (oncCell LEN GD) ([] : List TCell)) (by decide) (by decide) rfl rfl) ?_; subst hLEN; exact zb
  ·subst hLEN; exact ⟨lR _, zo, rfl⟩
 injection h with h; subst h; exact ⟨_, le_ren 640 64000 (by decide) rfl, lR _, zo, rfl⟩
/-- laws.FnStreamByte -/
noncomputable def F_laws_FnStreamByte (a0 : List Int) : Option (Bool) :=
 (F_laws_big a0).bind fun y1 =>
 br y1
 (some true)
 ((F_spec_DrawLibraryStream a0).bind fun y3 =>
 (F_spec_LibraryStream y3).bind fun y5 =>
 br (std.seq y5 (ByteArray.mk #[]))
 (((
    (F_impl_LibraryStream y3).bind fun y14 =>
    br (std.seq y14 (ByteArray.mk #[]))
    ((F_impl_Checksum16 (ByteArray.mk #[])).bind fun y16 =>
    some (std.eq y16 1))
    (some false)
  ) : Option (Bool)).bind fun y7 =>
 letO y7 fun w13 =>
 some w13)
 ((F_laws_roll a0 531).bind fun y19 =>
 letO (strL y5) fun l21 =>
 (F_laws_dice_below_mPbb y19 (std.ofN (len l21))).bind fun y23 =>
 req (std.inR y23.1 (len l21)) <|
 (F_laws_dice_below_mPbb y23.2 255).bind fun y26 =>
 req (std.inR y23.1 (len l21)) <|
 letO (List.set l21 (std.nadd 0 (std.toN y23.1)) (std.add .u8 (gd l21 (std.nadd 0 (std.toN y23.1))) (std.conv .u8 (std.add .i64 1 y26.1)))) fun l29 =>
 (F_impl_ReadStream (std.ofBytes (len l21) (fun i => gd l29 (0 + i)))).bind fun y30 =>
 (F_impl_ReadStream y5).bind fun y32 =>
 ((
    br (std.not (std.eq y30.2.1 0))
    (some (std.eq y32.2.1 0))
    (some false)
  ) : Option (Bool)).bind fun y34 =>
 letO y34 fun w40 =>
 some w40))
set_option maxHeartbeats 4000000 in
theorem run_laws_FnStreamByte (a0 : List Int) (r : Bool) (h : F_laws_FnStreamByte a0 = some r) : Fun Try.prog 3 [.c (.bs (len a0) 1 (row gd (encI .u8) a0))] [] (.c (.v (.bool r))) [] true := by
 refine ow [6, 13] Try.func3 Try.ntmps3 ?_; unfold F_laws_FnStreamByte at h; have hf_impl_Checksum16 := @run_impl_Checksum16; have hf_impl_LibraryStream := @run_impl_LibraryStream; have hf_impl_ReadStream := @run_impl_ReadStream; have hf_laws_big := @run_laws_big; have hf_laws_dice_below_mPbb := @run_laws_dice_below_mPbb; have hf_laws_roll := @run_laws_roll
 have hf_spec_DrawLibraryStream := @run_spec_DrawLibraryStream; have hf_spec_LibraryStream := @run_spec_LibraryStream; generalize hLEN : @len = LEN, hGD : @gd = GD, hA : std = A, hP : Try.prog = P at *; cbv; revert h; refine rk0 (hf_laws_big _) fun y1 h => ?_; cbv; revert h; refine fk ?_ ?_ <;> intro h <;> cbv
 ·exact df
 revert h; refine rk [] [(64000, 1088)] (hf_spec_DrawLibraryStream _) (fun _ => zf) fun y3 h => ⟨_, rfl, _, _, rfl, fun _ _ _ _ => .refl _, ?_⟩
 cbv; revert h; refine rk [] [] (hf_spec_LibraryStream _) (fun _ => zg (les_cons (le_agg ⟨give_osD (rf_oncCell) (ln_oncCell) rfl rfl rfl, trivial⟩) (les_nil))) fun y5 h => ?_; cbv; revert h; refine fk ?_ ?_ <;> intro h <;> cbv
 ·revert h; refine cu (fun y7 => (sparse 68 [(2, .c (.v (.bool y7)))] [])) ?_ fun w13 => rz fun h => ?_
  ·intro y7 S hS h; cbv; revert h; refine rk [] [] (hf_impl_LibraryStream _) (fun _ => zg (les_cons (le_agg ⟨give_osD (rf_oncCell) (ln_oncCell) rfl rfl rfl, trivial⟩) (les_nil))) fun y14 h => ?_; cbv; revert h; refine fk ?_ ?_ <;> intro h <;> cbv
   ·revert h; refine rk0 (hf_impl_Checksum16 _) fun y16 h => ?_; cbv; exact dn
   exact dn
  cbv; exact df
 revert h; refine rk [] [(64000, 1920)] (hf_laws_roll _ _) (fun _ => zf) fun y19 h => ?_; cbv; revert h; refine rl fun l21 hl21 h => ?_; have e22 : A.slen y5 = LEN l21 := s2b_len hA hLEN hl21; refine ⟨_, (co e22), _, row GD (encI .u8) l21, e22, wkOf ?_, ?_⟩
 ·subst hGD hLEN hA; exact s2b_row hl21 _ (Nat.le_of_eq (by first | rfl | exact s2b_len rfl rfl hl21))
 cbv; revert h; refine rk [(5, 1920)] [(5, 1920)] (hf_laws_dice_below_mPbb _ _) (fun _ => yf) fun y23 h => ?_; cbv; revert h; refine ra fun c25 h => ?_; refine ai c25 ?_; revert h; refine rk [(5, 1920)] [(5, 1920)] (hf_laws_dice_below_mPbb _ _) (fun _ => yf) fun y26 h => ?_; cbv; revert h; refine ra fun c28 h => ?_; revert h; refine rl fun l29 hl29 h => ?_; refine ai c28 ?_
 refine ⟨_, rfl, _, row GD (encI .u8) l29, rfl, wkOf (us hA hLEN hGD hl29 c28 rfl), ?_⟩; cbv; refine ⟨fun _ _ => rfl, ?_⟩; revert h; refine rk [] [(64000, 3328)] (hf_impl_ReadStream _) (fun _ => zf) fun y30 h => ⟨_, rfl, _, _, rfl, fun _ _ _ _ => .refl _, ?_⟩
 cbv; revert h; refine rk [] [(64000, 3712)] (hf_impl_ReadStream _) (fun _ => zf) fun y32 h => ⟨_, rfl, _, _, rfl, fun _ _ _ _ => .refl _, ?_⟩
 cbv; revert h; refine cu (fun y34 => (sparse 68 [(2, .c (.v (.bool y34)))] [])) (fun y34 S hS h => rg) fun w40 => rz fun h => ?_; cbv; exact df
end Go.Proofs.Ytnpcpbkbenphaaa.AM
