/-
  What the functions that the law reaches compute, and that they do. No condition.
-/
import Derived.Test.YtlenieingkfjaaaAmSW
namespace Go.Proofs.Ytlenieingkfjaaa.AM
open Go Go.Proofs Go.RowKit
set_option linter.unusedVariables false
set_option linter.unusedSimpArgs false
set_option maxRecDepth 100000

/-- impl.streamReader).take -/
noncomputable def F_impl_streamReader_take_mPoooobbb (a0 : TstreamReader) (a1 : Int) (a2 : ByteArray) (a3 : ByteArray) : Option (Int × TstreamReader) :=
 (F_impl_streamReader_possible_mpb a0 a1).bind fun y1 =>
 br (!(y1))
 (some ((4 : Int), a0))
 (((
    br (std.eq a1 1)
    ((F_impl_byteReader_one_mPb (TbyteReader.mk a2 false)).bind fun y18 =>
    (F_impl_byteReader_one_mPb y18.2).bind fun y20 =>
    ((
       (F_impl_streamReader_take_1_mPP y20.2).bind fun y29 =>
       br (!(y29.1))
       (some true)
       (some (std.not (std.eq y18.1 1)))
     ) : Option (Bool)).bind fun y22 =>
    letO y22 fun w28 =>
    br w28
    ((some ((4 : Int), a0)).bind fun r32 => some (.inl r32))
    ((F_impl_within y20.1 1 8).bind fun y35 =>
    br (!(y35))
    ((some ((3 : Int), a0)).bind fun r37 => some (.inl r37))
    (some (.inr (true, y20.1, a0.gcell.fShapes, a0.gcell.fLabels, a0.gcell.fInstances, a0.glib.fCells, a0.gdone, a0.ginside, a0.gcell.fName)))))
    (((
       br (std.eq a1 2)
       ((F_impl_byteReader_name_mPb (TbyteReader.mk a2 false)).bind fun y55 =>
       (F_impl_streamReader_take_1_mPP y55.2).bind fun y57 =>
       br (!(y57.1))
       (((some ((4 : Int), a0)).bind fun r59 => some (.inl r59)).bind fun r62 => some (.inl r62))
       (((
          (F_impl_IsName y55.1).bind fun y72 =>
          br (!(y72))
          (some true)
          ((F_impl_named a0.glib y55.1).bind fun y74 =>
          some (std.le 0 y74))
        ) : Option (Bool)).bind fun y65 =>
       letO y65 fun w71 =>
       br w71
       (((some ((1 : Int), a0)).bind fun r77 => some (.inl r77)).bind fun r80 => some (.inl r80))
       (some (.inr (true, y55.1, ([] : List TShape), ([] : List TLabel), ([] : List TInstance), a0.glib.fCells, a0.gdone)))))
       (((
          br (std.eq a1 3)
          ((F_impl_byteReader_shape_mPb (TbyteReader.mk a2 false)).bind fun y98 =>
          (F_impl_streamReader_take_1_mPP y98.2).bind fun y100 =>
          br (!(y100.1))
          ((((some ((4 : Int), a0)).bind fun r102 => some (.inl r102)).bind fun r105 => some (.inl r105)).bind fun r108 => some (.inl r108))
          (br (std.eq (std.ofN (len a0.gcell.fShapes)) 24)
          ((((some ((3 : Int), a0)).bind fun r111 => some (.inl r111)).bind fun r114 => some (.inl r114)).bind fun r117 => some (.inl r117))
          ((F_impl_validShape y98.1).bind fun y120 =>
          br (!(y120))
          ((((some ((1 : Int), a0)).bind fun r122 => some (.inl r122)).bind fun r125 => some (.inl r125)).bind fun r128 => some (.inl r128))
          (letO ([y98.1] : List TShape) fun l131 =>
          req (std.room (std.nadd (len a0.gcell.fShapes) (len l131)) 40) <|
          letO (a0.gcell.fShapes ++ l131) fun l133 =>
          some (.inr (l133, a0.gcell.fLabels, a0.gcell.fInstances, a0.glib.fCells, a0.gdone, a0.ginside, a0.gcell.fName))))))
          (((
             br (std.eq a1 4)
             ((F_impl_byteReader_label_mPb (TbyteReader.mk a2 false)).bind fun y152 =>
             (F_impl_streamReader_take_1_mPP y152.2).bind fun y154 =>
             br (!(y154.1))
             (((((some ((4 : Int), a0)).bind fun r156 => some (.inl r156)).bind fun r159 => some (.inl r159)).bind fun r162 => some (.inl r162)).bind fun r165 => some (.inl r165))
             (br (std.eq (std.ofN (len a0.gcell.fLabels)) 8)
             (((((some ((3 : Int), a0)).bind fun r168 => some (.inl r168)).bind fun r171 => some (.inl r171)).bind fun r174 => some (.inl r174)).bind fun r177 => some (.inl r177))
             ((F_impl_validLabel y152.1).bind fun y180 =>
             br (!(y180))
             (((((some ((1 : Int), a0)).bind fun r182 => some (.inl r182)).bind fun r185 => some (.inl r185)).bind fun r188 => some (.inl r188)).bind fun r191 => some (.inl r191))
             (letO ([y152.1] : List TLabel) fun l194 =>
             req (std.room (std.nadd (len a0.gcell.fLabels) (len l194)) 40) <|
             letO (a0.gcell.fLabels ++ l194) fun l196 =>
             some (.inr (a0.gcell.fShapes, l196, a0.gcell.fInstances, a0.glib.fCells, a0.gdone, a0.ginside, a0.gcell.fName))))))
             (((
                br (std.eq a1 5)
                ((F_impl_byteReader_name_mPb (TbyteReader.mk a2 false)).bind fun y215 =>
                (F_impl_byteReader_instance_mPb y215.2).bind fun y217 =>
                (F_impl_named a0.glib y215.1).bind fun y219 =>
                (F_impl_streamReader_take_1_mPP y217.2).bind fun y221 =>
                br (!(y221.1))
                ((((((some ((4 : Int), a0)).bind fun r223 => some (.inl r223)).bind fun r226 => some (.inl r226)).bind fun r229 => some (.inl r229)).bind fun r232 => some (.inl r232)).bind fun r235 => some (.inl r235))
                (br (std.eq (std.ofN (len a0.gcell.fInstances)) 8)
                ((((((some ((3 : Int), a0)).bind fun r238 => some (.inl r238)).bind fun r241 => some (.inl r241)).bind fun r244 => some (.inl r244)).bind fun r247 => some (.inl r247)).bind fun r250 => some (.inl r250))
                (br (std.lt y219 0)
                ((((((some ((5 : Int), a0)).bind fun r253 => some (.inl r253)).bind fun r256 => some (.inl r256)).bind fun r259 => some (.inl r259)).bind fun r262 => some (.inl r262)).bind fun r265 => some (.inl r265))
                ((F_impl_validInstance (TInstance.mk y219 y217.1.fPlace y217.1.fColumns y217.1.fRows y217.1.fStepX y217.1.fStepY) (std.ofN (len a0.glib.fCells))).bind fun y268 =>
                br (!(y268))
                ((((((some ((1 : Int), a0)).bind fun r270 => some (.inl r270)).bind fun r273 => some (.inl r273)).bind fun r276 => some (.inl r276)).bind fun r279 => some (.inl r279)).bind fun r282 => some (.inl r282))
                (letO ([(TInstance.mk y219 y217.1.fPlace y217.1.fColumns y217.1.fRows y217.1.fStepX y217.1.fStepY)] : List TInstance) fun l285 =>
                req (std.room (std.nadd (len a0.gcell.fInstances) (len l285)) 64) <|
                letO (a0.gcell.fInstances ++ l285) fun l287 =>
                some (.inr (a0.gcell.fShapes, a0.gcell.fLabels, l287, a0.glib.fCells, a0.gdone, a0.ginside, a0.gcell.fName)))))))
                (((
                   br (std.eq a1 6)
                   ((F_impl_byteReader_one_mPb (TbyteReader.mk a2 false)).bind fun y307 =>
                   (F_impl_byteReader_one_mPb y307.2).bind fun y309 =>
                   (F_impl_byteReader_one_mPb y309.2).bind fun y311 =>
                   letO ([y307.1, y309.1, y311.1] : List Int) fun l313 =>
                   ((
                      (F_impl_streamReader_take_1_mPP y311.2).bind fun y322 =>
                      br (!(y322.1))
                      (some true)
                      (letO ([std.ofN (len a0.gcell.fShapes), std.ofN (len a0.gcell.fLabels), std.ofN (len a0.gcell.fInstances)] : List Int) fun l324 =>
                      (F_slices_Equal_Lint64_int64 l313 l324).bind fun y326 =>
                      some (!(y326)))
                    ) : Option (Bool)).bind fun y315 =>
                   letO y315 fun w321 =>
                   br w321
                   (((((((some ((4 : Int), a0)).bind fun r329 => some (.inl r329)).bind fun r332 => some (.inl r332)).bind fun r335 => some (.inl r335)).bind fun r338 => some (.inl r338)).bind fun r341 => some (.inl r341)).bind fun r344 => some (.inl r344))
                   (((
                      letO ([a0.gcell] : List TCell) fun l354 =>
                      req (std.room (std.nadd (len a0.glib.fCells) (len l354)) 88) <|
                      letO (a0.glib.fCells ++ l354) fun l356 =>
                      some l356
                    ) : Option ((List TCell))).bind fun y347 =>
                   letO y347 fun w353 =>
                   some (.inr (false, (ByteArray.mk #[]), ([] : List TShape), ([] : List TLabel), ([] : List TInstance), w353, a0.gdone))))
                   (((
                      br (std.eq a1 7)
                      ((F_impl_byteReader_two_mPb (TbyteReader.mk a2 false)).bind fun y367 =>
                      (F_impl_streamReader_take_1_mPP y367.2).bind fun y369 =>
                      br (!(y369.1))
                      ((((((((some ((4 : Int), a0)).bind fun r371 => some (.inl r371)).bind fun r374 => some (.inl r374)).bind fun r377 => some (.inl r377)).bind fun r380 => some (.inl r380)).bind fun r383 => some (.inl r383)).bind fun r386 => some (.inl r386)).bind fun r389 => some (.inl r389))
                      ((F_impl_Checksum16 a3).bind fun y392 =>
                      br (std.not (std.eq y367.1 y392))
                      ((((((((some ((8 : Int), a0)).bind fun r394 => some (.inl r394)).bind fun r397 => some (.inl r397)).bind fun r400 => some (.inl r400)).bind fun r403 => some (.inl r403)).bind fun r406 => some (.inl r406)).bind fun r409 => some (.inl r409)).bind fun r412 => some (.inl r412))
                      (some (.inr true))))
                      (some (.inr a0.gdone))
                    ) : Option (_ ⊕ Bool)).bind fun z362 => (match z362 with
                    | .inl r => some r
                    | .inr y360 =>
                      letO y360 fun w366 =>
                      some (.inr (a0.ginside, a0.gcell.fName, a0.gcell.fShapes, a0.gcell.fLabels, a0.gcell.fInstances, a0.glib.fCells, w366))))
                 ) : Option (_ ⊕ (Bool × ByteArray × (List TShape) × (List TLabel) × (List TInstance) × (List TCell) × Bool))).bind fun z296 => (match z296 with
                 | .inl r => some r
                 | .inr y294 =>
                   letO y294.1 fun w300 =>
                   letO y294.2.1 fun w301 =>
                   letO y294.2.2.1 fun w302 =>
                   letO y294.2.2.2.1 fun w303 =>
                   letO y294.2.2.2.2.1 fun w304 =>
                   letO y294.2.2.2.2.2.1 fun w305 =>
                   letO y294.2.2.2.2.2.2 fun w306 =>
                   some (.inr (w302, w303, w304, w305, w306, w300, w301))))
              ) : Option (_ ⊕ ((List TShape) × (List TLabel) × (List TInstance) × (List TCell) × Bool × Bool × ByteArray))).bind fun z204 => (match z204 with
              | .inl r => some r
              | .inr y202 =>
                letO y202.1 fun w208 =>
                letO y202.2.1 fun w209 =>
                letO y202.2.2.1 fun w210 =>
                letO y202.2.2.2.1 fun w211 =>
                letO y202.2.2.2.2.1 fun w212 =>
                letO y202.2.2.2.2.2.1 fun w213 =>
                letO y202.2.2.2.2.2.2 fun w214 =>
                some (.inr (w208, w209, w210, w211, w212, w213, w214))))
           ) : Option (_ ⊕ ((List TShape) × (List TLabel) × (List TInstance) × (List TCell) × Bool × Bool × ByteArray))).bind fun z141 => (match z141 with
           | .inl r => some r
           | .inr y139 =>
             letO y139.1 fun w145 =>
             letO y139.2.1 fun w146 =>
             letO y139.2.2.1 fun w147 =>
             letO y139.2.2.2.1 fun w148 =>
             letO y139.2.2.2.2.1 fun w149 =>
             letO y139.2.2.2.2.2.1 fun w150 =>
             letO y139.2.2.2.2.2.2 fun w151 =>
             some (.inr (w145, w146, w147, w148, w149, w150, w151))))
        ) : Option (_ ⊕ ((List TShape) × (List TLabel) × (List TInstance) × (List TCell) × Bool × Bool × ByteArray))).bind fun z87 => (match z87 with
        | .inl r => some r
        | .inr y85 =>
          letO y85.1 fun w91 =>
          letO y85.2.1 fun w92 =>
          letO y85.2.2.1 fun w93 =>
          letO y85.2.2.2.1 fun w94 =>
          letO y85.2.2.2.2.1 fun w95 =>
          letO y85.2.2.2.2.2.1 fun w96 =>
          letO y85.2.2.2.2.2.2 fun w97 =>
          some (.inr (w96, w97, w91, w92, w93, w94, w95))))
     ) : Option (_ ⊕ (Bool × ByteArray × (List TShape) × (List TLabel) × (List TInstance) × (List TCell) × Bool))).bind fun z44 => (match z44 with
     | .inl r => some r
     | .inr y42 =>
       letO y42.1 fun w48 =>
       letO y42.2.1 fun w49 =>
       letO y42.2.2.1 fun w50 =>
       letO y42.2.2.2.1 fun w51 =>
       letO y42.2.2.2.2.1 fun w52 =>
       letO y42.2.2.2.2.2.1 fun w53 =>
       letO y42.2.2.2.2.2.2 fun w54 =>
       some (.inr (a0.gbegun, a0.gcells, w50, w51, w52, w53, w54, w48, w49))))
  ) : Option (_ ⊕ (Bool × Int × (List TShape) × (List TLabel) × (List TInstance) × (List TCell) × Bool × Bool × ByteArray))).bind fun z5 => (match z5 with
  | .inl r => some r
  | .inr y3 =>
    letO y3.1 fun w9 =>
    letO y3.2.1 fun w10 =>
    letO y3.2.2.1 fun w11 =>
    letO y3.2.2.2.1 fun w12 =>
    letO y3.2.2.2.2.1 fun w13 =>
    letO y3.2.2.2.2.2.1 fun w14 =>
    letO y3.2.2.2.2.2.2.1 fun w15 =>
    letO y3.2.2.2.2.2.2.2.1 fun w16 =>
    letO y3.2.2.2.2.2.2.2.2 fun w17 =>
    some ((0 : Int), (TstreamReader.mk w9 w15 w10 w16 (TCell.mk w17 w11 w12 w13) (TLibrary.mk w14)))))
set_option maxHeartbeats 4000000 in
theorem run_impl_streamReader_take_mPoooobbb (a0 : TstreamReader) (a1 : Int) (a2 : ByteArray) (a3 : ByteArray) (r : Int × TstreamReader) (h : F_impl_streamReader_take_mPoooobbb a0 a1 a2 a3 = some r) : Fun Try.prog 155 [.c (.ptr 5 0), .c (.v (.int .i64 a1)), .c (.v (.string a2)), .c (.v (.string a3))] [(5, .var [.v (.bool a0.gbegun), .v (.bool a0.gdone), .v (.int .i64 a0.gcells), .v (.bool a0.ginside), .v (.string a0.gcell.fName), .os 7 0 (len a0.gcell.fShapes), .os 9 0 (len a0.gcell.fLabels), .os 11 0 (len a0.gcell.fInstances), .os 13 0 (len a0.glib.fCells)]), (7, .arr .rw [] (len a0.gcell.fShapes) 5 (row gd (encShape) a0.gcell.fShapes)), (9, .arr .rw [] (len a0.gcell.fLabels) 4 (row gd (encLabel) a0.gcell.fLabels)), (11, .arr .rw [] (len a0.gcell.fInstances) 8 (row gd (encInstance) a0.gcell.fInstances)), (13, .arr .rw [] (len a0.glib.fCells) 4 (row gd (oncCell len gd) a0.glib.fCells))] (.c (.v (.int .i64 r.1))) [(64000, .arr .rw [] (len r.2.gcell.fShapes) 5 (row gd (encShape) r.2.gcell.fShapes)), (64002, .arr .rw [] (len r.2.gcell.fLabels) 4 (row gd (encLabel) r.2.gcell.fLabels)), (64004, .arr .rw [] (len r.2.gcell.fInstances) 8 (row gd (encInstance) r.2.gcell.fInstances)), (64006, .arr .rw [] (len r.2.glib.fCells) 4 (row gd (oncCell len gd) r.2.glib.fCells)), (5, .var [.v (.bool r.2.gbegun), .v (.bool r.2.gdone), .v (.int .i64 r.2.gcells), .v (.bool r.2.ginside), .v (.string r.2.gcell.fName), .os 64000 0 (len r.2.gcell.fShapes), .os 64002 0 (len r.2.gcell.fLabels), .os 64004 0 (len r.2.gcell.fInstances), .os 64006 0 (len r.2.glib.fCells)])] true := by
 refine Fun.of_wp (oneOf [9, 18, 54, 56, 100036, 100061, 100090, 100122, 100154, 100200, 100258]) tok mixed Try.func155 (by kernel_rfl) rfl Try.ntmps155 rfl ⟨fun i _ j _ k hk => (noref (plain_nil (pl_encShape _ _)) hk).elim, fun i _ j _ k hk => (noref (plain_nil (pl_encLabel _ _)) hk).elim, fun i _ j _ k hk => (noref (plain_nil (pl_encInstance _ _)) hk).elim, fun i _ j _ k hk => (noref (rf_oncCell _ _) hk).elim, trivial⟩ (fun _ => ⟨trivial, ⟨fun i _ j _ => val_flat (vl_encShape _ _), fun i _ j _ => val_flat (vl_encLabel _ _), fun i _ j _ => val_flat (vl_encInstance _ _), fun i _ j _ => fl_oncCell _ _, (by simp [AO.flat, AC.flat]), trivial⟩⟩) ?_
 unfold F_impl_streamReader_take_mPoooobbb at h
 have hf_impl_Checksum16 := @run_impl_Checksum16
 have hf_impl_IsName := @run_impl_IsName
 have hf_impl_byteReader_instance_mPb := @run_impl_byteReader_instance_mPb
 have hf_impl_byteReader_label_mPb := @run_impl_byteReader_label_mPb
 have hf_impl_byteReader_name_mPb := @run_impl_byteReader_name_mPb
 have hf_impl_byteReader_one_mPb := @run_impl_byteReader_one_mPb
 have hf_impl_byteReader_shape_mPb := @run_impl_byteReader_shape_mPb
 have hf_impl_byteReader_two_mPb := @run_impl_byteReader_two_mPb
 have hf_impl_named := @run_impl_named
 have hf_impl_streamReader_possible_mpb := @run_impl_streamReader_possible_mpb
 have hf_impl_streamReader_take_1_mPP := @run_impl_streamReader_take_1_mPP
 have hf_impl_validInstance := @run_impl_validInstance
 have hf_impl_validLabel := @run_impl_validLabel
 have hf_impl_validShape := @run_impl_validShape
 have hf_impl_within := @run_impl_within
 have hf_slices_Equal_Lint64_int64 := @run_slices_Equal_Lint64_int64
 generalize hLEN : @len = LEN at *
 generalize hGD : @gd = GD at *
 generalize hA : std = A at *
 generalize hP : Try.prog = P at *
 cbv
 replace h := of_bind h
 obtain ⟨y1, hy2, h⟩ := h
 refine ⟨{ args := [.c (.bp 9 (encstreamReader LEN GD a0)), .c (.v (.int .i64 a1))], o0 := [], r := .c (.v (.bool y1)), o1 := [], fl := true, σ := [], τ := [] }, hf_impl_streamReader_possible_mpb _ _ _ hy2, ⟨les_cons (le_bp (show 9 ≤ 9 from by decide) (by intro j hj; match j, hj with | 0, _ => exact rle_refl _ | 1, _ => exact rle_refl _ | 2, _ => exact rle_refl _ | 3, _ => exact rle_refl _ | 4, _ => exact rle_refl _ | 5, _ => exact (rle_bs rfl (fun i _ j _ => by rw [Nat.zero_add]; exact lent_plain (pl_encShape _ _))) | 6, _ => exact (rle_bs rfl (fun i _ j _ => by rw [Nat.zero_add]; exact lent_plain (pl_encLabel _ _))) | 7, _ => exact (rle_bs rfl (fun i _ j _ => by rw [Nat.zero_add]; exact lent_plain (pl_encInstance _ _))) | 8, _ => exact (rle_bs rfl (fun i _ j _ => by rw [Nat.zero_add]; exact ln_oncCell _ _)) | (j_ + 9), h_ => exact absurd h_ (by omega))) (les_cons (lR _) (les_nil)), trivial, rfl, rfl, rfl, rfl, trivial, rfl⟩, ?_⟩
 cbv
 refine fork (fun b424 => ?_) (fun b424 => ?_)
 ·replace h := of_br_t b424 h
  cbv
  injection h with h
  subst h
  refine ⟨(sparse 274 [(8, .c (.v (.int .i64 4)))] [(5, .var [.v (.bool a0.gbegun), .v (.bool a0.gdone), .v (.int .i64 a0.gcells), .v (.bool a0.ginside), .v (.string a0.gcell.fName), .os 64000 0 (LEN a0.gcell.fShapes), .os 64002 0 (LEN a0.gcell.fLabels), .os 64004 0 (LEN a0.gcell.fInstances), .os 64006 0 (LEN a0.glib.fCells)]), (64000, .arr .rw [] (LEN a0.gcell.fShapes) 5 (row GD (encShape) a0.gcell.fShapes)), (64002, .arr .rw [] (LEN a0.gcell.fLabels) 4 (row GD (encLabel) a0.gcell.fLabels)), (64004, .arr .rw [] (LEN a0.gcell.fInstances) 8 (row GD (encInstance) a0.gcell.fInstances)), (64006, .arr .rw [] (LEN a0.glib.fCells) 4 (row GD (oncCell LEN GD) a0.glib.fCells))]), ?_, ?_⟩
  ·refine St.le_trans (le_ren 7 64000 (by decide) rfl) ?_
   refine St.le_trans (le_ren 9 64002 (by decide) rfl) ?_
   refine St.le_trans (le_ren 11 64004 (by decide) rfl) ?_
   refine St.le_trans (le_ren 13 64006 (by decide) rfl) ?_
   exact le_sparse rfl ⟨lR _, trivial⟩ ⟨rfl, oS, oS, oS, oS, trivial⟩ rfl
  ·exact ⟨lR _, ⟨oS, oS, oS, oS, rfl, trivial⟩, rfl⟩
 ·replace h := of_br_f b424 h
  cbv
  replace h := of_bind h
  obtain ⟨z5, hy4, hz6⟩ := h
  obtain ⟨S7, hS8⟩ : ∃ S, S = (match z5 with | .inl _ => none | .inr y3 => some (sparse 274 [] [(5, .var [.v (.bool y3.1), .v (.bool y3.2.2.2.2.2.2.1), .v (.int .i64 y3.2.1), .v (.bool y3.2.2.2.2.2.2.2.1), .v (.string y3.2.2.2.2.2.2.2.2), .os 7552 0 (LEN y3.2.2.1), .os 9600 0 (LEN y3.2.2.2.1), .os 12544 0 (LEN y3.2.2.2.2.1), .os 15808 0 (LEN y3.2.2.2.2.2.1)]), (7552, .arr .rw [] (LEN y3.2.2.1) 5 (row GD (encShape) y3.2.2.1)), (9600, .arr .rw [] (LEN y3.2.2.2.1) 4 (row GD (encLabel) y3.2.2.2.1)), (12544, .arr .rw [] (LEN y3.2.2.2.2.1) 8 (row GD (encInstance) y3.2.2.2.2.1)), (15808, .arr .rw [] (LEN y3.2.2.2.2.2.1) 4 (row GD (oncCell LEN GD) y3.2.2.2.2.2.1))])) := ⟨_, rfl⟩
  refine ⟨S7, ?_, ?_⟩
  ·have h := hy4
   clear hy4
   cbv
   refine fork (fun b423 => ?_) (fun b423 => ?_)
   ·replace h := of_br_t b423 h
    cbv
    replace h := of_bind h
    obtain ⟨y18, hy19, h⟩ := h
    refine ⟨{ args := [.c (.ptr 5 0)], o0 := [(5, .var [.v (.string a2), .v (.bool false)])], r := .c (.v (.int .i64 y18.1)), o1 := [(5, .var [.v (.string y18.2.gs), .v (.bool y18.2.gbad)])], fl := true, σ := [(5, 1728)], τ := [(5, 1728)] }, hf_impl_byteReader_one_mPb _ _ hy19, ⟨les_cons (lR _) (les_nil), ⟨rfl, trivial⟩, rfl, rfl, rfl, rfl, ⟨fun _ => rfl, trivial⟩, rfl⟩, ?_⟩
    cbv
    replace h := of_bind h
    obtain ⟨y20, hy21, h⟩ := h
    refine ⟨{ args := [.c (.ptr 5 0)], o0 := [(5, .var [.v (.string y18.2.gs), .v (.bool y18.2.gbad)])], r := .c (.v (.int .i64 y20.1)), o1 := [(5, .var [.v (.string y20.2.gs), .v (.bool y20.2.gbad)])], fl := true, σ := [(5, 1728)], τ := [(5, 1728)] }, hf_impl_byteReader_one_mPb _ _ hy21, ⟨les_cons (lR _) (les_nil), ⟨rfl, trivial⟩, rfl, rfl, rfl, rfl, ⟨fun _ => rfl, trivial⟩, rfl⟩, ?_⟩
    cbv
    replace h := of_bind h
    obtain ⟨y22, hy23, h⟩ := h
    obtain ⟨S26, hS27⟩ : ∃ S, S = (sparse 274 [(0, .c (.ptr 5 0)), (13, .c (.v (.int .i64 y20.1))), (42, .c (.v (.bool y22)))] [(5, .var [.v (.bool a0.gbegun), .v (.bool a0.gdone), .v (.int .i64 a0.gcells), .v (.bool a0.ginside), .v (.string a0.gcell.fName), .os 7 0 (LEN a0.gcell.fShapes), .os 9 0 (LEN a0.gcell.fLabels), .os 11 0 (LEN a0.gcell.fInstances), .os 13 0 (LEN a0.glib.fCells)]), (7, .arr .rw [] (LEN a0.gcell.fShapes) 5 (row GD (encShape) a0.gcell.fShapes)), (9, .arr .rw [] (LEN a0.gcell.fLabels) 4 (row GD (encLabel) a0.gcell.fLabels)), (11, .arr .rw [] (LEN a0.gcell.fInstances) 8 (row GD (encInstance) a0.gcell.fInstances)), (13, .arr .rw [] (LEN a0.glib.fCells) 4 (row GD (oncCell LEN GD) a0.glib.fCells))]) := ⟨_, rfl⟩
    refine ⟨S26, ?_, ?_⟩
    ·clear h
     have h := hy23
     clear hy23
     cbv
     replace h := of_bind h
     obtain ⟨y29, hy30, h⟩ := h
     refine ⟨{ args := [.c (.ptr 5 0)], o0 := [(5, .var [.ptr 7 0]), (7, .var [.v (.string y20.2.gs), .v (.bool y20.2.gbad)])], r := .c (.v (.bool y29.1)), o1 := [(5, .var [.ptr 7 0]), (7, .var [.v (.string y29.2.2.gs), .v (.bool y29.2.2.gbad)])], fl := true, σ := [(5, 576), (7, 1728)], τ := [(5, 576), (7, 1728)] }, hf_impl_streamReader_take_1_mPP _ _ hy30, ⟨les_cons (lR _) (les_nil), ⟨rfl, rfl, trivial⟩, rfl, rfl, rfl, rfl, ⟨fun _ => rfl, fun _ => rfl, trivial⟩, rfl⟩, ?_⟩
     cbv
     refine fork (fun b31 => ?_) (fun b31 => ?_)
     ·replace h := of_br_t b31 h
      cbv
      injection h with h
      subst h
      subst hS27
      show St.le _ _
      exact le_sparse rfl ⟨lR _, lR _, lR _, trivial⟩ ⟨rfl, oS, oS, oS, oS, trivial⟩ rfl
     ·replace h := of_br_f b31 h
      cbv
      injection h with h
      subst h
      subst hS27
      show St.le _ _
      exact le_sparse rfl ⟨lR _, lR _, lR _, trivial⟩ ⟨rfl, oS, oS, oS, oS, trivial⟩ rfl
    ·clear hy23
     subst hS27
     replace h := of_let h
     obtain ⟨w28, hw28, h⟩ := h
     have hw28 : w28 = y22 := hw28
     subst hw28
     cbv
     refine fork (fun b41 => ?_) (fun b41 => ?_)
     ·replace h := of_br_t b41 h
      cbv
      replace h := of_bind h
      obtain ⟨r32, h33, he34⟩ := h
      injection he34 with he34
      subst he34
      injection hz6 with hz6
      subst hz6
      have h := h33
      injection h with h
      subst h
      refine ⟨(sparse 274 [(8, .c (.v (.int .i64 4)))] [(5, .var [.v (.bool a0.gbegun), .v (.bool a0.gdone), .v (.int .i64 a0.gcells), .v (.bool a0.ginside), .v (.string a0.gcell.fName), .os 64000 0 (LEN a0.gcell.fShapes), .os 64002 0 (LEN a0.gcell.fLabels), .os 64004 0 (LEN a0.gcell.fInstances), .os 64006 0 (LEN a0.glib.fCells)]), (64000, .arr .rw [] (LEN a0.gcell.fShapes) 5 (row GD (encShape) a0.gcell.fShapes)), (64002, .arr .rw [] (LEN a0.gcell.fLabels) 4 (row GD (encLabel) a0.gcell.fLabels)), (64004, .arr .rw [] (LEN a0.gcell.fInstances) 8 (row GD (encInstance) a0.gcell.fInstances)), (64006, .arr .rw [] (LEN a0.glib.fCells) 4 (row GD (oncCell LEN GD) a0.glib.fCells))]), ?_, ?_⟩
      ·refine St.le_trans (le_ren 7 64000 (by decide) rfl) ?_
       refine St.le_trans (le_ren 9 64002 (by decide) rfl) ?_
       refine St.le_trans (le_ren 11 64004 (by decide) rfl) ?_
       refine St.le_trans (le_ren 13 64006 (by decide) rfl) ?_
       exact le_sparse rfl ⟨lR _, trivial⟩ ⟨rfl, oS, oS, oS, oS, trivial⟩ rfl
      ·exact ⟨lR _, ⟨oS, oS, oS, oS, rfl, trivial⟩, rfl⟩
     ·replace h := of_br_f b41 h
      cbv
      replace h := of_bind h
      obtain ⟨y35, hy36, h⟩ := h
      refine ⟨{ args := [.c (.v (.int .i64 y20.1)), .c (.v (.int .i64 1)), .c (.v (.int .i64 8))], o0 := [], r := .c (.v (.bool y35)), o1 := [], fl := true, σ := [], τ := [] }, hf_impl_within _ _ _ _ hy36, ⟨les_cons (lR _) (les_cons (lR _) (les_cons (lR _) (les_nil))), trivial, rfl, rfl, rfl, rfl, trivial, rfl⟩, ?_⟩
      cbv
      refine fork (fun b40 => ?_) (fun b40 => ?_)
      ·replace h := of_br_t b40 h
       cbv
       replace h := of_bind h
       obtain ⟨r37, h38, he39⟩ := h
       injection he39 with he39
       subst he39
       injection hz6 with hz6
       subst hz6
       have h := h38
       injection h with h
       subst h
       refine ⟨(sparse 274 [(8, .c (.v (.int .i64 3)))] [(5, .var [.v (.bool a0.gbegun), .v (.bool a0.gdone), .v (.int .i64 a0.gcells), .v (.bool a0.ginside), .v (.string a0.gcell.fName), .os 64000 0 (LEN a0.gcell.fShapes), .os 64002 0 (LEN a0.gcell.fLabels), .os 64004 0 (LEN a0.gcell.fInstances), .os 64006 0 (LEN a0.glib.fCells)]), (64000, .arr .rw [] (LEN a0.gcell.fShapes) 5 (row GD (encShape) a0.gcell.fShapes)), (64002, .arr .rw [] (LEN a0.gcell.fLabels) 4 (row GD (encLabel) a0.gcell.fLabels)), (64004, .arr .rw [] (LEN a0.gcell.fInstances) 8 (row GD (encInstance) a0.gcell.fInstances)), (64006, .arr .rw [] (LEN a0.glib.fCells) 4 (row GD (oncCell LEN GD) a0.glib.fCells))]), ?_, ?_⟩
       ·refine St.le_trans (le_ren 7 64000 (by decide) rfl) ?_
        refine St.le_trans (le_ren 9 64002 (by decide) rfl) ?_
        refine St.le_trans (le_ren 11 64004 (by decide) rfl) ?_
        refine St.le_trans (le_ren 13 64006 (by decide) rfl) ?_
        exact le_sparse rfl ⟨lR _, trivial⟩ ⟨rfl, oS, oS, oS, oS, trivial⟩ rfl
       ·exact ⟨lR _, ⟨oS, oS, oS, oS, rfl, trivial⟩, rfl⟩
      ·replace h := of_br_f b40 h
       cbv
       injection h with h
       subst h
       subst hS8
       show St.le _ _
       refine St.le_trans (le_ren 7 7552 (by decide) rfl) ?_
       refine St.le_trans (le_ren 9 9600 (by decide) rfl) ?_
       refine St.le_trans (le_ren 11 12544 (by decide) rfl) ?_
       refine St.le_trans (le_ren 13 15808 (by decide) rfl) ?_
       exact le_sparse rfl trivial ⟨rfl, oS, oS, oS, oS, trivial⟩ rfl
   ·replace h := of_br_f b423 h
    cbv
    replace h := of_bind h
    obtain ⟨z44, hy43, hz45⟩ := h
    obtain ⟨S46, hS47⟩ : ∃ S, S = (match z44 with | .inl _ => none | .inr y42 => some (sparse 274 [] [(5, .var [.v (.bool a0.gbegun), .v (.bool y42.2.2.2.2.2.2), .v (.int .i64 a0.gcells), .v (.bool y42.1), .v (.string y42.2.1), .os 7552 0 (LEN y42.2.2.1), .os 9600 0 (LEN y42.2.2.2.1), .os 12544 0 (LEN y42.2.2.2.2.1), .os 15808 0 (LEN y42.2.2.2.2.2.1)]), (7552, .arr .rw [] (LEN y42.2.2.1) 5 (row GD (encShape) y42.2.2.1)), (9600, .arr .rw [] (LEN y42.2.2.2.1) 4 (row GD (encLabel) y42.2.2.2.1)), (12544, .arr .rw [] (LEN y42.2.2.2.2.1) 8 (row GD (encInstance) y42.2.2.2.2.1)), (15808, .arr .rw [] (LEN y42.2.2.2.2.2.1) 4 (row GD (oncCell LEN GD) y42.2.2.2.2.2.1))])) := ⟨_, rfl⟩
    refine ⟨S46, ?_, ?_⟩
    ·have h := hy43
     clear hy43
     cbv
     refine fork (fun b422 => ?_) (fun b422 => ?_)
     ·replace h := of_br_t b422 h
      cbv
      replace h := of_bind h
      obtain ⟨y55, hy56, h⟩ := h
      refine ⟨{ args := [.c (.ptr 5 0)], o0 := [(5, .var [.v (.string a2), .v (.bool false)])], r := .c (.v (.string y55.1)), o1 := [(5, .var [.v (.string y55.2.gs), .v (.bool y55.2.gbad)])], fl := true, σ := [(5, 1728)], τ := [(5, 1728)] }, hf_impl_byteReader_name_mPb _ _ hy56, ⟨les_cons (lR _) (les_nil), ⟨rfl, trivial⟩, rfl, rfl, rfl, rfl, ⟨fun _ => rfl, trivial⟩, rfl⟩, ?_⟩
      cbv
      replace h := of_bind h
      obtain ⟨y57, hy58, h⟩ := h
      refine ⟨{ args := [.c (.ptr 5 0)], o0 := [(5, .var [.ptr 7 0]), (7, .var [.v (.string y55.2.gs), .v (.bool y55.2.gbad)])], r := .c (.v (.bool y57.1)), o1 := [(5, .var [.ptr 7 0]), (7, .var [.v (.string y57.2.2.gs), .v (.bool y57.2.2.gbad)])], fl := true, σ := [(5, 576), (7, 1728)], τ := [(5, 576), (7, 1728)] }, hf_impl_streamReader_take_1_mPP _ _ hy58, ⟨les_cons (lR _) (les_nil), ⟨rfl, rfl, trivial⟩, rfl, rfl, rfl, rfl, ⟨fun _ => rfl, fun _ => rfl, trivial⟩, rfl⟩, ?_⟩
      cbv
      refine fork (fun b84 => ?_) (fun b84 => ?_)
      ·replace h := of_br_t b84 h
       cbv
       replace h := of_bind h
       obtain ⟨r62, h63, he64⟩ := h
       injection he64 with he64
       subst he64
       injection hz45 with hz45
       subst hz45
       have h := h63
       replace h := of_bind h
       obtain ⟨r59, h60, he61⟩ := h
       injection he61 with he61
       subst he61
       injection hz6 with hz6
       subst hz6
       have h := h60
       injection h with h
       subst h
       refine ⟨(sparse 274 [(8, .c (.v (.int .i64 4)))] [(5, .var [.v (.bool a0.gbegun), .v (.bool a0.gdone), .v (.int .i64 a0.gcells), .v (.bool a0.ginside), .v (.string a0.gcell.fName), .os 64000 0 (LEN a0.gcell.fShapes), .os 64002 0 (LEN a0.gcell.fLabels), .os 64004 0 (LEN a0.gcell.fInstances), .os 64006 0 (LEN a0.glib.fCells)]), (64000, .arr .rw [] (LEN a0.gcell.fShapes) 5 (row GD (encShape) a0.gcell.fShapes)), (64002, .arr .rw [] (LEN a0.gcell.fLabels) 4 (row GD (encLabel) a0.gcell.fLabels)), (64004, .arr .rw [] (LEN a0.gcell.fInstances) 8 (row GD (encInstance) a0.gcell.fInstances)), (64006, .arr .rw [] (LEN a0.glib.fCells) 4 (row GD (oncCell LEN GD) a0.glib.fCells))]), ?_, ?_⟩
       ·refine St.le_trans (le_ren 7 64000 (by decide) rfl) ?_
        refine St.le_trans (le_ren 9 64002 (by decide) rfl) ?_
        refine St.le_trans (le_ren 11 64004 (by decide) rfl) ?_
        refine St.le_trans (le_ren 13 64006 (by decide) rfl) ?_
        exact le_sparse rfl ⟨lR _, trivial⟩ ⟨rfl, oS, oS, oS, oS, trivial⟩ rfl
       ·exact ⟨lR _, ⟨oS, oS, oS, oS, rfl, trivial⟩, rfl⟩
      ·replace h := of_br_f b84 h
       cbv
       replace h := of_bind h
       obtain ⟨y65, hy66, h⟩ := h
       obtain ⟨S69, hS70⟩ : ∃ S, S = (sparse 274 [(0, .c (.ptr 5 0)), (14, .c (.v (.string y55.1))), (69, .c (.v (.bool y65)))] [(5, .var [.v (.bool a0.gbegun), .v (.bool a0.gdone), .v (.int .i64 a0.gcells), .v (.bool a0.ginside), .v (.string a0.gcell.fName), .os 7 0 (LEN a0.gcell.fShapes), .os 9 0 (LEN a0.gcell.fLabels), .os 11 0 (LEN a0.gcell.fInstances), .os 13 0 (LEN a0.glib.fCells)]), (7, .arr .rw [] (LEN a0.gcell.fShapes) 5 (row GD (encShape) a0.gcell.fShapes)), (9, .arr .rw [] (LEN a0.gcell.fLabels) 4 (row GD (encLabel) a0.gcell.fLabels)), (11, .arr .rw [] (LEN a0.gcell.fInstances) 8 (row GD (encInstance) a0.gcell.fInstances)), (13, .arr .rw [] (LEN a0.glib.fCells) 4 (row GD (oncCell LEN GD) a0.glib.fCells))]) := ⟨_, rfl⟩
       refine ⟨S69, ?_, ?_⟩
       ·clear h
        have h := hy66
        clear hy66
        cbv
        replace h := of_bind h
        obtain ⟨y72, hy73, h⟩ := h
        refine ⟨{ args := [.c (.v (.string y55.1))], o0 := [], r := .c (.v (.bool y72)), o1 := [], fl := true, σ := [], τ := [] }, hf_impl_IsName _ _ hy73, ⟨les_cons (lR _) (les_nil), trivial, rfl, rfl, rfl, rfl, trivial, rfl⟩, ?_⟩
        cbv
        refine fork (fun b76 => ?_) (fun b76 => ?_)
        ·replace h := of_br_t b76 h
         cbv
         injection h with h
         subst h
         subst hS70
         show St.le _ _
         exact le_sparse rfl ⟨lR _, lR _, lR _, trivial⟩ ⟨rfl, oS, oS, oS, oS, trivial⟩ rfl
        ·replace h := of_br_f b76 h
         cbv
         replace h := of_bind h
         obtain ⟨y74, hy75, h⟩ := h
         refine ⟨{ args := [.agg [.bs (LEN a0.glib.fCells) 4 (row GD (encCell LEN GD) a0.glib.fCells)], .c (.v (.string y55.1))], o0 := [], r := .c (.v (.int .i64 y74)), o1 := [], fl := true, σ := [], τ := [] }, hf_impl_named _ _ _ hy75, ⟨les_cons (le_agg ⟨give_osD (rf_oncCell) (ln_oncCell) rfl rfl rfl, trivial⟩) (les_cons (lR _) (les_nil)), trivial, rfl, rfl, rfl, rfl, trivial, rfl⟩, ?_⟩
         cbv
         injection h with h
         subst h
         subst hS70
         show St.le _ _
         exact le_sparse rfl ⟨lR _, lR _, lR _, trivial⟩ ⟨rfl, oS, oS, oS, oS, trivial⟩ rfl
       ·clear hy66
        subst hS70
        replace h := of_let h
        obtain ⟨w71, hw71, h⟩ := h
        have hw71 : w71 = y65 := hw71
        subst hw71
        cbv
        refine fork (fun b83 => ?_) (fun b83 => ?_)
        ·replace h := of_br_t b83 h
         cbv
         replace h := of_bind h
         obtain ⟨r80, h81, he82⟩ := h
         injection he82 with he82
         subst he82
         injection hz45 with hz45
         subst hz45
         have h := h81
         replace h := of_bind h
         obtain ⟨r77, h78, he79⟩ := h
         injection he79 with he79
         subst he79
         injection hz6 with hz6
         subst hz6
         have h := h78
         injection h with h
         subst h
         refine ⟨(sparse 274 [(8, .c (.v (.int .i64 1)))] [(5, .var [.v (.bool a0.gbegun), .v (.bool a0.gdone), .v (.int .i64 a0.gcells), .v (.bool a0.ginside), .v (.string a0.gcell.fName), .os 64000 0 (LEN a0.gcell.fShapes), .os 64002 0 (LEN a0.gcell.fLabels), .os 64004 0 (LEN a0.gcell.fInstances), .os 64006 0 (LEN a0.glib.fCells)]), (64000, .arr .rw [] (LEN a0.gcell.fShapes) 5 (row GD (encShape) a0.gcell.fShapes)), (64002, .arr .rw [] (LEN a0.gcell.fLabels) 4 (row GD (encLabel) a0.gcell.fLabels)), (64004, .arr .rw [] (LEN a0.gcell.fInstances) 8 (row GD (encInstance) a0.gcell.fInstances)), (64006, .arr .rw [] (LEN a0.glib.fCells) 4 (row GD (oncCell LEN GD) a0.glib.fCells))]), ?_, ?_⟩
         ·refine St.le_trans (le_ren 7 64000 (by decide) rfl) ?_
          refine St.le_trans (le_ren 9 64002 (by decide) rfl) ?_
          refine St.le_trans (le_ren 11 64004 (by decide) rfl) ?_
          refine St.le_trans (le_ren 13 64006 (by decide) rfl) ?_
          exact le_sparse rfl ⟨lR _, trivial⟩ ⟨rfl, oS, oS, oS, oS, trivial⟩ rfl
         ·exact ⟨lR _, ⟨oS, oS, oS, oS, rfl, trivial⟩, rfl⟩
        ·replace h := of_br_f b83 h
         cbv
         injection h with h
         subst h
         subst hS47
         show St.le _ _
         refine St.le_trans (le_nilV 5 5 7552 5 (row GD (encShape) ([] : List TShape)) (by decide) (by decide) rfl rfl) ?_
         refine St.le_trans (le_nilV 5 6 9600 4 (row GD (encLabel) ([] : List TLabel)) (by decide) (by decide) rfl rfl) ?_
         refine St.le_trans (le_nilV 5 7 12544 8 (row GD (encInstance) ([] : List TInstance)) (by decide) (by decide) rfl rfl) ?_
         refine St.le_trans (le_ren 13 15808 (by decide) rfl) ?_
         subst hLEN
         exact le_sparse rfl trivial ⟨rfl, oS, oS, oS, oS, trivial⟩ rfl
     ·replace h := of_br_f b422 h
      cbv
      replace h := of_bind h
      obtain ⟨z87, hy86, hz88⟩ := h
      obtain ⟨S89, hS90⟩ : ∃ S, S = (match z87 with | .inl _ => none | .inr y85 => some (sparse 274 [] [(5, .var [.v (.bool a0.gbegun), .v (.bool y85.2.2.2.2.1), .v (.int .i64 a0.gcells), .v (.bool y85.2.2.2.2.2.1), .v (.string y85.2.2.2.2.2.2), .os 7552 0 (LEN y85.1), .os 9600 0 (LEN y85.2.1), .os 12544 0 (LEN y85.2.2.1), .os 15808 0 (LEN y85.2.2.2.1)]), (7552, .arr .rw [] (LEN y85.1) 5 (row GD (encShape) y85.1)), (9600, .arr .rw [] (LEN y85.2.1) 4 (row GD (encLabel) y85.2.1)), (12544, .arr .rw [] (LEN y85.2.2.1) 8 (row GD (encInstance) y85.2.2.1)), (15808, .arr .rw [] (LEN y85.2.2.2.1) 4 (row GD (oncCell LEN GD) y85.2.2.2.1))])) := ⟨_, rfl⟩
      refine ⟨S89, ?_, ?_⟩
      ·have h := hy86
       clear hy86
       cbv
       refine fork (fun b421 => ?_) (fun b421 => ?_)
       ·replace h := of_br_t b421 h
        cbv
        replace h := of_bind h
        obtain ⟨y98, hy99, h⟩ := h
        refine ⟨{ args := [.c (.ptr 5 0)], o0 := [(5, .var [.v (.string a2), .v (.bool false)])], r := .agg [.v (.int .i64 y98.1.fLayer), .v (.int .i64 y98.1.fBox.fX0), .v (.int .i64 y98.1.fBox.fY0), .v (.int .i64 y98.1.fBox.fX1), .v (.int .i64 y98.1.fBox.fY1)], o1 := [(5, .var [.v (.string y98.2.gs), .v (.bool y98.2.gbad)])], fl := true, σ := [(5, 1728)], τ := [(5, 1728)] }, hf_impl_byteReader_shape_mPb _ _ hy99, ⟨les_cons (lR _) (les_nil), ⟨rfl, trivial⟩, rfl, rfl, rfl, rfl, ⟨fun _ => rfl, trivial⟩, rfl⟩, ?_⟩
        cbv
        replace h := of_bind h
        obtain ⟨y100, hy101, h⟩ := h
        refine ⟨{ args := [.c (.ptr 5 0)], o0 := [(5, .var [.ptr 7 0]), (7, .var [.v (.string y98.2.gs), .v (.bool y98.2.gbad)])], r := .c (.v (.bool y100.1)), o1 := [(5, .var [.ptr 7 0]), (7, .var [.v (.string y100.2.2.gs), .v (.bool y100.2.2.gbad)])], fl := true, σ := [(5, 576), (7, 1728)], τ := [(5, 576), (7, 1728)] }, hf_impl_streamReader_take_1_mPP _ _ hy101, ⟨les_cons (lR _) (les_nil), ⟨rfl, rfl, trivial⟩, rfl, rfl, rfl, rfl, ⟨fun _ => rfl, fun _ => rfl, trivial⟩, rfl⟩, ?_⟩
        cbv
        refine fork (fun b138 => ?_) (fun b138 => ?_)
        ·replace h := of_br_t b138 h
         cbv
         replace h := of_bind h
         obtain ⟨r108, h109, he110⟩ := h
         injection he110 with he110
         subst he110
         injection hz88 with hz88
         subst hz88
         have h := h109
         replace h := of_bind h
         obtain ⟨r105, h106, he107⟩ := h
         injection he107 with he107
         subst he107
         injection hz45 with hz45
         subst hz45
         have h := h106
         replace h := of_bind h
         obtain ⟨r102, h103, he104⟩ := h
         injection he104 with he104
         subst he104
         injection hz6 with hz6
         subst hz6
         have h := h103
         injection h with h
         subst h
         refine ⟨(sparse 274 [(8, .c (.v (.int .i64 4)))] [(5, .var [.v (.bool a0.gbegun), .v (.bool a0.gdone), .v (.int .i64 a0.gcells), .v (.bool a0.ginside), .v (.string a0.gcell.fName), .os 64000 0 (LEN a0.gcell.fShapes), .os 64002 0 (LEN a0.gcell.fLabels), .os 64004 0 (LEN a0.gcell.fInstances), .os 64006 0 (LEN a0.glib.fCells)]), (64000, .arr .rw [] (LEN a0.gcell.fShapes) 5 (row GD (encShape) a0.gcell.fShapes)), (64002, .arr .rw [] (LEN a0.gcell.fLabels) 4 (row GD (encLabel) a0.gcell.fLabels)), (64004, .arr .rw [] (LEN a0.gcell.fInstances) 8 (row GD (encInstance) a0.gcell.fInstances)), (64006, .arr .rw [] (LEN a0.glib.fCells) 4 (row GD (oncCell LEN GD) a0.glib.fCells))]), ?_, ?_⟩
         ·refine St.le_trans (le_ren 7 64000 (by decide) rfl) ?_
          refine St.le_trans (le_ren 9 64002 (by decide) rfl) ?_
          refine St.le_trans (le_ren 11 64004 (by decide) rfl) ?_
          refine St.le_trans (le_ren 13 64006 (by decide) rfl) ?_
          exact le_sparse rfl ⟨lR _, trivial⟩ ⟨rfl, oS, oS, oS, oS, trivial⟩ rfl
         ·exact ⟨lR _, ⟨oS, oS, oS, oS, rfl, trivial⟩, rfl⟩
        ·replace h := of_br_f b138 h
         cbv
         refine fork (fun b137 => ?_) (fun b137 => ?_)
         ·replace h := of_br_t b137 h
          cbv
          replace h := of_bind h
          obtain ⟨r117, h118, he119⟩ := h
          injection he119 with he119
          subst he119
          injection hz88 with hz88
          subst hz88
          have h := h118
          replace h := of_bind h
          obtain ⟨r114, h115, he116⟩ := h
          injection he116 with he116
          subst he116
          injection hz45 with hz45
          subst hz45
          have h := h115
          replace h := of_bind h
          obtain ⟨r111, h112, he113⟩ := h
          injection he113 with he113
          subst he113
          injection hz6 with hz6
          subst hz6
          have h := h112
          injection h with h
          subst h
          refine ⟨(sparse 274 [(8, .c (.v (.int .i64 3)))] [(5, .var [.v (.bool a0.gbegun), .v (.bool a0.gdone), .v (.int .i64 a0.gcells), .v (.bool a0.ginside), .v (.string a0.gcell.fName), .os 64000 0 (LEN a0.gcell.fShapes), .os 64002 0 (LEN a0.gcell.fLabels), .os 64004 0 (LEN a0.gcell.fInstances), .os 64006 0 (LEN a0.glib.fCells)]), (64000, .arr .rw [] (LEN a0.gcell.fShapes) 5 (row GD (encShape) a0.gcell.fShapes)), (64002, .arr .rw [] (LEN a0.gcell.fLabels) 4 (row GD (encLabel) a0.gcell.fLabels)), (64004, .arr .rw [] (LEN a0.gcell.fInstances) 8 (row GD (encInstance) a0.gcell.fInstances)), (64006, .arr .rw [] (LEN a0.glib.fCells) 4 (row GD (oncCell LEN GD) a0.glib.fCells))]), ?_, ?_⟩
          ·refine St.le_trans (le_ren 7 64000 (by decide) rfl) ?_
           refine St.le_trans (le_ren 9 64002 (by decide) rfl) ?_
           refine St.le_trans (le_ren 11 64004 (by decide) rfl) ?_
           refine St.le_trans (le_ren 13 64006 (by decide) rfl) ?_
           exact le_sparse rfl ⟨lR _, trivial⟩ ⟨rfl, oS, oS, oS, oS, trivial⟩ rfl
          ·exact ⟨lR _, ⟨oS, oS, oS, oS, rfl, trivial⟩, rfl⟩
         ·replace h := of_br_f b137 h
          cbv
          replace h := of_bind h
          obtain ⟨y120, hy121, h⟩ := h
          refine ⟨{ args := [.agg [.v (.int .i64 y98.1.fLayer), .v (.int .i64 y98.1.fBox.fX0), .v (.int .i64 y98.1.fBox.fY0), .v (.int .i64 y98.1.fBox.fX1), .v (.int .i64 y98.1.fBox.fY1)]], o0 := [], r := .c (.v (.bool y120)), o1 := [], fl := true, σ := [], τ := [] }, hf_impl_validShape _ _ hy121, ⟨les_cons (lR _) (les_nil), trivial, rfl, rfl, rfl, rfl, trivial, rfl⟩, ?_⟩
          cbv
          refine fork (fun b136 => ?_) (fun b136 => ?_)
          ·replace h := of_br_t b136 h
           cbv
           replace h := of_bind h
           obtain ⟨r128, h129, he130⟩ := h
           injection he130 with he130
           subst he130
           injection hz88 with hz88
           subst hz88
           have h := h129
           replace h := of_bind h
           obtain ⟨r125, h126, he127⟩ := h
           injection he127 with he127
           subst he127
           injection hz45 with hz45
           subst hz45
           have h := h126
           replace h := of_bind h
           obtain ⟨r122, h123, he124⟩ := h
           injection he124 with he124
           subst he124
           injection hz6 with hz6
           subst hz6
           have h := h123
           injection h with h
           subst h
           refine ⟨(sparse 274 [(8, .c (.v (.int .i64 1)))] [(5, .var [.v (.bool a0.gbegun), .v (.bool a0.gdone), .v (.int .i64 a0.gcells), .v (.bool a0.ginside), .v (.string a0.gcell.fName), .os 64000 0 (LEN a0.gcell.fShapes), .os 64002 0 (LEN a0.gcell.fLabels), .os 64004 0 (LEN a0.gcell.fInstances), .os 64006 0 (LEN a0.glib.fCells)]), (64000, .arr .rw [] (LEN a0.gcell.fShapes) 5 (row GD (encShape) a0.gcell.fShapes)), (64002, .arr .rw [] (LEN a0.gcell.fLabels) 4 (row GD (encLabel) a0.gcell.fLabels)), (64004, .arr .rw [] (LEN a0.gcell.fInstances) 8 (row GD (encInstance) a0.gcell.fInstances)), (64006, .arr .rw [] (LEN a0.glib.fCells) 4 (row GD (oncCell LEN GD) a0.glib.fCells))]), ?_, ?_⟩
           ·refine St.le_trans (le_ren 7 64000 (by decide) rfl) ?_
            refine St.le_trans (le_ren 9 64002 (by decide) rfl) ?_
            refine St.le_trans (le_ren 11 64004 (by decide) rfl) ?_
            refine St.le_trans (le_ren 13 64006 (by decide) rfl) ?_
            exact le_sparse rfl ⟨lR _, trivial⟩ ⟨rfl, oS, oS, oS, oS, trivial⟩ rfl
           ·exact ⟨lR _, ⟨oS, oS, oS, oS, rfl, trivial⟩, rfl⟩
          ·replace h := of_br_f b136 h
           cbv
           replace h := of_let h
           obtain ⟨l131, hl131, h⟩ := h
           have e132 : 1 = LEN l131 := by subst hl131 hLEN; rfl
           refine ⟨_, congrArg (fun n => AV.c (AC.os 7488 0 n)) e132, _, row GD (encShape) l131, e132, wkOf ?_, ?_⟩
           ·intro i hi j hj
            rw [← e132] at hi
            subst hl131
            subst hGD
            obtain rfl : i = 0 := (by omega) <;> obtain rfl | rfl | rfl | rfl | rfl : j = 0 ∨ j = 1 ∨ j = 2 ∨ j = 3 ∨ j = 4 := (by omega)
            all_goals rfl
           cbv
           replace h := of_req h
           obtain ⟨c135, h⟩ := h
           replace h := of_let h
           obtain ⟨l133, hl133, h⟩ := h
           have e134 : A.nadd (LEN a0.gcell.fShapes) (LEN l131) = LEN l133 := by subst hl133 hLEN hA; simp [std, len]
           refine ⟨c135, _, congrArg (fun n => AV.c (AC.os 7552 0 n)) e134, _, row GD (encShape) l133, e134, wkOf ?_, ?_⟩
           ·subst hGD hLEN hA
            exact app_os (off := 0) (pl_encShape) hl133 (Nat.le_refl _)
           cbv
           injection h with h
           subst h
           subst hS90
           show St.le _ _
           refine St.le_trans (le_ren 9 9600 (by decide) rfl) ?_
           refine St.le_trans (le_ren 11 12544 (by decide) rfl) ?_
           refine St.le_trans (le_ren 13 15808 (by decide) rfl) ?_
           exact le_sparse rfl trivial ⟨rfl, oS, oS, oS, oS, trivial⟩ rfl
       ·replace h := of_br_f b421 h
        cbv
        replace h := of_bind h
        obtain ⟨z141, hy140, hz142⟩ := h
        obtain ⟨S143, hS144⟩ : ∃ S, S = (match z141 with | .inl _ => none | .inr y139 => some (sparse 274 [] [(5, .var [.v (.bool a0.gbegun), .v (.bool y139.2.2.2.2.1), .v (.int .i64 a0.gcells), .v (.bool y139.2.2.2.2.2.1), .v (.string y139.2.2.2.2.2.2), .os 62000 0 (LEN y139.1), .os 9600 0 (LEN y139.2.1), .os 12544 0 (LEN y139.2.2.1), .os 15808 0 (LEN y139.2.2.2.1)]), (62000, .arr .rw [] (LEN y139.1) 5 (row GD (encShape) y139.1)), (9600, .arr .rw [] (LEN y139.2.1) 4 (row GD (encLabel) y139.2.1)), (12544, .arr .rw [] (LEN y139.2.2.1) 8 (row GD (encInstance) y139.2.2.1)), (15808, .arr .rw [] (LEN y139.2.2.2.1) 4 (row GD (oncCell LEN GD) y139.2.2.2.1))])) := ⟨_, rfl⟩
        refine ⟨S143, ?_, ?_⟩
        ·have h := hy140
         clear hy140
         cbv
         refine fork (fun b420 => ?_) (fun b420 => ?_)
         ·replace h := of_br_t b420 h
          cbv
          replace h := of_bind h
          obtain ⟨y152, hy153, h⟩ := h
          refine ⟨{ args := [.c (.ptr 5 0)], o0 := [(5, .var [.v (.string a2), .v (.bool false)])], r := .agg [.v (.int .i64 y152.1.fLayer), .v (.int .i64 y152.1.fAt.fX), .v (.int .i64 y152.1.fAt.fY), .v (.string y152.1.fName)], o1 := [(5, .var [.v (.string y152.2.gs), .v (.bool y152.2.gbad)])], fl := true, σ := [(5, 1728)], τ := [(5, 1728)] }, hf_impl_byteReader_label_mPb _ _ hy153, ⟨les_cons (lR _) (les_nil), ⟨rfl, trivial⟩, rfl, rfl, rfl, rfl, ⟨fun _ => rfl, trivial⟩, rfl⟩, ?_⟩
          cbv
          replace h := of_bind h
          obtain ⟨y154, hy155, h⟩ := h
          refine ⟨{ args := [.c (.ptr 5 0)], o0 := [(5, .var [.ptr 7 0]), (7, .var [.v (.string y152.2.gs), .v (.bool y152.2.gbad)])], r := .c (.v (.bool y154.1)), o1 := [(5, .var [.ptr 7 0]), (7, .var [.v (.string y154.2.2.gs), .v (.bool y154.2.2.gbad)])], fl := true, σ := [(5, 576), (7, 1728)], τ := [(5, 576), (7, 1728)] }, hf_impl_streamReader_take_1_mPP _ _ hy155, ⟨les_cons (lR _) (les_nil), ⟨rfl, rfl, trivial⟩, rfl, rfl, rfl, rfl, ⟨fun _ => rfl, fun _ => rfl, trivial⟩, rfl⟩, ?_⟩
          cbv
          refine fork (fun b201 => ?_) (fun b201 => ?_)
          ·replace h := of_br_t b201 h
           cbv
           replace h := of_bind h
           obtain ⟨r165, h166, he167⟩ := h
           injection he167 with he167
           subst he167
           injection hz142 with hz142
           subst hz142
           have h := h166
           replace h := of_bind h
           obtain ⟨r162, h163, he164⟩ := h
           injection he164 with he164
           subst he164
           injection hz88 with hz88
           subst hz88
           have h := h163
           replace h := of_bind h
           obtain ⟨r159, h160, he161⟩ := h
           injection he161 with he161
           subst he161
           injection hz45 with hz45
           subst hz45
           have h := h160
           replace h := of_bind h
           obtain ⟨r156, h157, he158⟩ := h
           injection he158 with he158
           subst he158
           injection hz6 with hz6
           subst hz6
           have h := h157
           injection h with h
           subst h
           refine ⟨(sparse 274 [(8, .c (.v (.int .i64 4)))] [(5, .var [.v (.bool a0.gbegun), .v (.bool a0.gdone), .v (.int .i64 a0.gcells), .v (.bool a0.ginside), .v (.string a0.gcell.fName), .os 64000 0 (LEN a0.gcell.fShapes), .os 64002 0 (LEN a0.gcell.fLabels), .os 64004 0 (LEN a0.gcell.fInstances), .os 64006 0 (LEN a0.glib.fCells)]), (64000, .arr .rw [] (LEN a0.gcell.fShapes) 5 (row GD (encShape) a0.gcell.fShapes)), (64002, .arr .rw [] (LEN a0.gcell.fLabels) 4 (row GD (encLabel) a0.gcell.fLabels)), (64004, .arr .rw [] (LEN a0.gcell.fInstances) 8 (row GD (encInstance) a0.gcell.fInstances)), (64006, .arr .rw [] (LEN a0.glib.fCells) 4 (row GD (oncCell LEN GD) a0.glib.fCells))]), ?_, ?_⟩
           ·refine St.le_trans (le_ren 7 64000 (by decide) rfl) ?_
            refine St.le_trans (le_ren 9 64002 (by decide) rfl) ?_
            refine St.le_trans (le_ren 11 64004 (by decide) rfl) ?_
            refine St.le_trans (le_ren 13 64006 (by decide) rfl) ?_
            exact le_sparse rfl ⟨lR _, trivial⟩ ⟨rfl, oS, oS, oS, oS, trivial⟩ rfl
           ·exact ⟨lR _, ⟨oS, oS, oS, oS, rfl, trivial⟩, rfl⟩
          ·replace h := of_br_f b201 h
           cbv
           refine fork (fun b200 => ?_) (fun b200 => ?_)
           ·replace h := of_br_t b200 h
            cbv
            replace h := of_bind h
            obtain ⟨r177, h178, he179⟩ := h
            injection he179 with he179
            subst he179
            injection hz142 with hz142
            subst hz142
            have h := h178
            replace h := of_bind h
            obtain ⟨r174, h175, he176⟩ := h
            injection he176 with he176
            subst he176
            injection hz88 with hz88
            subst hz88
            have h := h175
            replace h := of_bind h
            obtain ⟨r171, h172, he173⟩ := h
            injection he173 with he173
            subst he173
            injection hz45 with hz45
            subst hz45
            have h := h172
            replace h := of_bind h
            obtain ⟨r168, h169, he170⟩ := h
            injection he170 with he170
            subst he170
            injection hz6 with hz6
            subst hz6
            have h := h169
            injection h with h
            subst h
            refine ⟨(sparse 274 [(8, .c (.v (.int .i64 3)))] [(5, .var [.v (.bool a0.gbegun), .v (.bool a0.gdone), .v (.int .i64 a0.gcells), .v (.bool a0.ginside), .v (.string a0.gcell.fName), .os 64000 0 (LEN a0.gcell.fShapes), .os 64002 0 (LEN a0.gcell.fLabels), .os 64004 0 (LEN a0.gcell.fInstances), .os 64006 0 (LEN a0.glib.fCells)]), (64000, .arr .rw [] (LEN a0.gcell.fShapes) 5 (row GD (encShape) a0.gcell.fShapes)), (64002, .arr .rw [] (LEN a0.gcell.fLabels) 4 (row GD (encLabel) a0.gcell.fLabels)), (64004, .arr .rw [] (LEN a0.gcell.fInstances) 8 (row GD (encInstance) a0.gcell.fInstances)), (64006, .arr .rw [] (LEN a0.glib.fCells) 4 (row GD (oncCell LEN GD) a0.glib.fCells))]), ?_, ?_⟩
            ·refine St.le_trans (le_ren 7 64000 (by decide) rfl) ?_
             refine St.le_trans (le_ren 9 64002 (by decide) rfl) ?_
             refine St.le_trans (le_ren 11 64004 (by decide) rfl) ?_
             refine St.le_trans (le_ren 13 64006 (by decide) rfl) ?_
             exact le_sparse rfl ⟨lR _, trivial⟩ ⟨rfl, oS, oS, oS, oS, trivial⟩ rfl
            ·exact ⟨lR _, ⟨oS, oS, oS, oS, rfl, trivial⟩, rfl⟩
           ·replace h := of_br_f b200 h
            cbv
            replace h := of_bind h
            obtain ⟨y180, hy181, h⟩ := h
            refine ⟨{ args := [.agg [.v (.int .i64 y152.1.fLayer), .v (.int .i64 y152.1.fAt.fX), .v (.int .i64 y152.1.fAt.fY), .v (.string y152.1.fName)]], o0 := [], r := .c (.v (.bool y180)), o1 := [], fl := true, σ := [], τ := [] }, hf_impl_validLabel _ _ hy181, ⟨les_cons (lR _) (les_nil), trivial, rfl, rfl, rfl, rfl, trivial, rfl⟩, ?_⟩
            cbv
            refine fork (fun b199 => ?_) (fun b199 => ?_)
            ·replace h := of_br_t b199 h
             cbv
             replace h := of_bind h
             obtain ⟨r191, h192, he193⟩ := h
             injection he193 with he193
             subst he193
             injection hz142 with hz142
             subst hz142
             have h := h192
             replace h := of_bind h
             obtain ⟨r188, h189, he190⟩ := h
             injection he190 with he190
             subst he190
             injection hz88 with hz88
             subst hz88
             have h := h189
             replace h := of_bind h
             obtain ⟨r185, h186, he187⟩ := h
             injection he187 with he187
             subst he187
             injection hz45 with hz45
             subst hz45
             have h := h186
             replace h := of_bind h
             obtain ⟨r182, h183, he184⟩ := h
             injection he184 with he184
             subst he184
             injection hz6 with hz6
             subst hz6
             have h := h183
             injection h with h
             subst h
             refine ⟨(sparse 274 [(8, .c (.v (.int .i64 1)))] [(5, .var [.v (.bool a0.gbegun), .v (.bool a0.gdone), .v (.int .i64 a0.gcells), .v (.bool a0.ginside), .v (.string a0.gcell.fName), .os 64000 0 (LEN a0.gcell.fShapes), .os 64002 0 (LEN a0.gcell.fLabels), .os 64004 0 (LEN a0.gcell.fInstances), .os 64006 0 (LEN a0.glib.fCells)]), (64000, .arr .rw [] (LEN a0.gcell.fShapes) 5 (row GD (encShape) a0.gcell.fShapes)), (64002, .arr .rw [] (LEN a0.gcell.fLabels) 4 (row GD (encLabel) a0.gcell.fLabels)), (64004, .arr .rw [] (LEN a0.gcell.fInstances) 8 (row GD (encInstance) a0.gcell.fInstances)), (64006, .arr .rw [] (LEN a0.glib.fCells) 4 (row GD (oncCell LEN GD) a0.glib.fCells))]), ?_, ?_⟩
             ·refine St.le_trans (le_ren 7 64000 (by decide) rfl) ?_
              refine St.le_trans (le_ren 9 64002 (by decide) rfl) ?_
              refine St.le_trans (le_ren 11 64004 (by decide) rfl) ?_
              refine St.le_trans (le_ren 13 64006 (by decide) rfl) ?_
              exact le_sparse rfl ⟨lR _, trivial⟩ ⟨rfl, oS, oS, oS, oS, trivial⟩ rfl
             ·exact ⟨lR _, ⟨oS, oS, oS, oS, rfl, trivial⟩, rfl⟩
            ·replace h := of_br_f b199 h
             cbv
             replace h := of_let h
             obtain ⟨l194, hl194, h⟩ := h
             have e195 : 1 = LEN l194 := by subst hl194 hLEN; rfl
             refine ⟨_, congrArg (fun n => AV.c (AC.os 9536 0 n)) e195, _, row GD (encLabel) l194, e195, wkOf ?_, ?_⟩
             ·intro i hi j hj
              rw [← e195] at hi
              subst hl194
              subst hGD
              obtain rfl : i = 0 := (by omega) <;> obtain rfl | rfl | rfl | rfl : j = 0 ∨ j = 1 ∨ j = 2 ∨ j = 3 := (by omega)
              all_goals rfl
             cbv
             replace h := of_req h
             obtain ⟨c198, h⟩ := h
             replace h := of_let h
             obtain ⟨l196, hl196, h⟩ := h
             have e197 : A.nadd (LEN a0.gcell.fLabels) (LEN l194) = LEN l196 := by subst hl196 hLEN hA; simp [std, len]
             refine ⟨c198, _, congrArg (fun n => AV.c (AC.os 9600 0 n)) e197, _, row GD (encLabel) l196, e197, wkOf ?_, ?_⟩
             ·subst hGD hLEN hA
              exact app_os (off := 0) (pl_encLabel) hl196 (Nat.le_refl _)
             cbv
             injection h with h
             subst h
             subst hS144
             show St.le _ _
             refine St.le_trans (le_ren 7 62000 (by decide) rfl) ?_
             refine St.le_trans (le_ren 11 12544 (by decide) rfl) ?_
             refine St.le_trans (le_ren 13 15808 (by decide) rfl) ?_
             exact le_sparse rfl trivial ⟨rfl, oS, oS, oS, oS, trivial⟩ rfl
         ·replace h := of_br_f b420 h
          cbv
          replace h := of_bind h
          obtain ⟨z204, hy203, hz205⟩ := h
          obtain ⟨S206, hS207⟩ : ∃ S, S = (match z204 with | .inl _ => none | .inr y202 => some (sparse 274 [] [(5, .var [.v (.bool a0.gbegun), .v (.bool y202.2.2.2.2.1), .v (.int .i64 a0.gcells), .v (.bool y202.2.2.2.2.2.1), .v (.string y202.2.2.2.2.2.2), .os 62000 0 (LEN y202.1), .os 62002 0 (LEN y202.2.1), .os 12544 0 (LEN y202.2.2.1), .os 15808 0 (LEN y202.2.2.2.1)]), (62000, .arr .rw [] (LEN y202.1) 5 (row GD (encShape) y202.1)), (62002, .arr .rw [] (LEN y202.2.1) 4 (row GD (encLabel) y202.2.1)), (12544, .arr .rw [] (LEN y202.2.2.1) 8 (row GD (encInstance) y202.2.2.1)), (15808, .arr .rw [] (LEN y202.2.2.2.1) 4 (row GD (oncCell LEN GD) y202.2.2.2.1))])) := ⟨_, rfl⟩
          refine ⟨S206, ?_, ?_⟩
          ·have h := hy203
           clear hy203
           cbv
           refine fork (fun b419 => ?_) (fun b419 => ?_)
           ·replace h := of_br_t b419 h
            cbv
            replace h := of_bind h
            obtain ⟨y215, hy216, h⟩ := h
            refine ⟨{ args := [.c (.ptr 5 0)], o0 := [(5, .var [.v (.string a2), .v (.bool false)])], r := .c (.v (.string y215.1)), o1 := [(5, .var [.v (.string y215.2.gs), .v (.bool y215.2.gbad)])], fl := true, σ := [(5, 1728)], τ := [(5, 1728)] }, hf_impl_byteReader_name_mPb _ _ hy216, ⟨les_cons (lR _) (les_nil), ⟨rfl, trivial⟩, rfl, rfl, rfl, rfl, ⟨fun _ => rfl, trivial⟩, rfl⟩, ?_⟩
            cbv
            replace h := of_bind h
            obtain ⟨y217, hy218, h⟩ := h
            refine ⟨{ args := [.c (.ptr 5 0)], o0 := [(5, .var [.v (.string y215.2.gs), .v (.bool y215.2.gbad)])], r := .agg [.v (.int .i64 y217.1.fCell), .v (.int .i64 y217.1.fPlace.fOrientation), .v (.int .i64 y217.1.fPlace.fX), .v (.int .i64 y217.1.fPlace.fY), .v (.int .i64 y217.1.fColumns), .v (.int .i64 y217.1.fRows), .v (.int .i64 y217.1.fStepX), .v (.int .i64 y217.1.fStepY)], o1 := [(5, .var [.v (.string y217.2.gs), .v (.bool y217.2.gbad)])], fl := true, σ := [(5, 1728)], τ := [(5, 1728)] }, hf_impl_byteReader_instance_mPb _ _ hy218, ⟨les_cons (lR _) (les_nil), ⟨rfl, trivial⟩, rfl, rfl, rfl, rfl, ⟨fun _ => rfl, trivial⟩, rfl⟩, ?_⟩
            cbv
            replace h := of_bind h
            obtain ⟨y219, hy220, h⟩ := h
            refine ⟨{ args := [.agg [.bs (LEN a0.glib.fCells) 4 (row GD (encCell LEN GD) a0.glib.fCells)], .c (.v (.string y215.1))], o0 := [], r := .c (.v (.int .i64 y219)), o1 := [], fl := true, σ := [], τ := [] }, hf_impl_named _ _ _ hy220, ⟨les_cons (le_agg ⟨give_osD (rf_oncCell) (ln_oncCell) rfl rfl rfl, trivial⟩) (les_cons (lR _) (les_nil)), trivial, rfl, rfl, rfl, rfl, trivial, rfl⟩, ?_⟩
            cbv
            replace h := of_bind h
            obtain ⟨y221, hy222, h⟩ := h
            refine ⟨{ args := [.c (.ptr 5 0)], o0 := [(5, .var [.ptr 7 0]), (7, .var [.v (.string y217.2.gs), .v (.bool y217.2.gbad)])], r := .c (.v (.bool y221.1)), o1 := [(5, .var [.ptr 7 0]), (7, .var [.v (.string y221.2.2.gs), .v (.bool y221.2.2.gbad)])], fl := true, σ := [(5, 576), (7, 1728)], τ := [(5, 576), (7, 1728)] }, hf_impl_streamReader_take_1_mPP _ _ hy222, ⟨les_cons (lR _) (les_nil), ⟨rfl, rfl, trivial⟩, rfl, rfl, rfl, rfl, ⟨fun _ => rfl, fun _ => rfl, trivial⟩, rfl⟩, ?_⟩
            cbv
            refine fork (fun b293 => ?_) (fun b293 => ?_)
            ·replace h := of_br_t b293 h
             cbv
             replace h := of_bind h
             obtain ⟨r235, h236, he237⟩ := h
             injection he237 with he237
             subst he237
             injection hz205 with hz205
             subst hz205
             have h := h236
             replace h := of_bind h
             obtain ⟨r232, h233, he234⟩ := h
             injection he234 with he234
             subst he234
             injection hz142 with hz142
             subst hz142
             have h := h233
             replace h := of_bind h
             obtain ⟨r229, h230, he231⟩ := h
             injection he231 with he231
             subst he231
             injection hz88 with hz88
             subst hz88
             have h := h230
             replace h := of_bind h
             obtain ⟨r226, h227, he228⟩ := h
             injection he228 with he228
             subst he228
             injection hz45 with hz45
             subst hz45
             have h := h227
             replace h := of_bind h
             obtain ⟨r223, h224, he225⟩ := h
             injection he225 with he225
             subst he225
             injection hz6 with hz6
             subst hz6
             have h := h224
             injection h with h
             subst h
             refine ⟨(sparse 274 [(8, .c (.v (.int .i64 4)))] [(5, .var [.v (.bool a0.gbegun), .v (.bool a0.gdone), .v (.int .i64 a0.gcells), .v (.bool a0.ginside), .v (.string a0.gcell.fName), .os 64000 0 (LEN a0.gcell.fShapes), .os 64002 0 (LEN a0.gcell.fLabels), .os 64004 0 (LEN a0.gcell.fInstances), .os 64006 0 (LEN a0.glib.fCells)]), (64000, .arr .rw [] (LEN a0.gcell.fShapes) 5 (row GD (encShape) a0.gcell.fShapes)), (64002, .arr .rw [] (LEN a0.gcell.fLabels) 4 (row GD (encLabel) a0.gcell.fLabels)), (64004, .arr .rw [] (LEN a0.gcell.fInstances) 8 (row GD (encInstance) a0.gcell.fInstances)), (64006, .arr .rw [] (LEN a0.glib.fCells) 4 (row GD (oncCell LEN GD) a0.glib.fCells))]), ?_, ?_⟩
             ·refine St.le_trans (le_ren 7 64000 (by decide) rfl) ?_
              refine St.le_trans (le_ren 9 64002 (by decide) rfl) ?_
              refine St.le_trans (le_ren 11 64004 (by decide) rfl) ?_
              refine St.le_trans (le_ren 13 64006 (by decide) rfl) ?_
              exact le_sparse rfl ⟨lR _, trivial⟩ ⟨rfl, oS, oS, oS, oS, trivial⟩ rfl
             ·exact ⟨lR _, ⟨oS, oS, oS, oS, rfl, trivial⟩, rfl⟩
            ·replace h := of_br_f b293 h
             cbv
             refine fork (fun b292 => ?_) (fun b292 => ?_)
             ·replace h := of_br_t b292 h
              cbv
              replace h := of_bind h
              obtain ⟨r250, h251, he252⟩ := h
              injection he252 with he252
              subst he252
              injection hz205 with hz205
              subst hz205
              have h := h251
              replace h := of_bind h
              obtain ⟨r247, h248, he249⟩ := h
              injection he249 with he249
              subst he249
              injection hz142 with hz142
              subst hz142
              have h := h248
              replace h := of_bind h
              obtain ⟨r244, h245, he246⟩ := h
              injection he246 with he246
              subst he246
              injection hz88 with hz88
              subst hz88
              have h := h245
              replace h := of_bind h
              obtain ⟨r241, h242, he243⟩ := h
              injection he243 with he243
              subst he243
              injection hz45 with hz45
              subst hz45
              have h := h242
              replace h := of_bind h
              obtain ⟨r238, h239, he240⟩ := h
              injection he240 with he240
              subst he240
              injection hz6 with hz6
              subst hz6
              have h := h239
              injection h with h
              subst h
              refine ⟨(sparse 274 [(8, .c (.v (.int .i64 3)))] [(5, .var [.v (.bool a0.gbegun), .v (.bool a0.gdone), .v (.int .i64 a0.gcells), .v (.bool a0.ginside), .v (.string a0.gcell.fName), .os 64000 0 (LEN a0.gcell.fShapes), .os 64002 0 (LEN a0.gcell.fLabels), .os 64004 0 (LEN a0.gcell.fInstances), .os 64006 0 (LEN a0.glib.fCells)]), (64000, .arr .rw [] (LEN a0.gcell.fShapes) 5 (row GD (encShape) a0.gcell.fShapes)), (64002, .arr .rw [] (LEN a0.gcell.fLabels) 4 (row GD (encLabel) a0.gcell.fLabels)), (64004, .arr .rw [] (LEN a0.gcell.fInstances) 8 (row GD (encInstance) a0.gcell.fInstances)), (64006, .arr .rw [] (LEN a0.glib.fCells) 4 (row GD (oncCell LEN GD) a0.glib.fCells))]), ?_, ?_⟩
              ·refine St.le_trans (le_ren 7 64000 (by decide) rfl) ?_
               refine St.le_trans (le_ren 9 64002 (by decide) rfl) ?_
               refine St.le_trans (le_ren 11 64004 (by decide) rfl) ?_
               refine St.le_trans (le_ren 13 64006 (by decide) rfl) ?_
               exact le_sparse rfl ⟨lR _, trivial⟩ ⟨rfl, oS, oS, oS, oS, trivial⟩ rfl
              ·exact ⟨lR _, ⟨oS, oS, oS, oS, rfl, trivial⟩, rfl⟩
             ·replace h := of_br_f b292 h
              cbv
              refine fork (fun b291 => ?_) (fun b291 => ?_)
              ·replace h := of_br_t b291 h
               cbv
               replace h := of_bind h
               obtain ⟨r265, h266, he267⟩ := h
               injection he267 with he267
               subst he267
               injection hz205 with hz205
               subst hz205
               have h := h266
               replace h := of_bind h
               obtain ⟨r262, h263, he264⟩ := h
               injection he264 with he264
               subst he264
               injection hz142 with hz142
               subst hz142
               have h := h263
               replace h := of_bind h
               obtain ⟨r259, h260, he261⟩ := h
               injection he261 with he261
               subst he261
               injection hz88 with hz88
               subst hz88
               have h := h260
               replace h := of_bind h
               obtain ⟨r256, h257, he258⟩ := h
               injection he258 with he258
               subst he258
               injection hz45 with hz45
               subst hz45
               have h := h257
               replace h := of_bind h
               obtain ⟨r253, h254, he255⟩ := h
               injection he255 with he255
               subst he255
               injection hz6 with hz6
               subst hz6
               have h := h254
               injection h with h
               subst h
               refine ⟨(sparse 274 [(8, .c (.v (.int .i64 5)))] [(5, .var [.v (.bool a0.gbegun), .v (.bool a0.gdone), .v (.int .i64 a0.gcells), .v (.bool a0.ginside), .v (.string a0.gcell.fName), .os 64000 0 (LEN a0.gcell.fShapes), .os 64002 0 (LEN a0.gcell.fLabels), .os 64004 0 (LEN a0.gcell.fInstances), .os 64006 0 (LEN a0.glib.fCells)]), (64000, .arr .rw [] (LEN a0.gcell.fShapes) 5 (row GD (encShape) a0.gcell.fShapes)), (64002, .arr .rw [] (LEN a0.gcell.fLabels) 4 (row GD (encLabel) a0.gcell.fLabels)), (64004, .arr .rw [] (LEN a0.gcell.fInstances) 8 (row GD (encInstance) a0.gcell.fInstances)), (64006, .arr .rw [] (LEN a0.glib.fCells) 4 (row GD (oncCell LEN GD) a0.glib.fCells))]), ?_, ?_⟩
               ·refine St.le_trans (le_ren 7 64000 (by decide) rfl) ?_
                refine St.le_trans (le_ren 9 64002 (by decide) rfl) ?_
                refine St.le_trans (le_ren 11 64004 (by decide) rfl) ?_
                refine St.le_trans (le_ren 13 64006 (by decide) rfl) ?_
                exact le_sparse rfl ⟨lR _, trivial⟩ ⟨rfl, oS, oS, oS, oS, trivial⟩ rfl
               ·exact ⟨lR _, ⟨oS, oS, oS, oS, rfl, trivial⟩, rfl⟩
              ·replace h := of_br_f b291 h
               cbv
               replace h := of_bind h
               obtain ⟨y268, hy269, h⟩ := h
               refine ⟨{ args := [.agg [.v (.int .i64 y219), .v (.int .i64 y217.1.fPlace.fOrientation), .v (.int .i64 y217.1.fPlace.fX), .v (.int .i64 y217.1.fPlace.fY), .v (.int .i64 y217.1.fColumns), .v (.int .i64 y217.1.fRows), .v (.int .i64 y217.1.fStepX), .v (.int .i64 y217.1.fStepY)], .c (.v (.int .i64 (A.ofN (LEN a0.glib.fCells))))], o0 := [], r := .c (.v (.bool y268)), o1 := [], fl := true, σ := [], τ := [] }, hf_impl_validInstance _ _ _ hy269, ⟨les_cons (lR _) (les_cons (lR _) (les_nil)), trivial, rfl, rfl, rfl, rfl, trivial, rfl⟩, ?_⟩
               cbv
               refine fork (fun b290 => ?_) (fun b290 => ?_)
               ·replace h := of_br_t b290 h
                cbv
                replace h := of_bind h
                obtain ⟨r282, h283, he284⟩ := h
                injection he284 with he284
                subst he284
                injection hz205 with hz205
                subst hz205
                have h := h283
                replace h := of_bind h
                obtain ⟨r279, h280, he281⟩ := h
                injection he281 with he281
                subst he281
                injection hz142 with hz142
                subst hz142
                have h := h280
                replace h := of_bind h
                obtain ⟨r276, h277, he278⟩ := h
                injection he278 with he278
                subst he278
                injection hz88 with hz88
                subst hz88
                have h := h277
                replace h := of_bind h
                obtain ⟨r273, h274, he275⟩ := h
                injection he275 with he275
                subst he275
                injection hz45 with hz45
                subst hz45
                have h := h274
                replace h := of_bind h
                obtain ⟨r270, h271, he272⟩ := h
                injection he272 with he272
                subst he272
                injection hz6 with hz6
                subst hz6
                have h := h271
                injection h with h
                subst h
                refine ⟨(sparse 274 [(8, .c (.v (.int .i64 1)))] [(5, .var [.v (.bool a0.gbegun), .v (.bool a0.gdone), .v (.int .i64 a0.gcells), .v (.bool a0.ginside), .v (.string a0.gcell.fName), .os 64000 0 (LEN a0.gcell.fShapes), .os 64002 0 (LEN a0.gcell.fLabels), .os 64004 0 (LEN a0.gcell.fInstances), .os 64006 0 (LEN a0.glib.fCells)]), (64000, .arr .rw [] (LEN a0.gcell.fShapes) 5 (row GD (encShape) a0.gcell.fShapes)), (64002, .arr .rw [] (LEN a0.gcell.fLabels) 4 (row GD (encLabel) a0.gcell.fLabels)), (64004, .arr .rw [] (LEN a0.gcell.fInstances) 8 (row GD (encInstance) a0.gcell.fInstances)), (64006, .arr .rw [] (LEN a0.glib.fCells) 4 (row GD (oncCell LEN GD) a0.glib.fCells))]), ?_, ?_⟩
                ·refine St.le_trans (le_ren 7 64000 (by decide) rfl) ?_
                 refine St.le_trans (le_ren 9 64002 (by decide) rfl) ?_
                 refine St.le_trans (le_ren 11 64004 (by decide) rfl) ?_
                 refine St.le_trans (le_ren 13 64006 (by decide) rfl) ?_
                 exact le_sparse rfl ⟨lR _, trivial⟩ ⟨rfl, oS, oS, oS, oS, trivial⟩ rfl
                ·exact ⟨lR _, ⟨oS, oS, oS, oS, rfl, trivial⟩, rfl⟩
               ·replace h := of_br_f b290 h
                cbv
                replace h := of_let h
                obtain ⟨l285, hl285, h⟩ := h
                have e286 : 1 = LEN l285 := by subst hl285 hLEN; rfl
                refine ⟨_, congrArg (fun n => AV.c (AC.os 12480 0 n)) e286, _, row GD (encInstance) l285, e286, wkOf ?_, ?_⟩
                ·intro i hi j hj
                 rw [← e286] at hi
                 subst hl285
                 subst hGD
                 obtain rfl : i = 0 := (by omega) <;> obtain rfl | rfl | rfl | rfl | rfl | rfl | rfl | rfl : j = 0 ∨ j = 1 ∨ j = 2 ∨ j = 3 ∨ j = 4 ∨ j = 5 ∨ j = 6 ∨ j = 7 := (by omega)
                 all_goals rfl
                cbv
                replace h := of_req h
                obtain ⟨c289, h⟩ := h
                replace h := of_let h
                obtain ⟨l287, hl287, h⟩ := h
                have e288 : A.nadd (LEN a0.gcell.fInstances) (LEN l285) = LEN l287 := by subst hl287 hLEN hA; simp [std, len]
                refine ⟨c289, _, congrArg (fun n => AV.c (AC.os 12544 0 n)) e288, _, row GD (encInstance) l287, e288, wkOf ?_, ?_⟩
                ·subst hGD hLEN hA
                 exact app_os (off := 0) (pl_encInstance) hl287 (Nat.le_refl _)
                cbv
                injection h with h
                subst h
                subst hS207
                show St.le _ _
                refine St.le_trans (le_ren 7 62000 (by decide) rfl) ?_
                refine St.le_trans (le_ren 9 62002 (by decide) rfl) ?_
                refine St.le_trans (le_ren 13 15808 (by decide) rfl) ?_
                exact le_sparse rfl trivial ⟨rfl, oS, oS, oS, oS, trivial⟩ rfl
           ·replace h := of_br_f b419 h
            cbv
            replace h := of_bind h
            obtain ⟨z296, hy295, hz297⟩ := h
            obtain ⟨S298, hS299⟩ : ∃ S, S = (match z296 with | .inl _ => none | .inr y294 => some (sparse 274 [] [(5, .var [.v (.bool a0.gbegun), .v (.bool y294.2.2.2.2.2.2), .v (.int .i64 a0.gcells), .v (.bool y294.1), .v (.string y294.2.1), .os 62000 0 (LEN y294.2.2.1), .os 62002 0 (LEN y294.2.2.2.1), .os 62004 0 (LEN y294.2.2.2.2.1), .os 15808 0 (LEN y294.2.2.2.2.2.1)]), (62000, .arr .rw [] (LEN y294.2.2.1) 5 (row GD (encShape) y294.2.2.1)), (62002, .arr .rw [] (LEN y294.2.2.2.1) 4 (row GD (encLabel) y294.2.2.2.1)), (62004, .arr .rw [] (LEN y294.2.2.2.2.1) 8 (row GD (encInstance) y294.2.2.2.2.1)), (15808, .arr .rw [] (LEN y294.2.2.2.2.2.1) 4 (row GD (oncCell LEN GD) y294.2.2.2.2.2.1))])) := ⟨_, rfl⟩
            refine ⟨S298, ?_, ?_⟩
            ·have h := hy295
             clear hy295
             cbv
             refine fork (fun b418 => ?_) (fun b418 => ?_)
             ·replace h := of_br_t b418 h
              cbv
              replace h := of_bind h
              obtain ⟨y307, hy308, h⟩ := h
              refine ⟨{ args := [.c (.ptr 5 0)], o0 := [(5, .var [.v (.string a2), .v (.bool false)])], r := .c (.v (.int .i64 y307.1)), o1 := [(5, .var [.v (.string y307.2.gs), .v (.bool y307.2.gbad)])], fl := true, σ := [(5, 1728)], τ := [(5, 1728)] }, hf_impl_byteReader_one_mPb _ _ hy308, ⟨les_cons (lR _) (les_nil), ⟨rfl, trivial⟩, rfl, rfl, rfl, rfl, ⟨fun _ => rfl, trivial⟩, rfl⟩, ?_⟩
              cbv
              replace h := of_bind h
              obtain ⟨y309, hy310, h⟩ := h
              refine ⟨{ args := [.c (.ptr 5 0)], o0 := [(5, .var [.v (.string y307.2.gs), .v (.bool y307.2.gbad)])], r := .c (.v (.int .i64 y309.1)), o1 := [(5, .var [.v (.string y309.2.gs), .v (.bool y309.2.gbad)])], fl := true, σ := [(5, 1728)], τ := [(5, 1728)] }, hf_impl_byteReader_one_mPb _ _ hy310, ⟨les_cons (lR _) (les_nil), ⟨rfl, trivial⟩, rfl, rfl, rfl, rfl, ⟨fun _ => rfl, trivial⟩, rfl⟩, ?_⟩
              cbv
              replace h := of_bind h
              obtain ⟨y311, hy312, h⟩ := h
              refine ⟨{ args := [.c (.ptr 5 0)], o0 := [(5, .var [.v (.string y309.2.gs), .v (.bool y309.2.gbad)])], r := .c (.v (.int .i64 y311.1)), o1 := [(5, .var [.v (.string y311.2.gs), .v (.bool y311.2.gbad)])], fl := true, σ := [(5, 1728)], τ := [(5, 1728)] }, hf_impl_byteReader_one_mPb _ _ hy312, ⟨les_cons (lR _) (les_nil), ⟨rfl, trivial⟩, rfl, rfl, rfl, rfl, ⟨fun _ => rfl, trivial⟩, rfl⟩, ?_⟩
              cbv
              replace h := of_let h
              obtain ⟨l313, hl313, h⟩ := h
              have e314 : 3 = LEN l313 := by subst hl313 hLEN; rfl
              refine ⟨_, congrArg (fun n => AV.c (AC.os 13312 0 n)) e314, _, row GD (encI .i64) l313, e314, wkOf ?_, ?_⟩
              ·intro i hi j hj
               rw [← e314] at hi
               subst hl313
               subst hGD
               obtain rfl | rfl | rfl : i = 0 ∨ i = 1 ∨ i = 2 := (by omega)
               all_goals obtain rfl : j = 0 := by omega
               all_goals rfl
              cbv
              replace h := of_bind h
              obtain ⟨y315, hy316, h⟩ := h
              obtain ⟨S319, hS320⟩ : ∃ S, S = (sparse 274 [(0, .c (.ptr 5 0)), (235, .c (.v (.bool y315)))] [(5, .var [.v (.bool a0.gbegun), .v (.bool a0.gdone), .v (.int .i64 a0.gcells), .v (.bool a0.ginside), .v (.string a0.gcell.fName), .os 7 0 (LEN a0.gcell.fShapes), .os 9 0 (LEN a0.gcell.fLabels), .os 11 0 (LEN a0.gcell.fInstances), .os 13 0 (LEN a0.glib.fCells)]), (7, .arr .rw [] (LEN a0.gcell.fShapes) 5 (row GD (encShape) a0.gcell.fShapes)), (9, .arr .rw [] (LEN a0.gcell.fLabels) 4 (row GD (encLabel) a0.gcell.fLabels)), (11, .arr .rw [] (LEN a0.gcell.fInstances) 8 (row GD (encInstance) a0.gcell.fInstances)), (13, .arr .rw [] (LEN a0.glib.fCells) 4 (row GD (oncCell LEN GD) a0.glib.fCells))]) := ⟨_, rfl⟩
              refine ⟨S319, ?_, ?_⟩
              ·clear h
               have h := hy316
               clear hy316
               cbv
               replace h := of_bind h
               obtain ⟨y322, hy323, h⟩ := h
               refine ⟨{ args := [.c (.ptr 5 0)], o0 := [(5, .var [.ptr 7 0]), (7, .var [.v (.string y311.2.gs), .v (.bool y311.2.gbad)])], r := .c (.v (.bool y322.1)), o1 := [(5, .var [.ptr 7 0]), (7, .var [.v (.string y322.2.2.gs), .v (.bool y322.2.2.gbad)])], fl := true, σ := [(5, 576), (7, 1728)], τ := [(5, 576), (7, 1728)] }, hf_impl_streamReader_take_1_mPP _ _ hy323, ⟨les_cons (lR _) (les_nil), ⟨rfl, rfl, trivial⟩, rfl, rfl, rfl, rfl, ⟨fun _ => rfl, fun _ => rfl, trivial⟩, rfl⟩, ?_⟩
               cbv
               refine fork (fun b328 => ?_) (fun b328 => ?_)
               ·replace h := of_br_t b328 h
                cbv
                injection h with h
                subst h
                subst hS320
                show St.le _ _
                exact le_sparse rfl ⟨lR _, lR _, trivial⟩ ⟨rfl, oS, oS, oS, oS, trivial⟩ rfl
               ·replace h := of_br_f b328 h
                cbv
                replace h := of_let h
                obtain ⟨l324, hl324, h⟩ := h
                have e325 : 3 = LEN l324 := by subst hl324 hLEN; rfl
                refine ⟨_, congrArg (fun n => AV.c (AC.os 14848 0 n)) e325, _, row GD (encI .i64) l324, e325, wkOf ?_, ?_⟩
                ·intro i hi j hj
                 rw [← e325] at hi
                 subst hl324
                 subst hGD
                 obtain rfl | rfl | rfl : i = 0 ∨ i = 1 ∨ i = 2 := (by omega)
                 all_goals obtain rfl : j = 0 := by omega
                 all_goals rfl
                cbv
                replace h := of_bind h
                obtain ⟨y326, hy327, h⟩ := h
                refine ⟨{ args := [.c (.bs (LEN l313) 1 (row GD (encI .i64) l313)), .c (.bs (LEN l324) 1 (row GD (encI .i64) l324))], o0 := [], r := .c (.v (.bool y326)), o1 := [], fl := true, σ := [], τ := [] }, hf_slices_Equal_Lint64_int64 _ _ _ hy327, ⟨les_cons (give_os (fun _ _ => rfl) rfl rfl rfl) (les_cons (give_os (fun _ _ => rfl) rfl rfl rfl) (les_nil)), trivial, rfl, rfl, rfl, rfl, trivial, rfl⟩, ?_⟩
                cbv
                injection h with h
                subst h
                subst hS320
                show St.le _ _
                exact le_sparse rfl ⟨lR _, lR _, trivial⟩ ⟨rfl, oS, oS, oS, oS, trivial⟩ rfl
              ·clear hy316
               subst hS320
               replace h := of_let h
               obtain ⟨w321, hw321, h⟩ := h
               have hw321 : w321 = y315 := hw321
               subst hw321
               cbv
               refine fork (fun b359 => ?_) (fun b359 => ?_)
               ·replace h := of_br_t b359 h
                cbv
                replace h := of_bind h
                obtain ⟨r344, h345, he346⟩ := h
                injection he346 with he346
                subst he346
                injection hz297 with hz297
                subst hz297
                have h := h345
                replace h := of_bind h
                obtain ⟨r341, h342, he343⟩ := h
                injection he343 with he343
                subst he343
                injection hz205 with hz205
                subst hz205
                have h := h342
                replace h := of_bind h
                obtain ⟨r338, h339, he340⟩ := h
                injection he340 with he340
                subst he340
                injection hz142 with hz142
                subst hz142
                have h := h339
                replace h := of_bind h
                obtain ⟨r335, h336, he337⟩ := h
                injection he337 with he337
                subst he337
                injection hz88 with hz88
                subst hz88
                have h := h336
                replace h := of_bind h
                obtain ⟨r332, h333, he334⟩ := h
                injection he334 with he334
                subst he334
                injection hz45 with hz45
                subst hz45
                have h := h333
                replace h := of_bind h
                obtain ⟨r329, h330, he331⟩ := h
                injection he331 with he331
                subst he331
                injection hz6 with hz6
                subst hz6
                have h := h330
                injection h with h
                subst h
                refine ⟨(sparse 274 [(8, .c (.v (.int .i64 4)))] [(5, .var [.v (.bool a0.gbegun), .v (.bool a0.gdone), .v (.int .i64 a0.gcells), .v (.bool a0.ginside), .v (.string a0.gcell.fName), .os 64000 0 (LEN a0.gcell.fShapes), .os 64002 0 (LEN a0.gcell.fLabels), .os 64004 0 (LEN a0.gcell.fInstances), .os 64006 0 (LEN a0.glib.fCells)]), (64000, .arr .rw [] (LEN a0.gcell.fShapes) 5 (row GD (encShape) a0.gcell.fShapes)), (64002, .arr .rw [] (LEN a0.gcell.fLabels) 4 (row GD (encLabel) a0.gcell.fLabels)), (64004, .arr .rw [] (LEN a0.gcell.fInstances) 8 (row GD (encInstance) a0.gcell.fInstances)), (64006, .arr .rw [] (LEN a0.glib.fCells) 4 (row GD (oncCell LEN GD) a0.glib.fCells))]), ?_, ?_⟩
                ·refine St.le_trans (le_ren 7 64000 (by decide) rfl) ?_
                 refine St.le_trans (le_ren 9 64002 (by decide) rfl) ?_
                 refine St.le_trans (le_ren 11 64004 (by decide) rfl) ?_
                 refine St.le_trans (le_ren 13 64006 (by decide) rfl) ?_
                 exact le_sparse rfl ⟨lR _, trivial⟩ ⟨rfl, oS, oS, oS, oS, trivial⟩ rfl
                ·exact ⟨lR _, ⟨oS, oS, oS, oS, rfl, trivial⟩, rfl⟩
               ·replace h := of_br_f b359 h
                cbv
                replace h := of_bind h
                obtain ⟨y347, hy348, h⟩ := h
                obtain ⟨S351, hS352⟩ : ∃ S, S = (sparse 274 [(0, .c (.ptr 5 0))] [(5, .var [.v (.bool a0.gbegun), .v (.bool a0.gdone), .v (.int .i64 a0.gcells), .v (.bool a0.ginside), .v (.string a0.gcell.fName), .junk, .junk, .junk, .os 15808 0 (LEN y347)]), (15808, .arr .rw [] (LEN y347) 4 (row GD (oncCell LEN GD) y347))]) := ⟨_, rfl⟩
                refine ⟨S351, ?_, ?_⟩
                ·clear h
                 have h := hy348
                 clear hy348
                 cbv
                 replace h := of_let h
                 obtain ⟨l354, hl354, h⟩ := h
                 have e355 : 1 = LEN l354 := by subst hl354 hLEN; rfl
                 refine ⟨_, congrArg (fun n => AV.c (AC.os 15744 0 n)) e355, _, (patchC (fun _ _ => AC.junk) 0 [.v (.string a0.gcell.fName), .os 7 0 (LEN a0.gcell.fShapes), .os 9 0 (LEN a0.gcell.fLabels), .os 11 0 (LEN a0.gcell.fInstances)]), e355, wkOf ?_, ?_⟩
                 ·refine patch_one (by subst hl354 hLEN; rfl) ?_
                  intro j hj
                  match j, hj with | 0, _ => (rfl) | 1, _ => (rfl) | 2, _ => (rfl) | 3, _ => (rfl) | (j_ + 4), h_ => exact absurd h_ (by omega)
                 cbv
                 replace h := of_req h
                 obtain ⟨c358, h⟩ := h
                 replace h := of_let h
                 obtain ⟨l356, hl356, h⟩ := h
                 have e357 : A.nadd (LEN a0.glib.fCells) (LEN l354) = LEN l356 := by subst hl356 hLEN hA; simp [std, len]
                 refine ⟨c358, _, congrArg (fun n => AV.c (AC.os 15808 0 n)) e357, _, (patchC (row GD (oncCell LEN GD) a0.glib.fCells) (LEN a0.glib.fCells) [.v (.string a0.gcell.fName), .os 7 0 (LEN a0.gcell.fShapes), .os 9 0 (LEN a0.gcell.fLabels), .os 11 0 (LEN a0.gcell.fInstances)]), e357, wkOf ?_, ?_⟩
                 ·subst hLEN hA
                  refine patch_joinG (by first | (rw [hl356]; simp [len]; done) | (rw [hl356]; simp [len]; omega) | (subst_vars; simp [len])) ?_
                  intro j hj
                  match j, hj with | 0, _ => (rfl) | 1, _ => (rfl) | 2, _ => (rfl) | 3, _ => (rfl) | (j_ + 4), h_ => exact absurd h_ (by omega)
                 cbv
                 rw [hl354] at hl356
                 injection h with h
                 subst h
                 subst hS352
                 show St.le _ _
                 refine St.le_trans (le_foldP 15808 1 7 rfl rfl rfl (by decide) (by subst hLEN; exact app_lt hl356) (by decide) rfl (fun _ _ => rf_oncCell _ _)) ?_
                 refine St.le_trans (le_foldP 15808 2 9 rfl rfl rfl (by decide) (by subst hLEN; exact app_lt hl356) (by decide) rfl (fun _ _ => rf_oncCell _ _)) ?_
                 refine St.le_trans (le_foldP 15808 3 11 rfl rfl rfl (by decide) (by subst hLEN; exact app_lt hl356) (by decide) rfl (fun _ _ => rf_oncCell _ _)) ?_
                 exact le_sparse rfl ⟨lR _, trivial⟩ ⟨rfl, ⟨fun hw => hw, fun c hc => (by cases hc), .inr (fun i _ j _ z hz => (noref (rf_oncCell _ _) hz).elim), rfl, rfl, (by subst hGD hLEN hA; exact patch_app hl356 (Nat.le_refl _) (by intro j hj; match j, hj with | 0, _ => rfl | 1, _ => rfl | 2, _ => rfl | 3, _ => rfl | (j_ + 4), h_ => exact absurd h_ (by omega)))⟩, trivial⟩ rfl
                ·clear hy348
                 subst hS352
                 replace h := of_let h
                 obtain ⟨w353, hw353, h⟩ := h
                 have hw353 : w353 = y347 := hw353
                 subst hw353
                 cbv
                 injection h with h
                 subst h
                 subst hS299
                 show St.le _ _
                 refine St.le_trans (le_nilV 5 5 62000 5 (row GD (encShape) ([] : List TShape)) (by decide) (by decide) rfl rfl) ?_
                 refine St.le_trans (le_nilV 5 6 62002 4 (row GD (encLabel) ([] : List TLabel)) (by decide) (by decide) rfl rfl) ?_
                 refine St.le_trans (le_nilV 5 7 62004 8 (row GD (encInstance) ([] : List TInstance)) (by decide) (by decide) rfl rfl) ?_
                 subst hLEN
                 exact le_sparse rfl trivial ⟨rfl, oS, oS, oS, oS, trivial⟩ rfl
             ·replace h := of_br_f b418 h
              cbv
              replace h := of_bind h
              obtain ⟨z362, hy361, hz363⟩ := h
              obtain ⟨S364, hS365⟩ : ∃ S, S = (match z362 with | .inl _ => none | .inr y360 => some (sparse 274 [] [(5, .var [.v (.bool a0.gbegun), .v (.bool y360), .v (.int .i64 a0.gcells), .v (.bool a0.ginside), .v (.string a0.gcell.fName), .os 7 0 (LEN a0.gcell.fShapes), .os 9 0 (LEN a0.gcell.fLabels), .os 11 0 (LEN a0.gcell.fInstances), .os 13 0 (LEN a0.glib.fCells)]), (7, .arr .rw [] (LEN a0.gcell.fShapes) 5 (row GD (encShape) a0.gcell.fShapes)), (9, .arr .rw [] (LEN a0.gcell.fLabels) 4 (row GD (encLabel) a0.gcell.fLabels)), (11, .arr .rw [] (LEN a0.gcell.fInstances) 8 (row GD (encInstance) a0.gcell.fInstances)), (13, .arr .rw [] (LEN a0.glib.fCells) 4 (row GD (oncCell LEN GD) a0.glib.fCells))])) := ⟨_, rfl⟩
              refine ⟨S364, ?_, ?_⟩
              ·have h := hy361
               clear hy361
               cbv
               refine fork (fun b417 => ?_) (fun b417 => ?_)
               ·replace h := of_br_t b417 h
                cbv
                replace h := of_bind h
                obtain ⟨y367, hy368, h⟩ := h
                refine ⟨{ args := [.c (.ptr 5 0)], o0 := [(5, .var [.v (.string a2), .v (.bool false)])], r := .c (.v (.int .i64 y367.1)), o1 := [(5, .var [.v (.string y367.2.gs), .v (.bool y367.2.gbad)])], fl := true, σ := [(5, 1728)], τ := [(5, 1728)] }, hf_impl_byteReader_two_mPb _ _ hy368, ⟨les_cons (lR _) (les_nil), ⟨rfl, trivial⟩, rfl, rfl, rfl, rfl, ⟨fun _ => rfl, trivial⟩, rfl⟩, ?_⟩
                cbv
                replace h := of_bind h
                obtain ⟨y369, hy370, h⟩ := h
                refine ⟨{ args := [.c (.ptr 5 0)], o0 := [(5, .var [.ptr 7 0]), (7, .var [.v (.string y367.2.gs), .v (.bool y367.2.gbad)])], r := .c (.v (.bool y369.1)), o1 := [(5, .var [.ptr 7 0]), (7, .var [.v (.string y369.2.2.gs), .v (.bool y369.2.2.gbad)])], fl := true, σ := [(5, 576), (7, 1728)], τ := [(5, 576), (7, 1728)] }, hf_impl_streamReader_take_1_mPP _ _ hy370, ⟨les_cons (lR _) (les_nil), ⟨rfl, rfl, trivial⟩, rfl, rfl, rfl, rfl, ⟨fun _ => rfl, fun _ => rfl, trivial⟩, rfl⟩, ?_⟩
                cbv
                refine fork (fun b416 => ?_) (fun b416 => ?_)
                ·replace h := of_br_t b416 h
                 cbv
                 replace h := of_bind h
                 obtain ⟨r389, h390, he391⟩ := h
                 injection he391 with he391
                 subst he391
                 injection hz363 with hz363
                 subst hz363
                 have h := h390
                 replace h := of_bind h
                 obtain ⟨r386, h387, he388⟩ := h
                 injection he388 with he388
                 subst he388
                 injection hz297 with hz297
                 subst hz297
                 have h := h387
                 replace h := of_bind h
                 obtain ⟨r383, h384, he385⟩ := h
                 injection he385 with he385
                 subst he385
                 injection hz205 with hz205
                 subst hz205
                 have h := h384
                 replace h := of_bind h
                 obtain ⟨r380, h381, he382⟩ := h
                 injection he382 with he382
                 subst he382
                 injection hz142 with hz142
                 subst hz142
                 have h := h381
                 replace h := of_bind h
                 obtain ⟨r377, h378, he379⟩ := h
                 injection he379 with he379
                 subst he379
                 injection hz88 with hz88
                 subst hz88
                 have h := h378
                 replace h := of_bind h
                 obtain ⟨r374, h375, he376⟩ := h
                 injection he376 with he376
                 subst he376
                 injection hz45 with hz45
                 subst hz45
                 have h := h375
                 replace h := of_bind h
                 obtain ⟨r371, h372, he373⟩ := h
                 injection he373 with he373
                 subst he373
                 injection hz6 with hz6
                 subst hz6
                 have h := h372
                 injection h with h
                 subst h
                 refine ⟨(sparse 274 [(8, .c (.v (.int .i64 4)))] [(5, .var [.v (.bool a0.gbegun), .v (.bool a0.gdone), .v (.int .i64 a0.gcells), .v (.bool a0.ginside), .v (.string a0.gcell.fName), .os 64000 0 (LEN a0.gcell.fShapes), .os 64002 0 (LEN a0.gcell.fLabels), .os 64004 0 (LEN a0.gcell.fInstances), .os 64006 0 (LEN a0.glib.fCells)]), (64000, .arr .rw [] (LEN a0.gcell.fShapes) 5 (row GD (encShape) a0.gcell.fShapes)), (64002, .arr .rw [] (LEN a0.gcell.fLabels) 4 (row GD (encLabel) a0.gcell.fLabels)), (64004, .arr .rw [] (LEN a0.gcell.fInstances) 8 (row GD (encInstance) a0.gcell.fInstances)), (64006, .arr .rw [] (LEN a0.glib.fCells) 4 (row GD (oncCell LEN GD) a0.glib.fCells))]), ?_, ?_⟩
                 ·refine St.le_trans (le_ren 7 64000 (by decide) rfl) ?_
                  refine St.le_trans (le_ren 9 64002 (by decide) rfl) ?_
                  refine St.le_trans (le_ren 11 64004 (by decide) rfl) ?_
                  refine St.le_trans (le_ren 13 64006 (by decide) rfl) ?_
                  exact le_sparse rfl ⟨lR _, trivial⟩ ⟨rfl, oS, oS, oS, oS, trivial⟩ rfl
                 ·exact ⟨lR _, ⟨oS, oS, oS, oS, rfl, trivial⟩, rfl⟩
                ·replace h := of_br_f b416 h
                 cbv
                 replace h := of_bind h
                 obtain ⟨y392, hy393, h⟩ := h
                 refine ⟨{ args := [.c (.v (.string a3))], o0 := [], r := .c (.v (.int .i64 y392)), o1 := [], fl := true, σ := [], τ := [] }, hf_impl_Checksum16 _ _ hy393, ⟨les_cons (lR _) (les_nil), trivial, rfl, rfl, rfl, rfl, trivial, rfl⟩, ?_⟩
                 cbv
                 refine fork (fun b415 => ?_) (fun b415 => ?_)
                 ·replace h := of_br_t b415 h
                  cbv
                  replace h := of_bind h
                  obtain ⟨r412, h413, he414⟩ := h
                  injection he414 with he414
                  subst he414
                  injection hz363 with hz363
                  subst hz363
                  have h := h413
                  replace h := of_bind h
                  obtain ⟨r409, h410, he411⟩ := h
                  injection he411 with he411
                  subst he411
                  injection hz297 with hz297
                  subst hz297
                  have h := h410
                  replace h := of_bind h
                  obtain ⟨r406, h407, he408⟩ := h
                  injection he408 with he408
                  subst he408
                  injection hz205 with hz205
                  subst hz205
                  have h := h407
                  replace h := of_bind h
                  obtain ⟨r403, h404, he405⟩ := h
                  injection he405 with he405
                  subst he405
                  injection hz142 with hz142
                  subst hz142
                  have h := h404
                  replace h := of_bind h
                  obtain ⟨r400, h401, he402⟩ := h
                  injection he402 with he402
                  subst he402
                  injection hz88 with hz88
                  subst hz88
                  have h := h401
                  replace h := of_bind h
                  obtain ⟨r397, h398, he399⟩ := h
                  injection he399 with he399
                  subst he399
                  injection hz45 with hz45
                  subst hz45
                  have h := h398
                  replace h := of_bind h
                  obtain ⟨r394, h395, he396⟩ := h
                  injection he396 with he396
                  subst he396
                  injection hz6 with hz6
                  subst hz6
                  have h := h395
                  injection h with h
                  subst h
                  refine ⟨(sparse 274 [(8, .c (.v (.int .i64 8)))] [(5, .var [.v (.bool a0.gbegun), .v (.bool a0.gdone), .v (.int .i64 a0.gcells), .v (.bool a0.ginside), .v (.string a0.gcell.fName), .os 64000 0 (LEN a0.gcell.fShapes), .os 64002 0 (LEN a0.gcell.fLabels), .os 64004 0 (LEN a0.gcell.fInstances), .os 64006 0 (LEN a0.glib.fCells)]), (64000, .arr .rw [] (LEN a0.gcell.fShapes) 5 (row GD (encShape) a0.gcell.fShapes)), (64002, .arr .rw [] (LEN a0.gcell.fLabels) 4 (row GD (encLabel) a0.gcell.fLabels)), (64004, .arr .rw [] (LEN a0.gcell.fInstances) 8 (row GD (encInstance) a0.gcell.fInstances)), (64006, .arr .rw [] (LEN a0.glib.fCells) 4 (row GD (oncCell LEN GD) a0.glib.fCells))]), ?_, ?_⟩
                  ·refine St.le_trans (le_ren 7 64000 (by decide) rfl) ?_
                   refine St.le_trans (le_ren 9 64002 (by decide) rfl) ?_
                   refine St.le_trans (le_ren 11 64004 (by decide) rfl) ?_
                   refine St.le_trans (le_ren 13 64006 (by decide) rfl) ?_
                   exact le_sparse rfl ⟨lR _, trivial⟩ ⟨rfl, oS, oS, oS, oS, trivial⟩ rfl
                  ·exact ⟨lR _, ⟨oS, oS, oS, oS, rfl, trivial⟩, rfl⟩
                 ·replace h := of_br_f b415 h
                  cbv
                  injection h with h
                  subst h
                  subst hS365
                  show St.le _ _
                  exact le_sparse rfl trivial ⟨rfl, oS, oS, oS, oS, trivial⟩ rfl
               ·replace h := of_br_f b417 h
                cbv
                injection h with h
                subst h
                subst hS365
                show St.le _ _
                exact le_sparse rfl trivial ⟨rfl, oS, oS, oS, oS, trivial⟩ rfl
              ·clear hy361
               subst hS365
               rcases z362 with _ | y360
               ·trivial
               ·have h := hz363
                clear hz363
                replace h := of_let h
                obtain ⟨w366, hw366, h⟩ := h
                have hw366 : w366 = y360 := hw366
                subst hw366
                cbv
                injection h with h
                subst h
                subst hS299
                show St.le _ _
                refine St.le_trans (le_ren 7 62000 (by decide) rfl) ?_
                refine St.le_trans (le_ren 9 62002 (by decide) rfl) ?_
                refine St.le_trans (le_ren 11 62004 (by decide) rfl) ?_
                refine St.le_trans (le_ren 13 15808 (by decide) rfl) ?_
                exact le_sparse rfl trivial ⟨rfl, oS, oS, oS, oS, trivial⟩ rfl
            ·clear hy295
             subst hS299
             rcases z296 with _ | y294
             ·trivial
             ·have h := hz297
              clear hz297
              obtain ⟨y294_0, y294_1, y294_2, y294_3, y294_4, y294_5, y294_6⟩ := y294
              replace h := of_let h
              obtain ⟨w300, hw300, h⟩ := h
              have hw300 : w300 = y294_0 := hw300
              subst hw300
              replace h := of_let h
              obtain ⟨w301, hw301, h⟩ := h
              have hw301 : w301 = y294_1 := hw301
              subst hw301
              replace h := of_let h
              obtain ⟨w302, hw302, h⟩ := h
              have hw302 : w302 = y294_2 := hw302
              subst hw302
              replace h := of_let h
              obtain ⟨w303, hw303, h⟩ := h
              have hw303 : w303 = y294_3 := hw303
              subst hw303
              replace h := of_let h
              obtain ⟨w304, hw304, h⟩ := h
              have hw304 : w304 = y294_4 := hw304
              subst hw304
              replace h := of_let h
              obtain ⟨w305, hw305, h⟩ := h
              have hw305 : w305 = y294_5 := hw305
              subst hw305
              replace h := of_let h
              obtain ⟨w306, hw306, h⟩ := h
              have hw306 : w306 = y294_6 := hw306
              subst hw306
              cbv
              injection h with h
              subst h
              subst hS207
              show St.le _ _
              refine St.le_trans (le_ren 62004 12544 (by decide) rfl) ?_
              exact le_sparse rfl trivial ⟨rfl, oS, oS, oS, oS, trivial⟩ rfl
          ·clear hy203
           subst hS207
           rcases z204 with _ | y202
           ·trivial
           ·have h := hz205
            clear hz205
            obtain ⟨y202_0, y202_1, y202_2, y202_3, y202_4, y202_5, y202_6⟩ := y202
            replace h := of_let h
            obtain ⟨w208, hw208, h⟩ := h
            have hw208 : w208 = y202_0 := hw208
            subst hw208
            replace h := of_let h
            obtain ⟨w209, hw209, h⟩ := h
            have hw209 : w209 = y202_1 := hw209
            subst hw209
            replace h := of_let h
            obtain ⟨w210, hw210, h⟩ := h
            have hw210 : w210 = y202_2 := hw210
            subst hw210
            replace h := of_let h
            obtain ⟨w211, hw211, h⟩ := h
            have hw211 : w211 = y202_3 := hw211
            subst hw211
            replace h := of_let h
            obtain ⟨w212, hw212, h⟩ := h
            have hw212 : w212 = y202_4 := hw212
            subst hw212
            replace h := of_let h
            obtain ⟨w213, hw213, h⟩ := h
            have hw213 : w213 = y202_5 := hw213
            subst hw213
            replace h := of_let h
            obtain ⟨w214, hw214, h⟩ := h
            have hw214 : w214 = y202_6 := hw214
            subst hw214
            cbv
            injection h with h
            subst h
            subst hS144
            show St.le _ _
            refine St.le_trans (le_ren 62002 9600 (by decide) rfl) ?_
            exact le_sparse rfl trivial ⟨rfl, oS, oS, oS, oS, trivial⟩ rfl
        ·clear hy140
         subst hS144
         rcases z141 with _ | y139
         ·trivial
         ·have h := hz142
          clear hz142
          obtain ⟨y139_0, y139_1, y139_2, y139_3, y139_4, y139_5, y139_6⟩ := y139
          replace h := of_let h
          obtain ⟨w145, hw145, h⟩ := h
          have hw145 : w145 = y139_0 := hw145
          subst hw145
          replace h := of_let h
          obtain ⟨w146, hw146, h⟩ := h
          have hw146 : w146 = y139_1 := hw146
          subst hw146
          replace h := of_let h
          obtain ⟨w147, hw147, h⟩ := h
          have hw147 : w147 = y139_2 := hw147
          subst hw147
          replace h := of_let h
          obtain ⟨w148, hw148, h⟩ := h
          have hw148 : w148 = y139_3 := hw148
          subst hw148
          replace h := of_let h
          obtain ⟨w149, hw149, h⟩ := h
          have hw149 : w149 = y139_4 := hw149
          subst hw149
          replace h := of_let h
          obtain ⟨w150, hw150, h⟩ := h
          have hw150 : w150 = y139_5 := hw150
          subst hw150
          replace h := of_let h
          obtain ⟨w151, hw151, h⟩ := h
          have hw151 : w151 = y139_6 := hw151
          subst hw151
          cbv
          injection h with h
          subst h
          subst hS90
          show St.le _ _
          refine St.le_trans (le_ren 62000 7552 (by decide) rfl) ?_
          exact le_sparse rfl trivial ⟨rfl, oS, oS, oS, oS, trivial⟩ rfl
      ·clear hy86
       subst hS90
       rcases z87 with _ | y85
       ·trivial
       ·have h := hz88
        clear hz88
        obtain ⟨y85_0, y85_1, y85_2, y85_3, y85_4, y85_5, y85_6⟩ := y85
        replace h := of_let h
        obtain ⟨w91, hw91, h⟩ := h
        have hw91 : w91 = y85_0 := hw91
        subst hw91
        replace h := of_let h
        obtain ⟨w92, hw92, h⟩ := h
        have hw92 : w92 = y85_1 := hw92
        subst hw92
        replace h := of_let h
        obtain ⟨w93, hw93, h⟩ := h
        have hw93 : w93 = y85_2 := hw93
        subst hw93
        replace h := of_let h
        obtain ⟨w94, hw94, h⟩ := h
        have hw94 : w94 = y85_3 := hw94
        subst hw94
        replace h := of_let h
        obtain ⟨w95, hw95, h⟩ := h
        have hw95 : w95 = y85_4 := hw95
        subst hw95
        replace h := of_let h
        obtain ⟨w96, hw96, h⟩ := h
        have hw96 : w96 = y85_5 := hw96
        subst hw96
        replace h := of_let h
        obtain ⟨w97, hw97, h⟩ := h
        have hw97 : w97 = y85_6 := hw97
        subst hw97
        cbv
        injection h with h
        subst h
        subst hS47
        show St.le _ _
        exact le_sparse rfl trivial ⟨rfl, oS, oS, oS, oS, trivial⟩ rfl
    ·clear hy43
     subst hS47
     rcases z44 with _ | y42
     ·trivial
     ·have h := hz45
      clear hz45
      obtain ⟨y42_0, y42_1, y42_2, y42_3, y42_4, y42_5, y42_6⟩ := y42
      replace h := of_let h
      obtain ⟨w48, hw48, h⟩ := h
      have hw48 : w48 = y42_0 := hw48
      subst hw48
      replace h := of_let h
      obtain ⟨w49, hw49, h⟩ := h
      have hw49 : w49 = y42_1 := hw49
      subst hw49
      replace h := of_let h
      obtain ⟨w50, hw50, h⟩ := h
      have hw50 : w50 = y42_2 := hw50
      subst hw50
      replace h := of_let h
      obtain ⟨w51, hw51, h⟩ := h
      have hw51 : w51 = y42_3 := hw51
      subst hw51
      replace h := of_let h
      obtain ⟨w52, hw52, h⟩ := h
      have hw52 : w52 = y42_4 := hw52
      subst hw52
      replace h := of_let h
      obtain ⟨w53, hw53, h⟩ := h
      have hw53 : w53 = y42_5 := hw53
      subst hw53
      replace h := of_let h
      obtain ⟨w54, hw54, h⟩ := h
      have hw54 : w54 = y42_6 := hw54
      subst hw54
      cbv
      injection h with h
      subst h
      subst hS8
      show St.le _ _
      exact le_sparse rfl trivial ⟨rfl, oS, oS, oS, oS, trivial⟩ rfl
  ·clear hy4
   subst hS8
   rcases z5 with _ | y3
   ·trivial
   ·have h := hz6
    clear hz6
    obtain ⟨y3_0, y3_1, y3_2, y3_3, y3_4, y3_5, y3_6, y3_7, y3_8⟩ := y3
    replace h := of_let h
    obtain ⟨w9, hw9, h⟩ := h
    have hw9 : w9 = y3_0 := hw9
    subst hw9
    replace h := of_let h
    obtain ⟨w10, hw10, h⟩ := h
    have hw10 : w10 = y3_1 := hw10
    subst hw10
    replace h := of_let h
    obtain ⟨w11, hw11, h⟩ := h
    have hw11 : w11 = y3_2 := hw11
    subst hw11
    replace h := of_let h
    obtain ⟨w12, hw12, h⟩ := h
    have hw12 : w12 = y3_3 := hw12
    subst hw12
    replace h := of_let h
    obtain ⟨w13, hw13, h⟩ := h
    have hw13 : w13 = y3_4 := hw13
    subst hw13
    replace h := of_let h
    obtain ⟨w14, hw14, h⟩ := h
    have hw14 : w14 = y3_5 := hw14
    subst hw14
    replace h := of_let h
    obtain ⟨w15, hw15, h⟩ := h
    have hw15 : w15 = y3_6 := hw15
    subst hw15
    replace h := of_let h
    obtain ⟨w16, hw16, h⟩ := h
    have hw16 : w16 = y3_7 := hw16
    subst hw16
    replace h := of_let h
    obtain ⟨w17, hw17, h⟩ := h
    have hw17 : w17 = y3_8 := hw17
    subst hw17
    cbv
    injection h with h
    subst h
    refine ⟨(sparse 274 [(8, .c (.v (.int .i64 0)))] [(5, .var [.v (.bool w9), .v (.bool w15), .v (.int .i64 w10), .v (.bool w16), .v (.string w17), .os 64000 0 (LEN w11), .os 64002 0 (LEN w12), .os 64004 0 (LEN w13), .os 64006 0 (LEN w14)]), (64000, .arr .rw [] (LEN w11) 5 (row GD (encShape) w11)), (64002, .arr .rw [] (LEN w12) 4 (row GD (encLabel) w12)), (64004, .arr .rw [] (LEN w13) 8 (row GD (encInstance) w13)), (64006, .arr .rw [] (LEN w14) 4 (row GD (oncCell LEN GD) w14))]), ?_, ?_⟩
    ·refine St.le_trans (le_ren 7552 64000 (by decide) rfl) ?_
     refine St.le_trans (le_ren 9600 64002 (by decide) rfl) ?_
     refine St.le_trans (le_ren 12544 64004 (by decide) rfl) ?_
     refine St.le_trans (le_ren 15808 64006 (by decide) rfl) ?_
     exact le_sparse rfl ⟨lR _, trivial⟩ ⟨rfl, oS, oS, oS, oS, trivial⟩ rfl
    ·exact ⟨lR _, ⟨oS, oS, oS, oS, rfl, trivial⟩, rfl⟩

noncomputable def L_impl_readStream_x11 (a0 : ByteArray) : (Int × Bool × Bool × Int × Bool × ByteArray × (List TShape) × (List TLabel) × (List TInstance) × (List TCell)) → Option ((Int × Bool × Bool × Int × Bool × ByteArray × (List TShape) × (List TLabel) × (List TInstance) × (List TCell)) ⊕ ((Int × Int × (List TCell)) ⊕ (Int × Bool × Bool × Int × Bool × ByteArray × (List TShape) × (List TLabel) × (List TInstance) × (List TCell)))) := fun x11 =>
 letO x11.1 fun v1 =>
 letO x11.2.1 fun v2 =>
 letO x11.2.2.1 fun v3 =>
 letO x11.2.2.2.1 fun v4 =>
 letO x11.2.2.2.2.1 fun v5 =>
 letO x11.2.2.2.2.2.1 fun v6 =>
 letO x11.2.2.2.2.2.2.1 fun v7 =>
 letO x11.2.2.2.2.2.2.2.1 fun v8 =>
 letO x11.2.2.2.2.2.2.2.2.1 fun v9 =>
 letO x11.2.2.2.2.2.2.2.2.2 fun v10 =>
 br (!(v3))
 ((F_impl_SplitRecord a0 v1).bind fun y23 =>
 ((
    br (std.eq y23.2.2.2 0)
    (req (std.upTo v1 (std.slen a0)) <|
    (F_impl_streamReader_take_mPoooobbb (TstreamReader.mk v2 v3 v4 v5 (TCell.mk v6 v7 v8 v9) (TLibrary.mk v10)) y23.1 y23.2.1 (std.ssub a0 0 (std.toN v1))).bind fun y42 =>
    some (y42.1, y42.2.gbegun, y42.2.gdone, y42.2.gcells, y42.2.ginside, y42.2.gcell.fName, y42.2.gcell.fShapes, y42.2.gcell.fLabels, y42.2.gcell.fInstances, y42.2.glib.fCells))
    (some (y23.2.2.2, v2, v3, v4, v5, v6, v7, v8, v9, v10))
  ) : Option (Int × Bool × Bool × Int × Bool × ByteArray × (List TShape) × (List TLabel) × (List TInstance) × (List TCell))).bind fun y25 =>
 letO y25.1 fun w31 =>
 letO y25.2.1 fun w32 =>
 letO y25.2.2.1 fun w33 =>
 letO y25.2.2.2.1 fun w34 =>
 letO y25.2.2.2.2.1 fun w35 =>
 letO y25.2.2.2.2.2.1 fun w36 =>
 letO y25.2.2.2.2.2.2.1 fun w37 =>
 letO y25.2.2.2.2.2.2.2.1 fun w38 =>
 letO y25.2.2.2.2.2.2.2.2.1 fun w39 =>
 letO y25.2.2.2.2.2.2.2.2.2 fun w40 =>
 br (std.not (std.eq w31 0))
 (some (.inr (.inl (w31, v1, w40))))
 (some (.inl (y23.2.2.1, w32, w33, w34, w35, w36, w37, w38, w39, w40))))
 (some (.inr (.inr (v1, v2, v3, v4, v5, v6, v7, v8, v9, v10))))
/-- impl.readStream -/
noncomputable def F_impl_readStream (a0 : ByteArray) : Option (TLibrary × Int × Int) :=
 (whileP (σ := Int × Bool × Bool × Int × Bool × ByteArray × (List TShape) × (List TLabel) × (List TInstance) × (List TCell)) (ρ := (Int × Int × (List TCell)) ⊕ (Int × Bool × Bool × Int × Bool × ByteArray × (List TShape) × (List TLabel) × (List TInstance) × (List TCell))) (L_impl_readStream_x11 a0) (0, false, false, 0, false, (ByteArray.mk #[]), ([] : List TShape), ([] : List TLabel), ([] : List TInstance), ([] : List TCell))).bind fun y12 =>
 (match y12 with
  | .inl y12k0 => (
    letO y12k0.1 fun w47 =>
    letO y12k0.2.1 fun w48 =>
    letO y12k0.2.2 fun w49 =>
    some ((TLibrary.mk w49), w47, w48))
  | .inr y12m0 =>
    letO y12m0 fun y12k1 =>
    letO y12k1.1 fun w50 =>
    letO y12k1.2.1 fun w51 =>
    letO y12k1.2.2.1 fun w52 =>
    letO y12k1.2.2.2.1 fun w53 =>
    letO y12k1.2.2.2.2.1 fun w54 =>
    letO y12k1.2.2.2.2.2.1 fun w55 =>
    letO y12k1.2.2.2.2.2.2.1 fun w56 =>
    letO y12k1.2.2.2.2.2.2.2.1 fun w57 =>
    letO y12k1.2.2.2.2.2.2.2.2.1 fun w58 =>
    letO y12k1.2.2.2.2.2.2.2.2.2 fun w59 =>
    br (std.lt w50 (std.ofN (std.slen a0)))
    (some ((TLibrary.mk w59), (4 : Int), w50))
    (some ((TLibrary.mk w59), (0 : Int), w50)))
set_option maxHeartbeats 4000000 in
theorem run_impl_readStream (a0 : ByteArray) (r : TLibrary × Int × Int) (h : F_impl_readStream a0 = some r) : Fun Try.prog 98 [.c (.v (.string a0))] [] (.tup [.agg [.os 64000 0 (len r.1.fCells)], .c (.v (.int .i64 r.2.1)), .c (.v (.int .i64 r.2.2))]) [(64000, .arr .rw [] (len r.1.fCells) 4 (row gd (oncCell len gd) r.1.fCells))] true := by
 refine Fun.of_wp (oneOf [100027]) tok mixed Try.func98 (by kernel_rfl) rfl Try.ntmps98 rfl trivial (fun _ => ⟨(by simp [AV.flat, AV.flat1, AC.flat]), ⟨fun i _ j _ => fl_oncCell _ _, trivial⟩⟩) ?_
 unfold F_impl_readStream at h
 unfold L_impl_readStream_x11 at h
 have hf_impl_SplitRecord := @run_impl_SplitRecord
 have hf_impl_streamReader_take_mPoooobbb := @run_impl_streamReader_take_mPoooobbb
 generalize hLEN : @len = LEN at *
 generalize hGD : @gd = GD at *
 generalize hA : std = A at *
 generalize hP : Try.prog = P at *
 cbv
 replace h := of_bind h
 obtain ⟨y12, hr13, hN14⟩ := h
 refine loop_cut hr13 (fun x => (sparse 58 [(0, .c (.v (.string a0))), (2, .c (.ptr 128 0)), (5, .c (.ptr 768 0)), (6, .c (.v (.int .i64 x.1)))] [(128, .var [.v (.slice none 0 0)]), (768, .var [.v (.bool x.2.1), .v (.bool x.2.2.1), .v (.int .i64 x.2.2.2.1), .v (.bool x.2.2.2.2.1), .v (.string x.2.2.2.2.2.1), .os 2176 0 (LEN x.2.2.2.2.2.2.1), .os 2178 0 (LEN x.2.2.2.2.2.2.2.1), .os 2180 0 (LEN x.2.2.2.2.2.2.2.2.1), .os 2182 0 (LEN x.2.2.2.2.2.2.2.2.2)]), (2176, .arr .rw [] (LEN x.2.2.2.2.2.2.1) 5 (row GD (encShape) x.2.2.2.2.2.2.1)), (2178, .arr .rw [] (LEN x.2.2.2.2.2.2.2.1) 4 (row GD (encLabel) x.2.2.2.2.2.2.2.1)), (2180, .arr .rw [] (LEN x.2.2.2.2.2.2.2.2.1) 8 (row GD (encInstance) x.2.2.2.2.2.2.2.2.1)), (2182, .arr .rw [] (LEN x.2.2.2.2.2.2.2.2.2) 4 (row GD (oncCell LEN GD) x.2.2.2.2.2.2.2.2.2))])) ?_ (fun y e s => (match y with | .inl w => e = .ret ∧ s.le (sparse 58 [(2, .c (.ptr 128 0)), (3, .c (.v (.int .i64 w.1))), (4, .c (.v (.int .i64 w.2.1)))] [(128, .var [.os 2182 0 (LEN w.2.2)]), (2182, .arr .rw [] (LEN w.2.2) 4 (row GD (oncCell LEN GD) w.2.2))]) | .inr w0 => (fun (w : Int × Bool × Bool × Int × Bool × ByteArray × (List TShape) × (List TLabel) × (List TInstance) × (List TCell)) => e = .exit 0 ∧ s.le (sparse 58 [(0, .c (.v (.string a0))), (2, .c (.ptr 128 0)), (5, .c (.ptr 768 0)), (6, .c (.v (.int .i64 w.1)))] [(128, .var [.v (.slice none 0 0)]), (768, .var [.v (.bool w.2.1), .v (.bool w.2.2.1), .v (.int .i64 w.2.2.2.1), .v (.bool w.2.2.2.2.1), .v (.string w.2.2.2.2.2.1), .os 2176 0 (LEN w.2.2.2.2.2.2.1), .os 2178 0 (LEN w.2.2.2.2.2.2.2.1), .os 2180 0 (LEN w.2.2.2.2.2.2.2.2.1), .os 2182 0 (LEN w.2.2.2.2.2.2.2.2.2)]), (2176, .arr .rw [] (LEN w.2.2.2.2.2.2.1) 5 (row GD (encShape) w.2.2.2.2.2.2.1)), (2178, .arr .rw [] (LEN w.2.2.2.2.2.2.2.1) 4 (row GD (encLabel) w.2.2.2.2.2.2.2.1)), (2180, .arr .rw [] (LEN w.2.2.2.2.2.2.2.2.1) 8 (row GD (encInstance) w.2.2.2.2.2.2.2.2.1)), (2182, .arr .rw [] (LEN w.2.2.2.2.2.2.2.2.2) 4 (row GD (oncCell LEN GD) w.2.2.2.2.2.2.2.2.2))])) w0)) ?_ ?_
 ·clear hr13 hN14
  show St.le _ _
  refine St.le_trans (le_nilV 768 5 2176 5 (row GD (encShape) ([] : List TShape)) (by decide) (by decide) rfl rfl) ?_
  refine St.le_trans (le_nilV 768 6 2178 4 (row GD (encLabel) ([] : List TLabel)) (by decide) (by decide) rfl rfl) ?_
  refine St.le_trans (le_nilV 768 7 2180 8 (row GD (encInstance) ([] : List TInstance)) (by decide) (by decide) rfl rfl) ?_
  refine St.le_trans (le_nilV 768 8 2182 4 (row GD (oncCell LEN GD) ([] : List TCell)) (by decide) (by decide) rfl rfl) ?_
  subst hLEN
  exact le_sparse rfl ⟨lR _, lR _, lR _, lR _, trivial⟩ ⟨rfl, rfl, oS, oS, oS, oS, trivial⟩ rfl
 ·clear hr13 hN14
  intro x z18 h K16 hK17 hY15
  obtain ⟨x0_, x1_, x2_, x3_, x4_, x5_, x6_, x7_, x8_, x9_⟩ := x
  replace h := of_let h
  obtain ⟨v1, hv1, h⟩ := h
  have hv1 : v1 = x0_ := hv1
  subst hv1
  replace h := of_let h
  obtain ⟨v2, hv2, h⟩ := h
  have hv2 : v2 = x1_ := hv2
  subst hv2
  replace h := of_let h
  obtain ⟨v3, hv3, h⟩ := h
  have hv3 : v3 = x2_ := hv3
  subst hv3
  replace h := of_let h
  obtain ⟨v4, hv4, h⟩ := h
  have hv4 : v4 = x3_ := hv4
  subst hv4
  replace h := of_let h
  obtain ⟨v5, hv5, h⟩ := h
  have hv5 : v5 = x4_ := hv5
  subst hv5
  replace h := of_let h
  obtain ⟨v6, hv6, h⟩ := h
  have hv6 : v6 = x5_ := hv6
  subst hv6
  replace h := of_let h
  obtain ⟨v7, hv7, h⟩ := h
  have hv7 : v7 = x6_ := hv7
  subst hv7
  replace h := of_let h
  obtain ⟨v8, hv8, h⟩ := h
  have hv8 : v8 = x7_ := hv8
  subst hv8
  replace h := of_let h
  obtain ⟨v9, hv9, h⟩ := h
  have hv9 : v9 = x8_ := hv9
  subst hv9
  replace h := of_let h
  obtain ⟨v10, hv10, h⟩ := h
  have hv10 : v10 = x9_ := hv10
  subst hv10
  cbv
  refine fork (fun b46 => ?_) (fun b46 => ?_)
  ·replace h := of_br_t b46 h
   cbv
   replace h := of_bind h
   obtain ⟨y23, hy24, h⟩ := h
   refine ⟨{ args := [.c (.v (.string a0)), .c (.v (.int .i64 v1))], o0 := [], r := .tup [.c (.v (.int .i64 y23.1)), .c (.v (.string y23.2.1)), .c (.v (.int .i64 y23.2.2.1)), .c (.v (.int .i64 y23.2.2.2))], o1 := [], fl := true, σ := [], τ := [] }, hf_impl_SplitRecord _ _ _ hy24, ⟨les_cons (lR _) (les_cons (lR _) (les_nil)), trivial, rfl, rfl, rfl, rfl, trivial, rfl⟩, ?_⟩
   cbv
   replace h := of_bind h
   obtain ⟨y25, hy26, h⟩ := h
   obtain ⟨S29, hS30⟩ : ∃ S, S = some (sparse 58 [(0, .c (.v (.string a0))), (2, .c (.ptr 128 0)), (5, .c (.ptr 768 0)), (6, .c (.v (.int .i64 v1))), (9, .c (.v (.int .i64 y23.2.2.1))), (10, .c (.v (.int .i64 y25.1)))] [(128, .var [.v (.slice none 0 0)]), (768, .var [.v (.bool y25.2.1), .v (.bool y25.2.2.1), .v (.int .i64 y25.2.2.2.1), .v (.bool y25.2.2.2.2.1), .v (.string y25.2.2.2.2.2.1), .os 2176 0 (LEN y25.2.2.2.2.2.2.1), .os 2178 0 (LEN y25.2.2.2.2.2.2.2.1), .os 2180 0 (LEN y25.2.2.2.2.2.2.2.2.1), .os 2182 0 (LEN y25.2.2.2.2.2.2.2.2.2)]), (2176, .arr .rw [] (LEN y25.2.2.2.2.2.2.1) 5 (row GD (encShape) y25.2.2.2.2.2.2.1)), (2178, .arr .rw [] (LEN y25.2.2.2.2.2.2.2.1) 4 (row GD (encLabel) y25.2.2.2.2.2.2.2.1)), (2180, .arr .rw [] (LEN y25.2.2.2.2.2.2.2.2.1) 8 (row GD (encInstance) y25.2.2.2.2.2.2.2.2.1)), (2182, .arr .rw [] (LEN y25.2.2.2.2.2.2.2.2.2) 4 (row GD (oncCell LEN GD) y25.2.2.2.2.2.2.2.2.2))]) := ⟨_, rfl⟩
   refine ⟨S29, ?_, ?_⟩
   ·clear h
    have h := hy26
    clear hy26
    cbv
    refine fork (fun b44 => ?_) (fun b44 => ?_)
    ·replace h := of_br_t b44 h
     cbv
     replace h := of_req h
     obtain ⟨c41, h⟩ := h
     refine ⟨c41, ?_⟩
     replace h := of_bind h
     obtain ⟨y42, hy43, h⟩ := h
     refine ⟨{ args := [.c (.ptr 5 0), .c (.v (.int .i64 y23.1)), .c (.v (.string y23.2.1)), .c (.v (.string (A.ssub a0 0 (A.toN v1))))], o0 := [(5, .var [.v (.bool v2), .v (.bool v3), .v (.int .i64 v4), .v (.bool v5), .v (.string v6), .os 7 0 (LEN v7), .os 9 0 (LEN v8), .os 11 0 (LEN v9), .os 13 0 (LEN v10)]), (7, .arr .rw [] (LEN v7) 5 (row GD (encShape) v7)), (9, .arr .rw [] (LEN v8) 4 (row GD (encLabel) v8)), (11, .arr .rw [] (LEN v9) 8 (row GD (encInstance) v9)), (13, .arr .rw [] (LEN v10) 4 (row GD (oncCell LEN GD) v10))], r := .c (.v (.int .i64 y42.1)), o1 := [(64000, .arr .rw [] (LEN y42.2.gcell.fShapes) 5 (row GD (encShape) y42.2.gcell.fShapes)), (64002, .arr .rw [] (LEN y42.2.gcell.fLabels) 4 (row GD (encLabel) y42.2.gcell.fLabels)), (64004, .arr .rw [] (LEN y42.2.gcell.fInstances) 8 (row GD (encInstance) y42.2.gcell.fInstances)), (64006, .arr .rw [] (LEN y42.2.glib.fCells) 4 (row GD (oncCell LEN GD) y42.2.glib.fCells)), (5, .var [.v (.bool y42.2.gbegun), .v (.bool y42.2.gdone), .v (.int .i64 y42.2.gcells), .v (.bool y42.2.ginside), .v (.string y42.2.gcell.fName), .os 64000 0 (LEN y42.2.gcell.fShapes), .os 64002 0 (LEN y42.2.gcell.fLabels), .os 64004 0 (LEN y42.2.gcell.fInstances), .os 64006 0 (LEN y42.2.glib.fCells)])], fl := true, σ := [(5, 768), (7, 2176), (9, 2178), (11, 2180), (13, 2182)], τ := [(64000, 2176), (64002, 2178), (64004, 2180), (64006, 2182), (5, 768)] }, hf_impl_streamReader_take_mPoooobbb _ _ _ _ _ hy43, ⟨les_cons (lR _) (les_cons (lR _) (les_cons (lR _) (les_cons (lR _) (les_nil)))), ⟨rfl, oS, oS, oS, oS, trivial⟩, rfl, rfl, rfl, rfl, ⟨fun h => absurd (show (64000 : Nat) % 2 = 1 from h) (by decide), fun h => absurd (show (64002 : Nat) % 2 = 1 from h) (by decide), fun h => absurd (show (64004 : Nat) % 2 = 1 from h) (by decide), fun h => absurd (show (64006 : Nat) % 2 = 1 from h) (by decide), fun _ => rfl, trivial⟩, rfl⟩, _, rfl, _, _, rfl, fun _ _ _ _ => .refl _, _, _, rfl, fun _ _ _ _ => .refl _, _, _, rfl, fun _ _ _ _ => .refl _, _, _, rfl, fun _ _ _ _ => .refl _, ?_⟩
     cbv
     injection h with h
     subst h
     subst hS30
     show St.le _ _
     exact le_sparse rfl ⟨lR _, lR _, lR _, lR _, lR _, lR _, trivial⟩ ⟨rfl, rfl, oS, oS, oS, oS, trivial⟩ rfl
    ·replace h := of_br_f b44 h
     cbv
     injection h with h
     subst h
     subst hS30
     show St.le _ _
     exact le_sparse rfl ⟨lR _, lR _, lR _, lR _, lR _, lR _, trivial⟩ ⟨rfl, rfl, oS, oS, oS, oS, trivial⟩ rfl
   ·clear hy26
    subst hS30
    obtain ⟨y25_0, y25_1, y25_2, y25_3, y25_4, y25_5, y25_6, y25_7, y25_8, y25_9⟩ := y25
    replace h := of_let h
    obtain ⟨w31, hw31, h⟩ := h
    have hw31 : w31 = y25_0 := hw31
    subst hw31
    replace h := of_let h
    obtain ⟨w32, hw32, h⟩ := h
    have hw32 : w32 = y25_1 := hw32
    subst hw32
    replace h := of_let h
    obtain ⟨w33, hw33, h⟩ := h
    have hw33 : w33 = y25_2 := hw33
    subst hw33
    replace h := of_let h
    obtain ⟨w34, hw34, h⟩ := h
    have hw34 : w34 = y25_3 := hw34
    subst hw34
    replace h := of_let h
    obtain ⟨w35, hw35, h⟩ := h
    have hw35 : w35 = y25_4 := hw35
    subst hw35
    replace h := of_let h
    obtain ⟨w36, hw36, h⟩ := h
    have hw36 : w36 = y25_5 := hw36
    subst hw36
    replace h := of_let h
    obtain ⟨w37, hw37, h⟩ := h
    have hw37 : w37 = y25_6 := hw37
    subst hw37
    replace h := of_let h
    obtain ⟨w38, hw38, h⟩ := h
    have hw38 : w38 = y25_7 := hw38
    subst hw38
    replace h := of_let h
    obtain ⟨w39, hw39, h⟩ := h
    have hw39 : w39 = y25_8 := hw39
    subst hw39
    replace h := of_let h
    obtain ⟨w40, hw40, h⟩ := h
    have hw40 : w40 = y25_9 := hw40
    subst hw40
    cbv
    refine fork (fun b45 => ?_) (fun b45 => ?_)
    ·replace h := of_br_t b45 h
     cbv
     injection h with h
     refine hY15 _ h.symm _ _ (And.intro rfl ?_) (by intro hh; cases hh)
     exact le_sparse rfl ⟨lR _, lR _, lR _, trivial⟩ ⟨rfl, oS, trivial⟩ rfl
    ·replace h := of_br_f b45 h
     cbv
     injection h with h
     refine hK17 _ h.symm _ ?_
     exact le_sparse rfl ⟨lR _, lR _, lR _, lR _, trivial⟩ ⟨rfl, rfl, oS, oS, oS, oS, trivial⟩ rfl
  ·replace h := of_br_f b46 h
   cbv
   injection h with h
   refine hY15 _ h.symm _ _ (And.intro rfl ?_) (by intro hh; cases hh)
   exact le_sparse rfl ⟨lR _, lR _, lR _, lR _, trivial⟩ ⟨rfl, rfl, oS, oS, oS, oS, trivial⟩ rfl
 ·clear hr13
  have h := hN14
  clear hN14
  intro e21 s22 q20 hne
  rcases y12 with y12k0 | y12m0
  ·replace h := h
   obtain ⟨rfl, q20⟩ := q20
   obtain ⟨y12k0_0, y12k0_1, y12k0_2⟩ := y12k0
   replace h := of_let h
   obtain ⟨w47, hw47, h⟩ := h
   have hw47 : w47 = y12k0_0 := hw47
   subst hw47
   replace h := of_let h
   obtain ⟨w48, hw48, h⟩ := h
   have hw48 : w48 = y12k0_1 := hw48
   subst hw48
   replace h := of_let h
   obtain ⟨w49, hw49, h⟩ := h
   have hw49 : w49 = y12k0_2 := hw49
   subst hw49
   cbv
   injection h with h
   subst h
   refine ⟨(sparse 58 [(2, .c (.ptr 128 0)), (3, .c (.v (.int .i64 w47))), (4, .c (.v (.int .i64 w48)))] [(128, .var [.os 64000 0 (LEN w49)]), (64000, .arr .rw [] (LEN w49) 4 (row GD (oncCell LEN GD) w49))]), ?_, ?_⟩
   ·refine St.le_trans q20 ?_
    refine St.le_trans (le_ren 2182 64000 (by decide) rfl) ?_
    exact le_sparse rfl ⟨lR _, lR _, lR _, trivial⟩ ⟨rfl, oS, trivial⟩ rfl
   ·exact ⟨lR _, ⟨oS, trivial⟩, rfl⟩
  ·replace h := of_let h
   obtain ⟨y12k1, hyk, h⟩ := h
   have hyk : y12k1 = y12m0 := hyk
   subst hyk
   obtain ⟨rfl, q20⟩ := q20
   obtain ⟨y12k1_0, y12k1_1, y12k1_2, y12k1_3, y12k1_4, y12k1_5, y12k1_6, y12k1_7, y12k1_8, y12k1_9⟩ := y12k1
   replace h := of_let h
   obtain ⟨w50, hw50, h⟩ := h
   have hw50 : w50 = y12k1_0 := hw50
   subst hw50
   replace h := of_let h
   obtain ⟨w51, hw51, h⟩ := h
   have hw51 : w51 = y12k1_1 := hw51
   subst hw51
   replace h := of_let h
   obtain ⟨w52, hw52, h⟩ := h
   have hw52 : w52 = y12k1_2 := hw52
   subst hw52
   replace h := of_let h
   obtain ⟨w53, hw53, h⟩ := h
   have hw53 : w53 = y12k1_3 := hw53
   subst hw53
   replace h := of_let h
   obtain ⟨w54, hw54, h⟩ := h
   have hw54 : w54 = y12k1_4 := hw54
   subst hw54
   replace h := of_let h
   obtain ⟨w55, hw55, h⟩ := h
   have hw55 : w55 = y12k1_5 := hw55
   subst hw55
   replace h := of_let h
   obtain ⟨w56, hw56, h⟩ := h
   have hw56 : w56 = y12k1_6 := hw56
   subst hw56
   replace h := of_let h
   obtain ⟨w57, hw57, h⟩ := h
   have hw57 : w57 = y12k1_7 := hw57
   subst hw57
   replace h := of_let h
   obtain ⟨w58, hw58, h⟩ := h
   have hw58 : w58 = y12k1_8 := hw58
   subst hw58
   replace h := of_let h
   obtain ⟨w59, hw59, h⟩ := h
   have hw59 : w59 = y12k1_9 := hw59
   subst hw59
   cbv
   refine ⟨_, q20, ?_⟩
   cbv
   refine fork (fun b60 => ?_) (fun b60 => ?_)
   ·replace h := of_br_t b60 h
    cbv
    injection h with h
    subst h
    refine ⟨(sparse 58 [(2, .c (.ptr 128 0)), (3, .c (.v (.int .i64 4))), (4, .c (.v (.int .i64 w50)))] [(128, .var [.os 64000 0 (LEN w59)]), (64000, .arr .rw [] (LEN w59) 4 (row GD (oncCell LEN GD) w59))]), ?_, ?_⟩
    ·refine St.le_trans (le_ren 2182 64000 (by decide) rfl) ?_
     exact le_sparse rfl ⟨lR _, lR _, lR _, trivial⟩ ⟨rfl, oS, trivial⟩ rfl
    ·exact ⟨lR _, ⟨oS, trivial⟩, rfl⟩
   ·replace h := of_br_f b60 h
    cbv
    injection h with h
    subst h
    refine ⟨(sparse 58 [(2, .c (.ptr 128 0)), (3, .c (.v (.int .i64 0))), (4, .c (.v (.int .i64 w50)))] [(128, .var [.os 64000 0 (LEN w59)]), (64000, .arr .rw [] (LEN w59) 4 (row GD (oncCell LEN GD) w59))]), ?_, ?_⟩
    ·refine St.le_trans (le_ren 2182 64000 (by decide) rfl) ?_
     exact le_sparse rfl ⟨lR _, lR _, lR _, trivial⟩ ⟨rfl, oS, trivial⟩ rfl
    ·exact ⟨lR _, ⟨oS, trivial⟩, rfl⟩

/-- impl.SalvageStream -/
noncomputable def F_impl_SalvageStream (a0 : ByteArray) : Option (TLibrary × Int) :=
 (F_impl_readStream a0).bind fun y1 =>
 some (y1.1, std.ofN (len y1.1.fCells))
set_option maxHeartbeats 4000000 in
theorem run_impl_SalvageStream (a0 : ByteArray) (r : TLibrary × Int) (h : F_impl_SalvageStream a0 = some r) : Fun Try.prog 45 [.c (.v (.string a0))] [] (.tup [.agg [.os 64000 0 (len r.1.fCells)], .c (.v (.int .i64 r.2))]) [(64000, .arr .rw [] (len r.1.fCells) 4 (row gd (oncCell len gd) r.1.fCells))] true := by
 refine Fun.of_wp (oneOf []) tok mixed Try.func45 (by kernel_rfl) rfl Try.ntmps45 rfl trivial (fun _ => ⟨(by simp [AV.flat, AV.flat1, AC.flat]), ⟨fun i _ j _ => fl_oncCell _ _, trivial⟩⟩) ?_
 unfold F_impl_SalvageStream at h
 have hf_impl_readStream := @run_impl_readStream
 generalize hLEN : @len = LEN at *
 generalize hGD : @gd = GD at *
 generalize hA : std = A at *
 generalize hP : Try.prog = P at *
 cbv
 replace h := of_bind h
 obtain ⟨y1, hy2, h⟩ := h
 refine ⟨{ args := [.c (.v (.string a0))], o0 := [], r := .tup [.agg [.os 64000 0 (LEN y1.1.fCells)], .c (.v (.int .i64 y1.2.1)), .c (.v (.int .i64 y1.2.2))], o1 := [(64000, .arr .rw [] (LEN y1.1.fCells) 4 (row GD (oncCell LEN GD) y1.1.fCells))], fl := true, σ := [], τ := [(64000, 576)] }, hf_impl_readStream _ _ hy2, ⟨les_cons (lR _) (les_nil), trivial, rfl, rfl, rfl, rfl, ⟨fun h => absurd (show (64000 : Nat) % 2 = 1 from h) (by decide), trivial⟩, rfl⟩, _, rfl, _, _, rfl, fun _ _ _ _ => .refl _, ?_⟩
 cbv
 injection h with h
 subst h
 refine ⟨(sparse 17 [(2, .c (.ptr 128 0)), (3, .c (.v (.int .i64 (A.ofN (LEN y1.1.fCells)))))] [(128, .var [.os 64000 0 (LEN y1.1.fCells)]), (64000, .arr .rw [] (LEN y1.1.fCells) 4 (row GD (oncCell LEN GD) y1.1.fCells))]), ?_, ?_⟩
 ·refine St.le_trans (le_ren 576 64000 (by decide) rfl) ?_
  exact le_sparse rfl ⟨lR _, lR _, trivial⟩ ⟨rfl, oS, trivial⟩ rfl
 ·exact ⟨lR _, ⟨oS, trivial⟩, rfl⟩

/-- laws.eqRect -/
noncomputable def F_laws_eqRect (a0 : TRect) (a1 : TRect) : Option (Bool) :=
 br (std.not (std.eq a0.fX0 a1.fX0))
 (some false)
 (br (std.not (std.eq a0.fY0 a1.fY0))
 (some false)
 (br (std.not (std.eq a0.fX1 a1.fX1))
 (some false)
 (br (std.not (std.eq a0.fY1 a1.fY1))
 (some false)
 (some true))))
set_option maxHeartbeats 4000000 in
theorem run_laws_eqRect (a0 : TRect) (a1 : TRect) (r : Bool) (h : F_laws_eqRect a0 a1 = some r) : Fun Try.prog 245 [.agg [.v (.int .i64 a0.fX0), .v (.int .i64 a0.fY0), .v (.int .i64 a0.fX1), .v (.int .i64 a0.fY1)], .agg [.v (.int .i64 a1.fX0), .v (.int .i64 a1.fY0), .v (.int .i64 a1.fX1), .v (.int .i64 a1.fY1)]] [] (.c (.v (.bool r))) [] true := by
 refine Fun.of_wp (oneOf []) tok mixed Try.func245 (by kernel_rfl) rfl Try.ntmps245 rfl trivial (fun _ => ⟨trivial, trivial⟩) ?_
 unfold F_laws_eqRect at h
 generalize hLEN : @len = LEN at *
 generalize hGD : @gd = GD at *
 generalize hA : std = A at *
 generalize hP : Try.prog = P at *
 cbv
 refine fork (fun b4 => ?_) (fun b4 => ?_)
 ·replace h := of_br_t b4 h
  cbv
  injection h with h
  subst h
  refine ⟨(sparse 25 [(4, .c (.v (.bool false)))] []), ?_, ?_⟩
  ·exact le_sparse rfl ⟨lR _, trivial⟩ trivial rfl
  ·exact ⟨lR _, trivial, rfl⟩
 ·replace h := of_br_f b4 h
  cbv
  refine fork (fun b3 => ?_) (fun b3 => ?_)
  ·replace h := of_br_t b3 h
   cbv
   injection h with h
   subst h
   refine ⟨(sparse 25 [(4, .c (.v (.bool false)))] []), ?_, ?_⟩
   ·exact le_sparse rfl ⟨lR _, trivial⟩ trivial rfl
   ·exact ⟨lR _, trivial, rfl⟩
  ·replace h := of_br_f b3 h
   cbv
   refine fork (fun b2 => ?_) (fun b2 => ?_)
   ·replace h := of_br_t b2 h
    cbv
    injection h with h
    subst h
    refine ⟨(sparse 25 [(4, .c (.v (.bool false)))] []), ?_, ?_⟩
    ·exact le_sparse rfl ⟨lR _, trivial⟩ trivial rfl
    ·exact ⟨lR _, trivial, rfl⟩
   ·replace h := of_br_f b2 h
    cbv
    refine fork (fun b1 => ?_) (fun b1 => ?_)
    ·replace h := of_br_t b1 h
     cbv
     injection h with h
     subst h
     refine ⟨(sparse 25 [(4, .c (.v (.bool false)))] []), ?_, ?_⟩
     ·exact le_sparse rfl ⟨lR _, trivial⟩ trivial rfl
     ·exact ⟨lR _, trivial, rfl⟩
    ·replace h := of_br_f b1 h
     cbv
     injection h with h
     subst h
     refine ⟨(sparse 25 [(4, .c (.v (.bool true)))] []), ?_, ?_⟩
     ·exact le_sparse rfl ⟨lR _, trivial⟩ trivial rfl
     ·exact ⟨lR _, trivial, rfl⟩

/-- laws.eqShape -/
noncomputable def F_laws_eqShape (a0 : TShape) (a1 : TShape) : Option (Bool) :=
 br (std.not (std.eq a0.fLayer a1.fLayer))
 (some false)
 ((F_laws_eqRect a0.fBox a1.fBox).bind fun y1 =>
 br (!(y1))
 (some false)
 (some true))
set_option maxHeartbeats 4000000 in
theorem run_laws_eqShape (a0 : TShape) (a1 : TShape) (r : Bool) (h : F_laws_eqShape a0 a1 = some r) : Fun Try.prog 256 [.agg [.v (.int .i64 a0.fLayer), .v (.int .i64 a0.fBox.fX0), .v (.int .i64 a0.fBox.fY0), .v (.int .i64 a0.fBox.fX1), .v (.int .i64 a0.fBox.fY1)], .agg [.v (.int .i64 a1.fLayer), .v (.int .i64 a1.fBox.fX0), .v (.int .i64 a1.fBox.fY0), .v (.int .i64 a1.fBox.fX1), .v (.int .i64 a1.fBox.fY1)]] [] (.c (.v (.bool r))) [] true := by
 refine Fun.of_wp (oneOf []) tok mixed Try.func256 (by kernel_rfl) rfl Try.ntmps256 rfl trivial (fun _ => ⟨trivial, trivial⟩) ?_
 unfold F_laws_eqShape at h
 have hf_laws_eqRect := @run_laws_eqRect
 generalize hLEN : @len = LEN at *
 generalize hGD : @gd = GD at *
 generalize hA : std = A at *
 generalize hP : Try.prog = P at *
 cbv
 refine fork (fun b4 => ?_) (fun b4 => ?_)
 ·replace h := of_br_t b4 h
  cbv
  injection h with h
  subst h
  refine ⟨(sparse 16 [(4, .c (.v (.bool false)))] []), ?_, ?_⟩
  ·exact le_sparse rfl ⟨lR _, trivial⟩ trivial rfl
  ·exact ⟨lR _, trivial, rfl⟩
 ·replace h := of_br_f b4 h
  cbv
  replace h := of_bind h
  obtain ⟨y1, hy2, h⟩ := h
  refine ⟨{ args := [.agg [.v (.int .i64 a0.fBox.fX0), .v (.int .i64 a0.fBox.fY0), .v (.int .i64 a0.fBox.fX1), .v (.int .i64 a0.fBox.fY1)], .agg [.v (.int .i64 a1.fBox.fX0), .v (.int .i64 a1.fBox.fY0), .v (.int .i64 a1.fBox.fX1), .v (.int .i64 a1.fBox.fY1)]], o0 := [], r := .c (.v (.bool y1)), o1 := [], fl := true, σ := [], τ := [] }, hf_laws_eqRect _ _ _ hy2, ⟨les_cons (lR _) (les_cons (lR _) (les_nil)), trivial, rfl, rfl, rfl, rfl, trivial, rfl⟩, ?_⟩
  cbv
  refine fork (fun b3 => ?_) (fun b3 => ?_)
  ·replace h := of_br_t b3 h
   cbv
   injection h with h
   subst h
   refine ⟨(sparse 16 [(4, .c (.v (.bool false)))] []), ?_, ?_⟩
   ·exact le_sparse rfl ⟨lR _, trivial⟩ trivial rfl
   ·exact ⟨lR _, trivial, rfl⟩
  ·replace h := of_br_f b3 h
   cbv
   injection h with h
   subst h
   refine ⟨(sparse 16 [(4, .c (.v (.bool true)))] []), ?_, ?_⟩
   ·exact le_sparse rfl ⟨lR _, trivial⟩ trivial rfl
   ·exact ⟨lR _, trivial, rfl⟩

noncomputable def L_laws_eqShapeS_x2 (a0 : List TShape) (a1 : List TShape) : (Int) → Option ((Int) ⊕ ((Unit) ⊕ (Unit))) := fun x2 =>
 letO x2 fun v1 =>
 br (std.lt v1 (std.ofN (len a0)))
 (req (std.inR v1 (len a0)) <|
 req (std.inR v1 (len a1)) <|
 (F_laws_eqShape (gd a0 (std.toN v1)) (gd a1 (std.toN v1))).bind fun y16 =>
 br (!(y16))
 (some (.inr (.inl ())))
 (some (.inl (std.add .i64 v1 1))))
 (some (.inr (.inr ())))
/-- laws.eqShapeS -/
noncomputable def F_laws_eqShapeS (a0 : List TShape) (a1 : List TShape) : Option (Bool) :=
 br (std.not (std.eq (std.ofN (len a0)) (std.ofN (len a1))))
 (some false)
 ((whileP (σ := Int) (ρ := (Unit) ⊕ (Unit)) (L_laws_eqShapeS_x2 a0 a1) 0).bind fun y3 =>
 (match y3 with
  | .inl y3k0 => (
    some false)
  | .inr y3m0 =>
    some true))
set_option maxHeartbeats 4000000 in
theorem run_laws_eqShapeS (a0 : List TShape) (a1 : List TShape) (r : Bool) (h : F_laws_eqShapeS a0 a1 = some r) : Fun Try.prog 230 [.c (.bs (len a0) 5 (row gd (encShape) a0)), .c (.bs (len a1) 5 (row gd (encShape) a1))] [] (.c (.v (.bool r))) [] true := by
 refine Fun.of_wp (oneOf []) tok mixed Try.func230 (by kernel_rfl) rfl Try.ntmps230 rfl trivial (fun _ => ⟨trivial, trivial⟩) ?_
 unfold F_laws_eqShapeS at h
 unfold L_laws_eqShapeS_x2 at h
 have hf_laws_eqShape := @run_laws_eqShape
 generalize hLEN : @len = LEN at *
 generalize hGD : @gd = GD at *
 generalize hA : std = A at *
 generalize hP : Try.prog = P at *
 cbv
 refine fork (fun b20 => ?_) (fun b20 => ?_)
 ·replace h := of_br_t b20 h
  cbv
  injection h with h
  subst h
  refine ⟨(sparse 27 [(4, .c (.v (.bool false)))] []), ?_, ?_⟩
  ·exact le_sparse rfl ⟨lR _, trivial⟩ trivial rfl
  ·exact ⟨lR _, trivial, rfl⟩
 ·replace h := of_br_f b20 h
  cbv
  replace h := of_bind h
  obtain ⟨y3, hr4, hN5⟩ := h
  refine loop_cut hr4 (fun x => (sparse 27 [(0, .c (.bs (LEN a0) 5 (row GD (encShape) a0))), (1, .c (.bs (LEN a1) 5 (row GD (encShape) a1))), (5, .c (.v (.int .i64 x)))] [])) ?_ (fun y e s => (match y with | .inl w => e = .ret ∧ s.le (sparse 27 [(4, .c (.v (.bool false)))] []) | .inr w0 => (fun (w : Unit) => e = .exit 0 ∧ s.le (sparse 27 [] [])) w0)) ?_ ?_
  ·clear hr4 hN5
   show St.le _ _
   exact le_sparse rfl ⟨lR _, lR _, lR _, trivial⟩ trivial rfl
  ·clear hr4 hN5
   intro x z9 h K7 hK8 hY6
   replace h := of_let h
   obtain ⟨v1, hv1, h⟩ := h
   have hv1 : v1 = x := hv1
   subst hv1
   cbv
   refine fork (fun b19 => ?_) (fun b19 => ?_)
   ·replace h := of_br_t b19 h
    cbv
    replace h := of_req h
    obtain ⟨c14, h⟩ := h
    refine ⟨⟨c14, trivial⟩, ?_⟩
    replace h := of_req h
    obtain ⟨c15, h⟩ := h
    refine ⟨⟨c15, trivial⟩, ?_⟩
    replace h := of_bind h
    obtain ⟨y16, hy17, h⟩ := h
    refine ⟨{ args := [.agg [.v (.int .i64 (GD a0 (A.toN v1)).fLayer), .v (.int .i64 (GD a0 (A.toN v1)).fBox.fX0), .v (.int .i64 (GD a0 (A.toN v1)).fBox.fY0), .v (.int .i64 (GD a0 (A.toN v1)).fBox.fX1), .v (.int .i64 (GD a0 (A.toN v1)).fBox.fY1)], .agg [.v (.int .i64 (GD a1 (A.toN v1)).fLayer), .v (.int .i64 (GD a1 (A.toN v1)).fBox.fX0), .v (.int .i64 (GD a1 (A.toN v1)).fBox.fY0), .v (.int .i64 (GD a1 (A.toN v1)).fBox.fX1), .v (.int .i64 (GD a1 (A.toN v1)).fBox.fY1)]], o0 := [], r := .c (.v (.bool y16)), o1 := [], fl := true, σ := [], τ := [] }, hf_laws_eqShape _ _ _ hy17, ⟨les_cons (lR _) (les_cons (lR _) (les_nil)), trivial, rfl, rfl, rfl, rfl, trivial, rfl⟩, ?_⟩
    cbv
    refine fork (fun b18 => ?_) (fun b18 => ?_)
    ·replace h := of_br_t b18 h
     cbv
     injection h with h
     refine hY6 _ h.symm _ _ (And.intro rfl ?_) (by intro hh; cases hh)
     exact le_sparse rfl ⟨lR _, trivial⟩ trivial rfl
    ·replace h := of_br_f b18 h
     cbv
     injection h with h
     refine hK8 _ h.symm _ ?_
     exact le_sparse rfl ⟨lR _, lR _, lR _, trivial⟩ trivial rfl
   ·replace h := of_br_f b19 h
    cbv
    injection h with h
    refine hY6 _ h.symm _ _ (And.intro rfl ?_) (by intro hh; cases hh)
    exact le_sparse rfl trivial trivial rfl
  ·clear hr4
   have h := hN5
   clear hN5
   intro e12 s13 q11 hne
   rcases y3 with y3k0 | y3m0
   ·replace h := h
    obtain ⟨rfl, q11⟩ := q11
    cbv
    injection h with h
    subst h
    refine ⟨(sparse 27 [(4, .c (.v (.bool false)))] []), ?_, ?_⟩
    ·refine St.le_trans q11 ?_
     exact le_sparse rfl ⟨lR _, trivial⟩ trivial rfl
    ·exact ⟨lR _, trivial, rfl⟩
   ·obtain ⟨rfl, q11⟩ := q11
    cbv
    refine ⟨_, q11, ?_⟩
    cbv
    injection h with h
    subst h
    refine ⟨(sparse 27 [(4, .c (.v (.bool true)))] []), ?_, ?_⟩
    ·exact le_sparse rfl ⟨lR _, trivial⟩ trivial rfl
    ·exact ⟨lR _, trivial, rfl⟩
/-- laws.eqPoint -/
noncomputable def F_laws_eqPoint (a0 : TPoint) (a1 : TPoint) : Option (Bool) :=
 br (std.not (std.eq a0.fX a1.fX))
 (some false)
 (br (std.not (std.eq a0.fY a1.fY))
 (some false)
 (some true))
set_option maxHeartbeats 4000000 in
theorem run_laws_eqPoint (a0 : TPoint) (a1 : TPoint) (r : Bool) (h : F_laws_eqPoint a0 a1 = some r) : Fun Try.prog 266 [.agg [.v (.int .i64 a0.fX), .v (.int .i64 a0.fY)], .agg [.v (.int .i64 a1.fX), .v (.int .i64 a1.fY)]] [] (.c (.v (.bool r))) [] true := by
 refine Fun.of_wp (oneOf []) tok mixed Try.func266 (by kernel_rfl) rfl Try.ntmps266 rfl trivial (fun _ => ⟨trivial, trivial⟩) ?_
 unfold F_laws_eqPoint at h
 generalize hLEN : @len = LEN at *
 generalize hGD : @gd = GD at *
 generalize hA : std = A at *
 generalize hP : Try.prog = P at *
 cbv
 refine fork (fun b2 => ?_) (fun b2 => ?_)
 ·replace h := of_br_t b2 h
  cbv
  injection h with h
  subst h
  refine ⟨(sparse 15 [(4, .c (.v (.bool false)))] []), ?_, ?_⟩
  ·exact le_sparse rfl ⟨lR _, trivial⟩ trivial rfl
  ·exact ⟨lR _, trivial, rfl⟩
 ·replace h := of_br_f b2 h
  cbv
  refine fork (fun b1 => ?_) (fun b1 => ?_)
  ·replace h := of_br_t b1 h
   cbv
   injection h with h
   subst h
   refine ⟨(sparse 15 [(4, .c (.v (.bool false)))] []), ?_, ?_⟩
   ·exact le_sparse rfl ⟨lR _, trivial⟩ trivial rfl
   ·exact ⟨lR _, trivial, rfl⟩
  ·replace h := of_br_f b1 h
   cbv
   injection h with h
   subst h
   refine ⟨(sparse 15 [(4, .c (.v (.bool true)))] []), ?_, ?_⟩
   ·exact le_sparse rfl ⟨lR _, trivial⟩ trivial rfl
   ·exact ⟨lR _, trivial, rfl⟩

/-- laws.eqLabel -/
noncomputable def F_laws_eqLabel (a0 : TLabel) (a1 : TLabel) : Option (Bool) :=
 br (std.not (std.eq a0.fLayer a1.fLayer))
 (some false)
 ((F_laws_eqPoint a0.fAt a1.fAt).bind fun y1 =>
 br (!(y1))
 (some false)
 (br (std.not (std.seq a0.fName a1.fName))
 (some false)
 (some true)))
set_option maxHeartbeats 4000000 in
theorem run_laws_eqLabel (a0 : TLabel) (a1 : TLabel) (r : Bool) (h : F_laws_eqLabel a0 a1 = some r) : Fun Try.prog 257 [.agg [.v (.int .i64 a0.fLayer), .v (.int .i64 a0.fAt.fX), .v (.int .i64 a0.fAt.fY), .v (.string a0.fName)], .agg [.v (.int .i64 a1.fLayer), .v (.int .i64 a1.fAt.fX), .v (.int .i64 a1.fAt.fY), .v (.string a1.fName)]] [] (.c (.v (.bool r))) [] true := by
 refine Fun.of_wp (oneOf []) tok mixed Try.func257 (by kernel_rfl) rfl Try.ntmps257 rfl trivial (fun _ => ⟨trivial, trivial⟩) ?_
 unfold F_laws_eqLabel at h
 have hf_laws_eqPoint := @run_laws_eqPoint
 generalize hLEN : @len = LEN at *
 generalize hGD : @gd = GD at *
 generalize hA : std = A at *
 generalize hP : Try.prog = P at *
 cbv
 refine fork (fun b5 => ?_) (fun b5 => ?_)
 ·replace h := of_br_t b5 h
  cbv
  injection h with h
  subst h
  refine ⟨(sparse 21 [(4, .c (.v (.bool false)))] []), ?_, ?_⟩
  ·exact le_sparse rfl ⟨lR _, trivial⟩ trivial rfl
  ·exact ⟨lR _, trivial, rfl⟩
 ·replace h := of_br_f b5 h
  cbv
  replace h := of_bind h
  obtain ⟨y1, hy2, h⟩ := h
  refine ⟨{ args := [.agg [.v (.int .i64 a0.fAt.fX), .v (.int .i64 a0.fAt.fY)], .agg [.v (.int .i64 a1.fAt.fX), .v (.int .i64 a1.fAt.fY)]], o0 := [], r := .c (.v (.bool y1)), o1 := [], fl := true, σ := [], τ := [] }, hf_laws_eqPoint _ _ _ hy2, ⟨les_cons (lR _) (les_cons (lR _) (les_nil)), trivial, rfl, rfl, rfl, rfl, trivial, rfl⟩, ?_⟩
  cbv
  refine fork (fun b4 => ?_) (fun b4 => ?_)
  ·replace h := of_br_t b4 h
   cbv
   injection h with h
   subst h
   refine ⟨(sparse 21 [(4, .c (.v (.bool false)))] []), ?_, ?_⟩
   ·exact le_sparse rfl ⟨lR _, trivial⟩ trivial rfl
   ·exact ⟨lR _, trivial, rfl⟩
  ·replace h := of_br_f b4 h
   cbv
   refine fork (fun b3 => ?_) (fun b3 => ?_)
   ·replace h := of_br_t b3 h
    cbv
    injection h with h
    subst h
    refine ⟨(sparse 21 [(4, .c (.v (.bool false)))] []), ?_, ?_⟩
    ·exact le_sparse rfl ⟨lR _, trivial⟩ trivial rfl
    ·exact ⟨lR _, trivial, rfl⟩
   ·replace h := of_br_f b3 h
    cbv
    injection h with h
    subst h
    refine ⟨(sparse 21 [(4, .c (.v (.bool true)))] []), ?_, ?_⟩
    ·exact le_sparse rfl ⟨lR _, trivial⟩ trivial rfl
    ·exact ⟨lR _, trivial, rfl⟩

noncomputable def L_laws_eqLabelS_x2 (a0 : List TLabel) (a1 : List TLabel) : (Int) → Option ((Int) ⊕ ((Unit) ⊕ (Unit))) := fun x2 =>
 letO x2 fun v1 =>
 br (std.lt v1 (std.ofN (len a0)))
 (req (std.inR v1 (len a0)) <|
 req (std.inR v1 (len a1)) <|
 (F_laws_eqLabel (gd a0 (std.toN v1)) (gd a1 (std.toN v1))).bind fun y16 =>
 br (!(y16))
 (some (.inr (.inl ())))
 (some (.inl (std.add .i64 v1 1))))
 (some (.inr (.inr ())))
/-- laws.eqLabelS -/
noncomputable def F_laws_eqLabelS (a0 : List TLabel) (a1 : List TLabel) : Option (Bool) :=
 br (std.not (std.eq (std.ofN (len a0)) (std.ofN (len a1))))
 (some false)
 ((whileP (σ := Int) (ρ := (Unit) ⊕ (Unit)) (L_laws_eqLabelS_x2 a0 a1) 0).bind fun y3 =>
 (match y3 with
  | .inl y3k0 => (
    some false)
  | .inr y3m0 =>
    some true))
set_option maxHeartbeats 4000000 in
theorem run_laws_eqLabelS (a0 : List TLabel) (a1 : List TLabel) (r : Bool) (h : F_laws_eqLabelS a0 a1 = some r) : Fun Try.prog 231 [.c (.bs (len a0) 4 (row gd (encLabel) a0)), .c (.bs (len a1) 4 (row gd (encLabel) a1))] [] (.c (.v (.bool r))) [] true := by
 refine Fun.of_wp (oneOf []) tok mixed Try.func231 (by kernel_rfl) rfl Try.ntmps231 rfl trivial (fun _ => ⟨trivial, trivial⟩) ?_
 unfold F_laws_eqLabelS at h
 unfold L_laws_eqLabelS_x2 at h
 have hf_laws_eqLabel := @run_laws_eqLabel
 generalize hLEN : @len = LEN at *
 generalize hGD : @gd = GD at *
 generalize hA : std = A at *
 generalize hP : Try.prog = P at *
 cbv
 refine fork (fun b20 => ?_) (fun b20 => ?_)
 ·replace h := of_br_t b20 h
  cbv
  injection h with h
  subst h
  refine ⟨(sparse 27 [(4, .c (.v (.bool false)))] []), ?_, ?_⟩
  ·exact le_sparse rfl ⟨lR _, trivial⟩ trivial rfl
  ·exact ⟨lR _, trivial, rfl⟩
 ·replace h := of_br_f b20 h
  cbv
  replace h := of_bind h
  obtain ⟨y3, hr4, hN5⟩ := h
  refine loop_cut hr4 (fun x => (sparse 27 [(0, .c (.bs (LEN a0) 4 (row GD (encLabel) a0))), (1, .c (.bs (LEN a1) 4 (row GD (encLabel) a1))), (5, .c (.v (.int .i64 x)))] [])) ?_ (fun y e s => (match y with | .inl w => e = .ret ∧ s.le (sparse 27 [(4, .c (.v (.bool false)))] []) | .inr w0 => (fun (w : Unit) => e = .exit 0 ∧ s.le (sparse 27 [] [])) w0)) ?_ ?_
  ·clear hr4 hN5
   show St.le _ _
   exact le_sparse rfl ⟨lR _, lR _, lR _, trivial⟩ trivial rfl
  ·clear hr4 hN5
   intro x z9 h K7 hK8 hY6
   replace h := of_let h
   obtain ⟨v1, hv1, h⟩ := h
   have hv1 : v1 = x := hv1
   subst hv1
   cbv
   refine fork (fun b19 => ?_) (fun b19 => ?_)
   ·replace h := of_br_t b19 h
    cbv
    replace h := of_req h
    obtain ⟨c14, h⟩ := h
    refine ⟨⟨c14, trivial⟩, ?_⟩
    replace h := of_req h
    obtain ⟨c15, h⟩ := h
    refine ⟨⟨c15, trivial⟩, ?_⟩
    replace h := of_bind h
    obtain ⟨y16, hy17, h⟩ := h
    refine ⟨{ args := [.agg [.v (.int .i64 (GD a0 (A.toN v1)).fLayer), .v (.int .i64 (GD a0 (A.toN v1)).fAt.fX), .v (.int .i64 (GD a0 (A.toN v1)).fAt.fY), .v (.string (GD a0 (A.toN v1)).fName)], .agg [.v (.int .i64 (GD a1 (A.toN v1)).fLayer), .v (.int .i64 (GD a1 (A.toN v1)).fAt.fX), .v (.int .i64 (GD a1 (A.toN v1)).fAt.fY), .v (.string (GD a1 (A.toN v1)).fName)]], o0 := [], r := .c (.v (.bool y16)), o1 := [], fl := true, σ := [], τ := [] }, hf_laws_eqLabel _ _ _ hy17, ⟨les_cons (lR _) (les_cons (lR _) (les_nil)), trivial, rfl, rfl, rfl, rfl, trivial, rfl⟩, ?_⟩
    cbv
    refine fork (fun b18 => ?_) (fun b18 => ?_)
    ·replace h := of_br_t b18 h
     cbv
     injection h with h
     refine hY6 _ h.symm _ _ (And.intro rfl ?_) (by intro hh; cases hh)
     exact le_sparse rfl ⟨lR _, trivial⟩ trivial rfl
    ·replace h := of_br_f b18 h
     cbv
     injection h with h
     refine hK8 _ h.symm _ ?_
     exact le_sparse rfl ⟨lR _, lR _, lR _, trivial⟩ trivial rfl
   ·replace h := of_br_f b19 h
    cbv
    injection h with h
    refine hY6 _ h.symm _ _ (And.intro rfl ?_) (by intro hh; cases hh)
    exact le_sparse rfl trivial trivial rfl
  ·clear hr4
   have h := hN5
   clear hN5
   intro e12 s13 q11 hne
   rcases y3 with y3k0 | y3m0
   ·replace h := h
    obtain ⟨rfl, q11⟩ := q11
    cbv
    injection h with h
    subst h
    refine ⟨(sparse 27 [(4, .c (.v (.bool false)))] []), ?_, ?_⟩
    ·refine St.le_trans q11 ?_
     exact le_sparse rfl ⟨lR _, trivial⟩ trivial rfl
    ·exact ⟨lR _, trivial, rfl⟩
   ·obtain ⟨rfl, q11⟩ := q11
    cbv
    refine ⟨_, q11, ?_⟩
    cbv
    injection h with h
    subst h
    refine ⟨(sparse 27 [(4, .c (.v (.bool true)))] []), ?_, ?_⟩
    ·exact le_sparse rfl ⟨lR _, trivial⟩ trivial rfl
    ·exact ⟨lR _, trivial, rfl⟩

/-- laws.eqTransform -/
noncomputable def F_laws_eqTransform (a0 : TTransform) (a1 : TTransform) : Option (Bool) :=
 br (std.not (std.eq a0.fOrientation a1.fOrientation))
 (some false)
 (br (std.not (std.eq a0.fX a1.fX))
 (some false)
 (br (std.not (std.eq a0.fY a1.fY))
 (some false)
 (some true)))
set_option maxHeartbeats 4000000 in
theorem run_laws_eqTransform (a0 : TTransform) (a1 : TTransform) (r : Bool) (h : F_laws_eqTransform a0 a1 = some r) : Fun Try.prog 267 [.agg [.v (.int .i64 a0.fOrientation), .v (.int .i64 a0.fX), .v (.int .i64 a0.fY)], .agg [.v (.int .i64 a1.fOrientation), .v (.int .i64 a1.fX), .v (.int .i64 a1.fY)]] [] (.c (.v (.bool r))) [] true := by
 refine Fun.of_wp (oneOf []) tok mixed Try.func267 (by kernel_rfl) rfl Try.ntmps267 rfl trivial (fun _ => ⟨trivial, trivial⟩) ?_
 unfold F_laws_eqTransform at h
 generalize hLEN : @len = LEN at *
 generalize hGD : @gd = GD at *
 generalize hA : std = A at *
 generalize hP : Try.prog = P at *
 cbv
 refine fork (fun b3 => ?_) (fun b3 => ?_)
 ·replace h := of_br_t b3 h
  cbv
  injection h with h
  subst h
  refine ⟨(sparse 20 [(4, .c (.v (.bool false)))] []), ?_, ?_⟩
  ·exact le_sparse rfl ⟨lR _, trivial⟩ trivial rfl
  ·exact ⟨lR _, trivial, rfl⟩
 ·replace h := of_br_f b3 h
  cbv
  refine fork (fun b2 => ?_) (fun b2 => ?_)
  ·replace h := of_br_t b2 h
   cbv
   injection h with h
   subst h
   refine ⟨(sparse 20 [(4, .c (.v (.bool false)))] []), ?_, ?_⟩
   ·exact le_sparse rfl ⟨lR _, trivial⟩ trivial rfl
   ·exact ⟨lR _, trivial, rfl⟩
  ·replace h := of_br_f b2 h
   cbv
   refine fork (fun b1 => ?_) (fun b1 => ?_)
   ·replace h := of_br_t b1 h
    cbv
    injection h with h
    subst h
    refine ⟨(sparse 20 [(4, .c (.v (.bool false)))] []), ?_, ?_⟩
    ·exact le_sparse rfl ⟨lR _, trivial⟩ trivial rfl
    ·exact ⟨lR _, trivial, rfl⟩
   ·replace h := of_br_f b1 h
    cbv
    injection h with h
    subst h
    refine ⟨(sparse 20 [(4, .c (.v (.bool true)))] []), ?_, ?_⟩
    ·exact le_sparse rfl ⟨lR _, trivial⟩ trivial rfl
    ·exact ⟨lR _, trivial, rfl⟩

/-- laws.eqInstance -/
noncomputable def F_laws_eqInstance (a0 : TInstance) (a1 : TInstance) : Option (Bool) :=
 br (std.not (std.eq a0.fCell a1.fCell))
 (some false)
 ((F_laws_eqTransform a0.fPlace a1.fPlace).bind fun y1 =>
 br (!(y1))
 (some false)
 (br (std.not (std.eq a0.fColumns a1.fColumns))
 (some false)
 (br (std.not (std.eq a0.fRows a1.fRows))
 (some false)
 (br (std.not (std.eq a0.fStepX a1.fStepX))
 (some false)
 (br (std.not (std.eq a0.fStepY a1.fStepY))
 (some false)
 (some true))))))
set_option maxHeartbeats 4000000 in
theorem run_laws_eqInstance (a0 : TInstance) (a1 : TInstance) (r : Bool) (h : F_laws_eqInstance a0 a1 = some r) : Fun Try.prog 258 [.agg [.v (.int .i64 a0.fCell), .v (.int .i64 a0.fPlace.fOrientation), .v (.int .i64 a0.fPlace.fX), .v (.int .i64 a0.fPlace.fY), .v (.int .i64 a0.fColumns), .v (.int .i64 a0.fRows), .v (.int .i64 a0.fStepX), .v (.int .i64 a0.fStepY)], .agg [.v (.int .i64 a1.fCell), .v (.int .i64 a1.fPlace.fOrientation), .v (.int .i64 a1.fPlace.fX), .v (.int .i64 a1.fPlace.fY), .v (.int .i64 a1.fColumns), .v (.int .i64 a1.fRows), .v (.int .i64 a1.fStepX), .v (.int .i64 a1.fStepY)]] [] (.c (.v (.bool r))) [] true := by
 refine Fun.of_wp (oneOf []) tok mixed Try.func258 (by kernel_rfl) rfl Try.ntmps258 rfl trivial (fun _ => ⟨trivial, trivial⟩) ?_
 unfold F_laws_eqInstance at h
 have hf_laws_eqTransform := @run_laws_eqTransform
 generalize hLEN : @len = LEN at *
 generalize hGD : @gd = GD at *
 generalize hA : std = A at *
 generalize hP : Try.prog = P at *
 cbv
 refine fork (fun b8 => ?_) (fun b8 => ?_)
 ·replace h := of_br_t b8 h
  cbv
  injection h with h
  subst h
  refine ⟨(sparse 36 [(4, .c (.v (.bool false)))] []), ?_, ?_⟩
  ·exact le_sparse rfl ⟨lR _, trivial⟩ trivial rfl
  ·exact ⟨lR _, trivial, rfl⟩
 ·replace h := of_br_f b8 h
  cbv
  replace h := of_bind h
  obtain ⟨y1, hy2, h⟩ := h
  refine ⟨{ args := [.agg [.v (.int .i64 a0.fPlace.fOrientation), .v (.int .i64 a0.fPlace.fX), .v (.int .i64 a0.fPlace.fY)], .agg [.v (.int .i64 a1.fPlace.fOrientation), .v (.int .i64 a1.fPlace.fX), .v (.int .i64 a1.fPlace.fY)]], o0 := [], r := .c (.v (.bool y1)), o1 := [], fl := true, σ := [], τ := [] }, hf_laws_eqTransform _ _ _ hy2, ⟨les_cons (lR _) (les_cons (lR _) (les_nil)), trivial, rfl, rfl, rfl, rfl, trivial, rfl⟩, ?_⟩
  cbv
  refine fork (fun b7 => ?_) (fun b7 => ?_)
  ·replace h := of_br_t b7 h
   cbv
   injection h with h
   subst h
   refine ⟨(sparse 36 [(4, .c (.v (.bool false)))] []), ?_, ?_⟩
   ·exact le_sparse rfl ⟨lR _, trivial⟩ trivial rfl
   ·exact ⟨lR _, trivial, rfl⟩
  ·replace h := of_br_f b7 h
   cbv
   refine fork (fun b6 => ?_) (fun b6 => ?_)
   ·replace h := of_br_t b6 h
    cbv
    injection h with h
    subst h
    refine ⟨(sparse 36 [(4, .c (.v (.bool false)))] []), ?_, ?_⟩
    ·exact le_sparse rfl ⟨lR _, trivial⟩ trivial rfl
    ·exact ⟨lR _, trivial, rfl⟩
   ·replace h := of_br_f b6 h
    cbv
    refine fork (fun b5 => ?_) (fun b5 => ?_)
    ·replace h := of_br_t b5 h
     cbv
     injection h with h
     subst h
     refine ⟨(sparse 36 [(4, .c (.v (.bool false)))] []), ?_, ?_⟩
     ·exact le_sparse rfl ⟨lR _, trivial⟩ trivial rfl
     ·exact ⟨lR _, trivial, rfl⟩
    ·replace h := of_br_f b5 h
     cbv
     refine fork (fun b4 => ?_) (fun b4 => ?_)
     ·replace h := of_br_t b4 h
      cbv
      injection h with h
      subst h
      refine ⟨(sparse 36 [(4, .c (.v (.bool false)))] []), ?_, ?_⟩
      ·exact le_sparse rfl ⟨lR _, trivial⟩ trivial rfl
      ·exact ⟨lR _, trivial, rfl⟩
     ·replace h := of_br_f b4 h
      cbv
      refine fork (fun b3 => ?_) (fun b3 => ?_)
      ·replace h := of_br_t b3 h
       cbv
       injection h with h
       subst h
       refine ⟨(sparse 36 [(4, .c (.v (.bool false)))] []), ?_, ?_⟩
       ·exact le_sparse rfl ⟨lR _, trivial⟩ trivial rfl
       ·exact ⟨lR _, trivial, rfl⟩
      ·replace h := of_br_f b3 h
       cbv
       injection h with h
       subst h
       refine ⟨(sparse 36 [(4, .c (.v (.bool true)))] []), ?_, ?_⟩
       ·exact le_sparse rfl ⟨lR _, trivial⟩ trivial rfl
       ·exact ⟨lR _, trivial, rfl⟩

noncomputable def L_laws_eqInstanceS_x2 (a0 : List TInstance) (a1 : List TInstance) : (Int) → Option ((Int) ⊕ ((Unit) ⊕ (Unit))) := fun x2 =>
 letO x2 fun v1 =>
 br (std.lt v1 (std.ofN (len a0)))
 (req (std.inR v1 (len a0)) <|
 req (std.inR v1 (len a1)) <|
 (F_laws_eqInstance (gd a0 (std.toN v1)) (gd a1 (std.toN v1))).bind fun y16 =>
 br (!(y16))
 (some (.inr (.inl ())))
 (some (.inl (std.add .i64 v1 1))))
 (some (.inr (.inr ())))
/-- laws.eqInstanceS -/
noncomputable def F_laws_eqInstanceS (a0 : List TInstance) (a1 : List TInstance) : Option (Bool) :=
 br (std.not (std.eq (std.ofN (len a0)) (std.ofN (len a1))))
 (some false)
 ((whileP (σ := Int) (ρ := (Unit) ⊕ (Unit)) (L_laws_eqInstanceS_x2 a0 a1) 0).bind fun y3 =>
 (match y3 with
  | .inl y3k0 => (
    some false)
  | .inr y3m0 =>
    some true))
set_option maxHeartbeats 4000000 in
theorem run_laws_eqInstanceS (a0 : List TInstance) (a1 : List TInstance) (r : Bool) (h : F_laws_eqInstanceS a0 a1 = some r) : Fun Try.prog 232 [.c (.bs (len a0) 8 (row gd (encInstance) a0)), .c (.bs (len a1) 8 (row gd (encInstance) a1))] [] (.c (.v (.bool r))) [] true := by
 refine Fun.of_wp (oneOf []) tok mixed Try.func232 (by kernel_rfl) rfl Try.ntmps232 rfl trivial (fun _ => ⟨trivial, trivial⟩) ?_
 unfold F_laws_eqInstanceS at h
 unfold L_laws_eqInstanceS_x2 at h
 have hf_laws_eqInstance := @run_laws_eqInstance
 generalize hLEN : @len = LEN at *
 generalize hGD : @gd = GD at *
 generalize hA : std = A at *
 generalize hP : Try.prog = P at *
 cbv
 refine fork (fun b20 => ?_) (fun b20 => ?_)
 ·replace h := of_br_t b20 h
  cbv
  injection h with h
  subst h
  refine ⟨(sparse 27 [(4, .c (.v (.bool false)))] []), ?_, ?_⟩
  ·exact le_sparse rfl ⟨lR _, trivial⟩ trivial rfl
  ·exact ⟨lR _, trivial, rfl⟩
 ·replace h := of_br_f b20 h
  cbv
  replace h := of_bind h
  obtain ⟨y3, hr4, hN5⟩ := h
  refine loop_cut hr4 (fun x => (sparse 27 [(0, .c (.bs (LEN a0) 8 (row GD (encInstance) a0))), (1, .c (.bs (LEN a1) 8 (row GD (encInstance) a1))), (5, .c (.v (.int .i64 x)))] [])) ?_ (fun y e s => (match y with | .inl w => e = .ret ∧ s.le (sparse 27 [(4, .c (.v (.bool false)))] []) | .inr w0 => (fun (w : Unit) => e = .exit 0 ∧ s.le (sparse 27 [] [])) w0)) ?_ ?_
  ·clear hr4 hN5
   show St.le _ _
   exact le_sparse rfl ⟨lR _, lR _, lR _, trivial⟩ trivial rfl
  ·clear hr4 hN5
   intro x z9 h K7 hK8 hY6
   replace h := of_let h
   obtain ⟨v1, hv1, h⟩ := h
   have hv1 : v1 = x := hv1
   subst hv1
   cbv
   refine fork (fun b19 => ?_) (fun b19 => ?_)
   ·replace h := of_br_t b19 h
    cbv
    replace h := of_req h
    obtain ⟨c14, h⟩ := h
    refine ⟨⟨c14, trivial⟩, ?_⟩
    replace h := of_req h
    obtain ⟨c15, h⟩ := h
    refine ⟨⟨c15, trivial⟩, ?_⟩
    replace h := of_bind h
    obtain ⟨y16, hy17, h⟩ := h
    refine ⟨{ args := [.agg [.v (.int .i64 (GD a0 (A.toN v1)).fCell), .v (.int .i64 (GD a0 (A.toN v1)).fPlace.fOrientation), .v (.int .i64 (GD a0 (A.toN v1)).fPlace.fX), .v (.int .i64 (GD a0 (A.toN v1)).fPlace.fY), .v (.int .i64 (GD a0 (A.toN v1)).fColumns), .v (.int .i64 (GD a0 (A.toN v1)).fRows), .v (.int .i64 (GD a0 (A.toN v1)).fStepX), .v (.int .i64 (GD a0 (A.toN v1)).fStepY)], .agg [.v (.int .i64 (GD a1 (A.toN v1)).fCell), .v (.int .i64 (GD a1 (A.toN v1)).fPlace.fOrientation), .v (.int .i64 (GD a1 (A.toN v1)).fPlace.fX), .v (.int .i64 (GD a1 (A.toN v1)).fPlace.fY), .v (.int .i64 (GD a1 (A.toN v1)).fColumns), .v (.int .i64 (GD a1 (A.toN v1)).fRows), .v (.int .i64 (GD a1 (A.toN v1)).fStepX), .v (.int .i64 (GD a1 (A.toN v1)).fStepY)]], o0 := [], r := .c (.v (.bool y16)), o1 := [], fl := true, σ := [], τ := [] }, hf_laws_eqInstance _ _ _ hy17, ⟨les_cons (lR _) (les_cons (lR _) (les_nil)), trivial, rfl, rfl, rfl, rfl, trivial, rfl⟩, ?_⟩
    cbv
    refine fork (fun b18 => ?_) (fun b18 => ?_)
    ·replace h := of_br_t b18 h
     cbv
     injection h with h
     refine hY6 _ h.symm _ _ (And.intro rfl ?_) (by intro hh; cases hh)
     exact le_sparse rfl ⟨lR _, trivial⟩ trivial rfl
    ·replace h := of_br_f b18 h
     cbv
     injection h with h
     refine hK8 _ h.symm _ ?_
     exact le_sparse rfl ⟨lR _, lR _, lR _, trivial⟩ trivial rfl
   ·replace h := of_br_f b19 h
    cbv
    injection h with h
    refine hY6 _ h.symm _ _ (And.intro rfl ?_) (by intro hh; cases hh)
    exact le_sparse rfl trivial trivial rfl
  ·clear hr4
   have h := hN5
   clear hN5
   intro e12 s13 q11 hne
   rcases y3 with y3k0 | y3m0
   ·replace h := h
    obtain ⟨rfl, q11⟩ := q11
    cbv
    injection h with h
    subst h
    refine ⟨(sparse 27 [(4, .c (.v (.bool false)))] []), ?_, ?_⟩
    ·refine St.le_trans q11 ?_
     exact le_sparse rfl ⟨lR _, trivial⟩ trivial rfl
    ·exact ⟨lR _, trivial, rfl⟩
   ·obtain ⟨rfl, q11⟩ := q11
    cbv
    refine ⟨_, q11, ?_⟩
    cbv
    injection h with h
    subst h
    refine ⟨(sparse 27 [(4, .c (.v (.bool true)))] []), ?_, ?_⟩
    ·exact le_sparse rfl ⟨lR _, trivial⟩ trivial rfl
    ·exact ⟨lR _, trivial, rfl⟩
end Go.Proofs.Ytlenieingkfjaaa.AM
