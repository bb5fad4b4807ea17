/-
  What the functions that the law reaches compute, and that they do. No condition.
-/
import Derived.Test.YtnmfighfidaglaaAmJV
namespace Go.Proofs.Ytnmfighfidaglaa.AM
open Go Go.Proofs Go.RowKit
set_option linter.unusedVariables false
set_option linter.unusedSimpArgs false
set_option maxRecDepth 100000

/-- spec.l13LabelBytes -/
noncomputable def F_spec_l13LabelBytes (a0 : TLabel) : Option (ByteArray) :=
  (F_spec_l13Byte a0.fLayer).bind fun y1 =>
  (F_spec_l13Coordinate a0.fAt.fX).bind fun y3 =>
  req (std.room (std.nadd (std.slen y1) (std.slen y3)) 1) <|
  (F_spec_l13Coordinate a0.fAt.fY).bind fun y6 =>
  req (std.room (std.nadd (std.slen (std.scat y1 y3)) (std.slen y6)) 1) <|
  (F_spec_l13Name a0.fName).bind fun y9 =>
  req (std.room (std.nadd (std.slen (std.scat (std.scat y1 y3) y6)) (std.slen y9)) 1) <|
  some (std.scat (std.scat (std.scat y1 y3) y6) y9)
theorem run_spec_l13LabelBytes (a0 : TLabel) (r : ByteArray) (h : F_spec_l13LabelBytes a0 = some r) : Fun Try.prog 71 [.agg [.v (.int .i64 a0.fLayer), .v (.int .i64 a0.fAt.fX), .v (.int .i64 a0.fAt.fY), .v (.string a0.fName)]] [] (.c (.v (.string r))) [] true := by
  refine Fun.of_wp (oneOf []) tok mixed Try.func71 (by kernel_rfl) rfl Try.ntmps71 rfl trivial (fun _ => ⟨trivial, trivial⟩) ?_
  unfold F_spec_l13LabelBytes at h
  have hf_spec_l13Byte := @run_spec_l13Byte
  have hf_spec_l13Coordinate := @run_spec_l13Coordinate
  have hf_spec_l13Name := @run_spec_l13Name
  generalize hLEN : @len = LEN at *
  generalize hGD : @gd = GD at *
  generalize hA : std = A at *
  generalize hP : Try.prog = P at *
  cbv
  replace h := of_bind h
  obtain ⟨y1, hy2, h⟩ := h
  refine ⟨{ args := [.c (.v (.int .i64 a0.fLayer))], o0 := [], r := .c (.v (.string y1)), o1 := [], fl := true, σ := [], τ := [] }, hf_spec_l13Byte _ _ hy2, ⟨les_cons (AV.le_refl _) (les_nil), trivial, rfl, rfl, rfl, rfl, trivial, rfl⟩, ?_⟩
  cbv
  replace h := of_bind h
  obtain ⟨y3, hy4, h⟩ := h
  refine ⟨{ args := [.c (.v (.int .i64 a0.fAt.fX))], o0 := [], r := .c (.v (.string y3)), o1 := [], fl := true, σ := [], τ := [] }, hf_spec_l13Coordinate _ _ hy4, ⟨les_cons (AV.le_refl _) (les_nil), trivial, rfl, rfl, rfl, rfl, trivial, rfl⟩, ?_⟩
  cbv
  replace h := of_req h
  obtain ⟨c5, h⟩ := h
  refine ⟨c5, ?_⟩
  replace h := of_bind h
  obtain ⟨y6, hy7, h⟩ := h
  refine ⟨{ args := [.c (.v (.int .i64 a0.fAt.fY))], o0 := [], r := .c (.v (.string y6)), o1 := [], fl := true, σ := [], τ := [] }, hf_spec_l13Coordinate _ _ hy7, ⟨les_cons (AV.le_refl _) (les_nil), trivial, rfl, rfl, rfl, rfl, trivial, rfl⟩, ?_⟩
  cbv
  replace h := of_req h
  obtain ⟨c8, h⟩ := h
  refine ⟨c8, ?_⟩
  replace h := of_bind h
  obtain ⟨y9, hy10, h⟩ := h
  refine ⟨{ args := [.c (.v (.string a0.fName))], o0 := [], r := .c (.v (.string y9)), o1 := [], fl := true, σ := [], τ := [] }, hf_spec_l13Name _ _ hy10, ⟨les_cons (AV.le_refl _) (les_nil), trivial, rfl, rfl, rfl, rfl, trivial, rfl⟩, ?_⟩
  cbv
  replace h := of_req h
  obtain ⟨c11, h⟩ := h
  refine ⟨c11, ?_⟩
  injection h with h
  subst h
  refine ⟨(sparse 20 [(2, .c (.v (.string (A.scat (A.scat (A.scat y1 y3) y6) y9))))] []), ?_, ?_⟩
  · exact le_sparse rfl ⟨AV.le_refl _, trivial⟩ trivial rfl
  · exact ⟨AV.le_refl _, trivial, rfl⟩

/-- spec.l13InstanceBytes -/
noncomputable def F_spec_l13InstanceBytes (a0 : TInstance) : Option (ByteArray) :=
  (F_spec_l13Byte a0.fCell).bind fun y1 =>
  (F_spec_l13Byte a0.fPlace.fOrientation).bind fun y3 =>
  req (std.room (std.nadd (std.slen y1) (std.slen y3)) 1) <|
  (F_spec_l13Coordinate a0.fPlace.fX).bind fun y6 =>
  req (std.room (std.nadd (std.slen (std.scat y1 y3)) (std.slen y6)) 1) <|
  (F_spec_l13Coordinate a0.fPlace.fY).bind fun y9 =>
  req (std.room (std.nadd (std.slen (std.scat (std.scat y1 y3) y6)) (std.slen y9)) 1) <|
  (F_spec_l13Byte a0.fColumns).bind fun y12 =>
  req (std.room (std.nadd (std.slen (std.scat (std.scat (std.scat y1 y3) y6) y9)) (std.slen y12)) 1) <|
  (F_spec_l13Byte a0.fRows).bind fun y15 =>
  req (std.room (std.nadd (std.slen (std.scat (std.scat (std.scat (std.scat y1 y3) y6) y9) y12)) (std.slen y15)) 1) <|
  (F_spec_l13Coordinate a0.fStepX).bind fun y18 =>
  req (std.room (std.nadd (std.slen (std.scat (std.scat (std.scat (std.scat (std.scat y1 y3) y6) y9) y12) y15)) (std.slen y18)) 1) <|
  (F_spec_l13Coordinate a0.fStepY).bind fun y21 =>
  req (std.room (std.nadd (std.slen (std.scat (std.scat (std.scat (std.scat (std.scat (std.scat y1 y3) y6) y9) y12) y15) y18)) (std.slen y21)) 1) <|
  some (std.scat (std.scat (std.scat (std.scat (std.scat (std.scat (std.scat y1 y3) y6) y9) y12) y15) y18) y21)
theorem run_spec_l13InstanceBytes (a0 : TInstance) (r : ByteArray) (h : F_spec_l13InstanceBytes a0 = some r) : Fun Try.prog 72 [.agg [.v (.int .i64 a0.fCell), .v (.int .i64 a0.fPlace.fOrientation), .v (.int .i64 a0.fPlace.fX), .v (.int .i64 a0.fPlace.fY), .v (.int .i64 a0.fColumns), .v (.int .i64 a0.fRows), .v (.int .i64 a0.fStepX), .v (.int .i64 a0.fStepY)]] [] (.c (.v (.string r))) [] true := by
  refine Fun.of_wp (oneOf []) tok mixed Try.func72 (by kernel_rfl) rfl Try.ntmps72 rfl trivial (fun _ => ⟨trivial, trivial⟩) ?_
  unfold F_spec_l13InstanceBytes at h
  have hf_spec_l13Byte := @run_spec_l13Byte
  have hf_spec_l13Coordinate := @run_spec_l13Coordinate
  generalize hLEN : @len = LEN at *
  generalize hGD : @gd = GD at *
  generalize hA : std = A at *
  generalize hP : Try.prog = P at *
  cbv
  replace h := of_bind h
  obtain ⟨y1, hy2, h⟩ := h
  refine ⟨{ args := [.c (.v (.int .i64 a0.fCell))], o0 := [], r := .c (.v (.string y1)), o1 := [], fl := true, σ := [], τ := [] }, hf_spec_l13Byte _ _ hy2, ⟨les_cons (AV.le_refl _) (les_nil), trivial, rfl, rfl, rfl, rfl, trivial, rfl⟩, ?_⟩
  cbv
  replace h := of_bind h
  obtain ⟨y3, hy4, h⟩ := h
  refine ⟨{ args := [.c (.v (.int .i64 a0.fPlace.fOrientation))], o0 := [], r := .c (.v (.string y3)), o1 := [], fl := true, σ := [], τ := [] }, hf_spec_l13Byte _ _ hy4, ⟨les_cons (AV.le_refl _) (les_nil), trivial, rfl, rfl, rfl, rfl, trivial, rfl⟩, ?_⟩
  cbv
  replace h := of_req h
  obtain ⟨c5, h⟩ := h
  refine ⟨c5, ?_⟩
  replace h := of_bind h
  obtain ⟨y6, hy7, h⟩ := h
  refine ⟨{ args := [.c (.v (.int .i64 a0.fPlace.fX))], o0 := [], r := .c (.v (.string y6)), o1 := [], fl := true, σ := [], τ := [] }, hf_spec_l13Coordinate _ _ hy7, ⟨les_cons (AV.le_refl _) (les_nil), trivial, rfl, rfl, rfl, rfl, trivial, rfl⟩, ?_⟩
  cbv
  replace h := of_req h
  obtain ⟨c8, h⟩ := h
  refine ⟨c8, ?_⟩
  replace h := of_bind h
  obtain ⟨y9, hy10, h⟩ := h
  refine ⟨{ args := [.c (.v (.int .i64 a0.fPlace.fY))], o0 := [], r := .c (.v (.string y9)), o1 := [], fl := true, σ := [], τ := [] }, hf_spec_l13Coordinate _ _ hy10, ⟨les_cons (AV.le_refl _) (les_nil), trivial, rfl, rfl, rfl, rfl, trivial, rfl⟩, ?_⟩
  cbv
  replace h := of_req h
  obtain ⟨c11, h⟩ := h
  refine ⟨c11, ?_⟩
  replace h := of_bind h
  obtain ⟨y12, hy13, h⟩ := h
  refine ⟨{ args := [.c (.v (.int .i64 a0.fColumns))], o0 := [], r := .c (.v (.string y12)), o1 := [], fl := true, σ := [], τ := [] }, hf_spec_l13Byte _ _ hy13, ⟨les_cons (AV.le_refl _) (les_nil), trivial, rfl, rfl, rfl, rfl, trivial, rfl⟩, ?_⟩
  cbv
  replace h := of_req h
  obtain ⟨c14, h⟩ := h
  refine ⟨c14, ?_⟩
  replace h := of_bind h
  obtain ⟨y15, hy16, h⟩ := h
  refine ⟨{ args := [.c (.v (.int .i64 a0.fRows))], o0 := [], r := .c (.v (.string y15)), o1 := [], fl := true, σ := [], τ := [] }, hf_spec_l13Byte _ _ hy16, ⟨les_cons (AV.le_refl _) (les_nil), trivial, rfl, rfl, rfl, rfl, trivial, rfl⟩, ?_⟩
  cbv
  replace h := of_req h
  obtain ⟨c17, h⟩ := h
  refine ⟨c17, ?_⟩
  replace h := of_bind h
  obtain ⟨y18, hy19, h⟩ := h
  refine ⟨{ args := [.c (.v (.int .i64 a0.fStepX))], o0 := [], r := .c (.v (.string y18)), o1 := [], fl := true, σ := [], τ := [] }, hf_spec_l13Coordinate _ _ hy19, ⟨les_cons (AV.le_refl _) (les_nil), trivial, rfl, rfl, rfl, rfl, trivial, rfl⟩, ?_⟩
  cbv
  replace h := of_req h
  obtain ⟨c20, h⟩ := h
  refine ⟨c20, ?_⟩
  replace h := of_bind h
  obtain ⟨y21, hy22, h⟩ := h
  refine ⟨{ args := [.c (.v (.int .i64 a0.fStepY))], o0 := [], r := .c (.v (.string y21)), o1 := [], fl := true, σ := [], τ := [] }, hf_spec_l13Coordinate _ _ hy22, ⟨les_cons (AV.le_refl _) (les_nil), trivial, rfl, rfl, rfl, rfl, trivial, rfl⟩, ?_⟩
  cbv
  replace h := of_req h
  obtain ⟨c23, h⟩ := h
  refine ⟨c23, ?_⟩
  injection h with h
  subst h
  refine ⟨(sparse 37 [(2, .c (.v (.string (A.scat (A.scat (A.scat (A.scat (A.scat (A.scat (A.scat y1 y3) y6) y9) y12) y15) y18) y21))))] []), ?_, ?_⟩
  · exact le_sparse rfl ⟨AV.le_refl _, trivial⟩ trivial rfl
  · exact ⟨AV.le_refl _, trivial, rfl⟩

/-- spec.EditBytes -/
noncomputable def F_spec_EditBytes (a0 : TEdit) : Option (ByteArray) :=
  (F_spec_IsValidEdit (TEdit.mk a0.fKind a0.fCell a0.fIndex a0.fName a0.fShape a0.fLabel a0.fInstance)).bind fun y1 =>
  br (!(y1))
  (some (ByteArray.mk #[]))
  ((F_spec_l13Byte a0.fKind).bind fun y3 =>
  (F_spec_l13Byte a0.fCell).bind fun y5 =>
  req (std.room (std.nadd (std.slen y3) (std.slen y5)) 1) <|
  (F_spec_l13Byte a0.fIndex).bind fun y8 =>
  req (std.room (std.nadd (std.slen (std.scat y3 y5)) (std.slen y8)) 1) <|
  br (std.eq a0.fKind 1)
  ((F_spec_l13ShapeBytes a0.fShape).bind fun y11 =>
  req (std.room (std.nadd (std.slen (std.scat (std.scat y3 y5) y8)) (std.slen y11)) 1) <|
  some (std.scat (std.scat (std.scat y3 y5) y8) y11))
  (br (std.eq a0.fKind 3)
  ((F_spec_l13LabelBytes a0.fLabel).bind fun y14 =>
  req (std.room (std.nadd (std.slen (std.scat (std.scat y3 y5) y8)) (std.slen y14)) 1) <|
  some (std.scat (std.scat (std.scat y3 y5) y8) y14))
  (br (std.eq a0.fKind 5)
  ((F_spec_l13InstanceBytes a0.fInstance).bind fun y17 =>
  req (std.room (std.nadd (std.slen (std.scat (std.scat y3 y5) y8)) (std.slen y17)) 1) <|
  some (std.scat (std.scat (std.scat y3 y5) y8) y17))
  (((
        br (std.eq a0.fKind 7)
        (some true)
        (some (std.eq a0.fKind 8))
    ) : Option (Bool)).bind fun y20 =>
  letO y20 fun w26 =>
  ((
        br w26
        ((F_spec_l13Name a0.fName).bind fun y34 =>
        req (std.room (std.nadd (std.slen (std.scat (std.scat y3 y5) y8)) (std.slen y34)) 1) <|
        (some (std.scat (std.scat (std.scat y3 y5) y8) y34)).bind fun r37 => some (.inl r37))
        (some (.inr ()))
    ) : Option (_ ⊕ Unit)).bind fun z30 => (match z30 with
    | .inl r => some r
    | .inr y28 =>
        some (std.scat (std.scat y3 y5) y8))))))
theorem run_spec_EditBytes (a0 : TEdit) (r : ByteArray) (h : F_spec_EditBytes a0 = some r) : Fun Try.prog 26 [.agg [.v (.int .i64 a0.fKind), .v (.int .i64 a0.fCell), .v (.int .i64 a0.fIndex), .v (.string a0.fName), .v (.int .i64 a0.fShape.fLayer), .v (.int .i64 a0.fShape.fBox.fX0), .v (.int .i64 a0.fShape.fBox.fY0), .v (.int .i64 a0.fShape.fBox.fX1), .v (.int .i64 a0.fShape.fBox.fY1), .v (.int .i64 a0.fLabel.fLayer), .v (.int .i64 a0.fLabel.fAt.fX), .v (.int .i64 a0.fLabel.fAt.fY), .v (.string a0.fLabel.fName), .v (.int .i64 a0.fInstance.fCell), .v (.int .i64 a0.fInstance.fPlace.fOrientation), .v (.int .i64 a0.fInstance.fPlace.fX), .v (.int .i64 a0.fInstance.fPlace.fY), .v (.int .i64 a0.fInstance.fColumns), .v (.int .i64 a0.fInstance.fRows), .v (.int .i64 a0.fInstance.fStepX), .v (.int .i64 a0.fInstance.fStepY)]] [] (.c (.v (.string r))) [] true := by
  refine Fun.of_wp (oneOf [100041]) tok mixed Try.func26 (by kernel_rfl) rfl Try.ntmps26 rfl trivial (fun _ => ⟨trivial, trivial⟩) ?_
  unfold F_spec_EditBytes at h
  have hf_spec_IsValidEdit := @run_spec_IsValidEdit
  have hf_spec_l13Byte := @run_spec_l13Byte
  have hf_spec_l13InstanceBytes := @run_spec_l13InstanceBytes
  have hf_spec_l13LabelBytes := @run_spec_l13LabelBytes
  have hf_spec_l13Name := @run_spec_l13Name
  have hf_spec_l13ShapeBytes := @run_spec_l13ShapeBytes
  generalize hLEN : @len = LEN at *
  generalize hGD : @gd = GD at *
  generalize hA : std = A at *
  generalize hP : Try.prog = P at *
  cbv
  replace h := of_bind h
  obtain ⟨y1, hy2, h⟩ := h
  refine ⟨{ args := [.agg [.v (.int .i64 a0.fKind), .v (.int .i64 a0.fCell), .v (.int .i64 a0.fIndex), .v (.string a0.fName), .v (.int .i64 a0.fShape.fLayer), .v (.int .i64 a0.fShape.fBox.fX0), .v (.int .i64 a0.fShape.fBox.fY0), .v (.int .i64 a0.fShape.fBox.fX1), .v (.int .i64 a0.fShape.fBox.fY1), .v (.int .i64 a0.fLabel.fLayer), .v (.int .i64 a0.fLabel.fAt.fX), .v (.int .i64 a0.fLabel.fAt.fY), .v (.string a0.fLabel.fName), .v (.int .i64 a0.fInstance.fCell), .v (.int .i64 a0.fInstance.fPlace.fOrientation), .v (.int .i64 a0.fInstance.fPlace.fX), .v (.int .i64 a0.fInstance.fPlace.fY), .v (.int .i64 a0.fInstance.fColumns), .v (.int .i64 a0.fInstance.fRows), .v (.int .i64 a0.fInstance.fStepX), .v (.int .i64 a0.fInstance.fStepY)]], o0 := [], r := .c (.v (.bool y1)), o1 := [], fl := true, σ := [], τ := [] }, hf_spec_IsValidEdit _ _ hy2, ⟨les_cons (AV.le_refl _) (les_nil), trivial, rfl, rfl, rfl, rfl, trivial, rfl⟩, ?_⟩
  cbv
  refine fork (fun b44 => ?_) (fun b44 => ?_)
  · replace h := of_br_t b44 h
    cbv
    injection h with h
    subst h
    refine ⟨(sparse 50 [(2, .c (.v (.string (ByteArray.mk #[]))))] []), ?_, ?_⟩
    · exact le_sparse rfl ⟨AV.le_refl _, trivial⟩ trivial rfl
    · exact ⟨AV.le_refl _, trivial, rfl⟩
  · replace h := of_br_f b44 h
    cbv
    replace h := of_bind h
    obtain ⟨y3, hy4, h⟩ := h
    refine ⟨{ args := [.c (.v (.int .i64 a0.fKind))], o0 := [], r := .c (.v (.string y3)), o1 := [], fl := true, σ := [], τ := [] }, hf_spec_l13Byte _ _ hy4, ⟨les_cons (AV.le_refl _) (les_nil), trivial, rfl, rfl, rfl, rfl, trivial, rfl⟩, ?_⟩
    cbv
    replace h := of_bind h
    obtain ⟨y5, hy6, h⟩ := h
    refine ⟨{ args := [.c (.v (.int .i64 a0.fCell))], o0 := [], r := .c (.v (.string y5)), o1 := [], fl := true, σ := [], τ := [] }, hf_spec_l13Byte _ _ hy6, ⟨les_cons (AV.le_refl _) (les_nil), trivial, rfl, rfl, rfl, rfl, trivial, rfl⟩, ?_⟩
    cbv
    replace h := of_req h
    obtain ⟨c7, h⟩ := h
    refine ⟨c7, ?_⟩
    replace h := of_bind h
    obtain ⟨y8, hy9, h⟩ := h
    refine ⟨{ args := [.c (.v (.int .i64 a0.fIndex))], o0 := [], r := .c (.v (.string y8)), o1 := [], fl := true, σ := [], τ := [] }, hf_spec_l13Byte _ _ hy9, ⟨les_cons (AV.le_refl _) (les_nil), trivial, rfl, rfl, rfl, rfl, trivial, rfl⟩, ?_⟩
    cbv
    replace h := of_req h
    obtain ⟨c10, h⟩ := h
    refine ⟨c10, ?_⟩
    refine fork (fun b43 => ?_) (fun b43 => ?_)
    · replace h := of_br_t b43 h
      cbv
      replace h := of_bind h
      obtain ⟨y11, hy12, h⟩ := h
      refine ⟨{ args := [.agg [.v (.int .i64 a0.fShape.fLayer), .v (.int .i64 a0.fShape.fBox.fX0), .v (.int .i64 a0.fShape.fBox.fY0), .v (.int .i64 a0.fShape.fBox.fX1), .v (.int .i64 a0.fShape.fBox.fY1)]], o0 := [], r := .c (.v (.string y11)), o1 := [], fl := true, σ := [], τ := [] }, hf_spec_l13ShapeBytes _ _ hy12, ⟨les_cons (AV.le_refl _) (les_nil), trivial, rfl, rfl, rfl, rfl, trivial, rfl⟩, ?_⟩
      cbv
      replace h := of_req h
      obtain ⟨c13, h⟩ := h
      refine ⟨c13, ?_⟩
      injection h with h
      subst h
      refine ⟨(sparse 50 [(2, .c (.v (.string (A.scat (A.scat (A.scat y3 y5) y8) y11))))] []), ?_, ?_⟩
      · exact le_sparse rfl ⟨AV.le_refl _, trivial⟩ trivial rfl
      · exact ⟨AV.le_refl _, trivial, rfl⟩
    · replace h := of_br_f b43 h
      cbv
      refine fork (fun b42 => ?_) (fun b42 => ?_)
      · replace h := of_br_t b42 h
        cbv
        replace h := of_bind h
        obtain ⟨y14, hy15, h⟩ := h
        refine ⟨{ args := [.agg [.v (.int .i64 a0.fLabel.fLayer), .v (.int .i64 a0.fLabel.fAt.fX), .v (.int .i64 a0.fLabel.fAt.fY), .v (.string a0.fLabel.fName)]], o0 := [], r := .c (.v (.string y14)), o1 := [], fl := true, σ := [], τ := [] }, hf_spec_l13LabelBytes _ _ hy15, ⟨les_cons (AV.le_refl _) (les_nil), trivial, rfl, rfl, rfl, rfl, trivial, rfl⟩, ?_⟩
        cbv
        replace h := of_req h
        obtain ⟨c16, h⟩ := h
        refine ⟨c16, ?_⟩
        injection h with h
        subst h
        refine ⟨(sparse 50 [(2, .c (.v (.string (A.scat (A.scat (A.scat y3 y5) y8) y14))))] []), ?_, ?_⟩
        · exact le_sparse rfl ⟨AV.le_refl _, trivial⟩ trivial rfl
        · exact ⟨AV.le_refl _, trivial, rfl⟩
      · replace h := of_br_f b42 h
        cbv
        refine fork (fun b41 => ?_) (fun b41 => ?_)
        · replace h := of_br_t b41 h
          cbv
          replace h := of_bind h
          obtain ⟨y17, hy18, h⟩ := h
          refine ⟨{ args := [.agg [.v (.int .i64 a0.fInstance.fCell), .v (.int .i64 a0.fInstance.fPlace.fOrientation), .v (.int .i64 a0.fInstance.fPlace.fX), .v (.int .i64 a0.fInstance.fPlace.fY), .v (.int .i64 a0.fInstance.fColumns), .v (.int .i64 a0.fInstance.fRows), .v (.int .i64 a0.fInstance.fStepX), .v (.int .i64 a0.fInstance.fStepY)]], o0 := [], r := .c (.v (.string y17)), o1 := [], fl := true, σ := [], τ := [] }, hf_spec_l13InstanceBytes _ _ hy18, ⟨les_cons (AV.le_refl _) (les_nil), trivial, rfl, rfl, rfl, rfl, trivial, rfl⟩, ?_⟩
          cbv
          replace h := of_req h
          obtain ⟨c19, h⟩ := h
          refine ⟨c19, ?_⟩
          injection h with h
          subst h
          refine ⟨(sparse 50 [(2, .c (.v (.string (A.scat (A.scat (A.scat y3 y5) y8) y17))))] []), ?_, ?_⟩
          · exact le_sparse rfl ⟨AV.le_refl _, trivial⟩ trivial rfl
          · exact ⟨AV.le_refl _, trivial, rfl⟩
        · replace h := of_br_f b41 h
          cbv
          replace h := of_bind h
          obtain ⟨y20, hy21, h⟩ := h
          obtain ⟨S24, hS25⟩ : ∃ S, S = some (sparse 50 [(1, .c (.ptr 64 0)), (3, .c (.v (.string (A.scat (A.scat y3 y5) y8)))), (41, .c (.v (.bool y20)))] [(64, .var [.v (.int .i64 a0.fKind), .v (.int .i64 a0.fCell), .v (.int .i64 a0.fIndex), .v (.string a0.fName), .v (.int .i64 a0.fShape.fLayer), .v (.int .i64 a0.fShape.fBox.fX0), .v (.int .i64 a0.fShape.fBox.fY0), .v (.int .i64 a0.fShape.fBox.fX1), .v (.int .i64 a0.fShape.fBox.fY1), .v (.int .i64 a0.fLabel.fLayer), .v (.int .i64 a0.fLabel.fAt.fX), .v (.int .i64 a0.fLabel.fAt.fY), .v (.string a0.fLabel.fName), .v (.int .i64 a0.fInstance.fCell), .v (.int .i64 a0.fInstance.fPlace.fOrientation), .v (.int .i64 a0.fInstance.fPlace.fX), .v (.int .i64 a0.fInstance.fPlace.fY), .v (.int .i64 a0.fInstance.fColumns), .v (.int .i64 a0.fInstance.fRows), .v (.int .i64 a0.fInstance.fStepX), .v (.int .i64 a0.fInstance.fStepY)])]) := ⟨_, rfl⟩
          refine ⟨S24, ?_, ?_⟩
          · clear h
            have h := hy21
            clear hy21
            cbv
            refine fork (fun b27 => ?_) (fun b27 => ?_)
            · replace h := of_br_t b27 h
              cbv
              injection h with h
              subst h
              subst hS25
              show St.le _ _
              exact le_sparse rfl ⟨AV.le_refl _, AV.le_refl _, AV.le_refl _, trivial⟩ ⟨rfl, trivial⟩ rfl
            · replace h := of_br_f b27 h
              cbv
              injection h with h
              subst h
              subst hS25
              show St.le _ _
              exact le_sparse rfl ⟨AV.le_refl _, AV.le_refl _, AV.le_refl _, trivial⟩ ⟨rfl, trivial⟩ rfl
          · clear hy21
            subst hS25
            replace h := of_let h
            obtain ⟨w26, hw26, h⟩ := h
            have hw26 : w26 = y20 := hw26
            subst hw26
            cbv
            replace h := of_bind h
            obtain ⟨z30, hy29, hz31⟩ := h
            obtain ⟨S32, hS33⟩ : ∃ S, S = (match z30 with | .inl _ => none | .inr y28 => some (sparse 50 [(3, .c (.v (.string (A.scat (A.scat y3 y5) y8))))] [])) := ⟨_, rfl⟩
            refine ⟨S32, ?_, ?_⟩
            · have h := hy29
              clear hy29
              cbv
              refine fork (fun b40 => ?_) (fun b40 => ?_)
              · replace h := of_br_t b40 h
                cbv
                replace h := of_bind h
                obtain ⟨y34, hy35, h⟩ := h
                refine ⟨{ args := [.c (.v (.string a0.fName))], o0 := [], r := .c (.v (.string y34)), o1 := [], fl := true, σ := [], τ := [] }, hf_spec_l13Name _ _ hy35, ⟨les_cons (AV.le_refl _) (les_nil), trivial, rfl, rfl, rfl, rfl, trivial, rfl⟩, ?_⟩
                cbv
                replace h := of_req h
                obtain ⟨c36, h⟩ := h
                refine ⟨c36, ?_⟩
                replace h := of_bind h
                obtain ⟨r37, h38, he39⟩ := h
                injection he39 with he39
                subst he39
                injection hz31 with hz31
                subst hz31
                have h := h38
                injection h with h
                subst h
                refine ⟨(sparse 50 [(2, .c (.v (.string (A.scat (A.scat (A.scat y3 y5) y8) y34))))] []), ?_, ?_⟩
                · exact le_sparse rfl ⟨AV.le_refl _, trivial⟩ trivial rfl
                · exact ⟨AV.le_refl _, trivial, rfl⟩
              · replace h := of_br_f b40 h
                cbv
                injection h with h
                subst h
                subst hS33
                show St.le _ _
                exact le_sparse rfl ⟨AV.le_refl _, trivial⟩ trivial rfl
            · clear hy29
              subst hS33
              rcases z30 with _ | y28
              · trivial
              · have h := hz31
                clear hz31
                cbv
                injection h with h
                subst h
                refine ⟨(sparse 50 [(2, .c (.v (.string (A.scat (A.scat y3 y5) y8))))] []), ?_, ?_⟩
                · exact le_sparse rfl ⟨AV.le_refl _, trivial⟩ trivial rfl
                · exact ⟨AV.le_refl _, trivial, rfl⟩

noncomputable def L_spec_Checksum16_x3 (a0 : ByteArray) : (Int × Int) → Option ((Int × Int) ⊕ ((Int))) := fun x3 =>
  letO x3.1 fun v1 =>
  letO x3.2 fun v2 =>
  br (std.lt v2 (std.ofN (std.slen a0)))
  (req (std.inR v2 (std.slen a0)) <|
  req (std.nz 65521) <|
  some (.inl (std.rem (std.add .i64 (std.add .i64 (std.mul .i64 31 v1) (std.conv .i64 (std.sat a0 (std.toN v2)))) 1) 65521, std.add .i64 v2 1)))
  (some (.inr v1))
/-- spec.Checksum16 -/
noncomputable def F_spec_Checksum16 (a0 : ByteArray) : Option (Int) :=
  (whileP (σ := Int × Int) (ρ := (Int)) (L_spec_Checksum16_x3 a0) (1, 0)).bind fun y4 =>
  letO y4 fun y4k0 =>
  letO y4k0 fun w18 =>
  some w18
theorem run_spec_Checksum16 (a0 : ByteArray) (r : Int) (h : F_spec_Checksum16 a0 = some r) : Fun Try.prog 84 [.c (.v (.string a0))] [] (.c (.v (.int .i64 r))) [] true := by
  refine Fun.of_wp (oneOf []) tok mixed Try.func84 (by kernel_rfl) rfl Try.ntmps84 rfl trivial (fun _ => ⟨trivial, trivial⟩) ?_
  unfold F_spec_Checksum16 at h
  unfold L_spec_Checksum16_x3 at h
  generalize hLEN : @len = LEN at *
  generalize hGD : @gd = GD at *
  generalize hA : std = A at *
  generalize hP : Try.prog = P at *
  cbv
  replace h := of_bind h
  obtain ⟨y4, hr5, hN6⟩ := h
  refine loop_cut hr5 (fun x => (sparse 21 [(0, .c (.v (.string a0))), (3, .c (.v (.int .i64 x.1))), (4, .c (.v (.int .i64 x.2)))] [])) ?_ (fun y e s => (fun (w : Int) => e = .exit 0 ∧ s.le (sparse 21 [(3, .c (.v (.int .i64 w)))] [])) y) ?_ ?_
  · clear hr5 hN6
    show St.le _ _
    exact le_sparse rfl ⟨AV.le_refl _, AV.le_refl _, AV.le_refl _, trivial⟩ trivial rfl
  · clear hr5 hN6
    intro x z10 h K8 hK9 hY7
    obtain ⟨x0_, x1_⟩ := x
    replace h := of_let h
    obtain ⟨v1, hv1, h⟩ := h
    have hv1 : v1 = x0_ := hv1
    subst hv1
    replace h := of_let h
    obtain ⟨v2, hv2, h⟩ := h
    have hv2 : v2 = x1_ := hv2
    subst hv2
    cbv
    refine fork (fun b17 => ?_) (fun b17 => ?_)
    · replace h := of_br_t b17 h
      cbv
      replace h := of_req h
      obtain ⟨c15, h⟩ := h
      refine ⟨c15, ?_⟩
      replace h := of_req h
      obtain ⟨c16, h⟩ := h
      refine ⟨c16, ?_⟩
      injection h with h
      refine hK9 _ h.symm _ ?_
      exact le_sparse rfl ⟨AV.le_refl _, AV.le_refl _, AV.le_refl _, trivial⟩ trivial rfl
    · replace h := of_br_f b17 h
      cbv
      injection h with h
      refine hY7 _ h.symm _ _ (And.intro rfl ?_) (by intro hh; cases hh)
      exact le_sparse rfl ⟨AV.le_refl _, trivial⟩ trivial rfl
  · clear hr5
    have h := hN6
    clear hN6
    intro e13 s14 q12 hne
    replace h := of_let h
    obtain ⟨y4k0, hyk, h⟩ := h
    have hyk : y4k0 = y4 := hyk
    subst hyk
    obtain ⟨rfl, q12⟩ := q12
    replace h := of_let h
    obtain ⟨w18, hw18, h⟩ := h
    have hw18 : w18 = y4k0 := hw18
    subst hw18
    cbv
    refine ⟨_, q12, ?_⟩
    cbv
    injection h with h
    subst h
    refine ⟨(sparse 21 [(2, .c (.v (.int .i64 w18)))] []), ?_, ?_⟩
    · exact le_sparse rfl ⟨AV.le_refl _, trivial⟩ trivial rfl
    · exact ⟨AV.le_refl _, trivial, rfl⟩

noncomputable def L_spec_JournalRecord_x5 (a0 : List TEdit) : (ByteArray × Int) → Option ((ByteArray × Int) ⊕ ((ByteArray))) := fun x5 =>
  letO x5.1 fun v3 =>
  letO x5.2 fun v4 =>
  br (std.lt v4 (std.ofN (len a0)))
  (req (std.inR v4 (len a0)) <|
  (F_spec_EditBytes (gd a0 (std.toN v4))).bind fun y18 =>
  req (std.room (std.nadd (std.slen v3) (std.slen y18)) 1) <|
  some (.inl (std.scat v3 y18, std.add .i64 v4 1)))
  (some (.inr v3))
/-- spec.JournalRecord -/
noncomputable def F_spec_JournalRecord (a0 : List TEdit) : Option (ByteArray) :=
  (F_spec_l13Transaction a0).bind fun y1 =>
  br (!(y1))
  (some (ByteArray.mk #[]))
  ((whileP (σ := ByteArray × Int) (ρ := (ByteArray)) (L_spec_JournalRecord_x5 a0) ((ByteArray.mk #[]), 0)).bind fun y6 =>
  letO y6 fun y6k0 =>
  letO y6k0 fun w22 =>
  (F_spec_l13Byte (std.ofN (len a0))).bind fun y23 =>
  req (std.room (std.nadd (std.slen (ByteArray.mk #[84])) (std.slen y23)) 1) <|
  (F_spec_l13Two (std.ofN (std.slen w22))).bind fun y26 =>
  req (std.room (std.nadd (std.slen (std.scat (ByteArray.mk #[84]) y23)) (std.slen y26)) 1) <|
  req (std.room (std.nadd (std.slen (std.scat (std.scat (ByteArray.mk #[84]) y23) y26)) (std.slen w22)) 1) <|
  (F_spec_Checksum16 (std.scat (std.scat (std.scat (ByteArray.mk #[84]) y23) y26) w22)).bind fun y30 =>
  (F_spec_l13Two y30).bind fun y32 =>
  req (std.room (std.nadd (std.slen (std.scat (std.scat (std.scat (ByteArray.mk #[84]) y23) y26) w22)) (std.slen y32)) 1) <|
  some (std.scat (std.scat (std.scat (std.scat (ByteArray.mk #[84]) y23) y26) w22) y32))
theorem run_spec_JournalRecord (a0 : List TEdit) (r : ByteArray) (h : F_spec_JournalRecord a0 = some r) : Fun Try.prog 30 [.c (.bs (len a0) 21 (row gd (encEdit) a0))] [] (.c (.v (.string r))) [] true := by
  refine Fun.of_wp (oneOf []) tok mixed Try.func30 (by kernel_rfl) rfl Try.ntmps30 rfl trivial (fun _ => ⟨trivial, trivial⟩) ?_
  unfold F_spec_JournalRecord at h
  unfold L_spec_JournalRecord_x5 at h
  have hf_spec_Checksum16 := @run_spec_Checksum16
  have hf_spec_EditBytes := @run_spec_EditBytes
  have hf_spec_l13Byte := @run_spec_l13Byte
  have hf_spec_l13Transaction := @run_spec_l13Transaction
  have hf_spec_l13Two := @run_spec_l13Two
  generalize hLEN : @len = LEN at *
  generalize hGD : @gd = GD at *
  generalize hA : std = A at *
  generalize hP : Try.prog = P at *
  cbv
  replace h := of_bind h
  obtain ⟨y1, hy2, h⟩ := h
  refine ⟨{ args := [.c (.bs (LEN a0) 21 (row GD (encEdit) a0))], o0 := [], r := .c (.v (.bool y1)), o1 := [], fl := true, σ := [], τ := [] }, hf_spec_l13Transaction _ _ hy2, ⟨les_cons (AV.le_refl _) (les_nil), trivial, rfl, rfl, rfl, rfl, trivial, rfl⟩, ?_⟩
  cbv
  refine fork (fun b35 => ?_) (fun b35 => ?_)
  · replace h := of_br_t b35 h
    cbv
    injection h with h
    subst h
    refine ⟨(sparse 37 [(2, .c (.v (.string (ByteArray.mk #[]))))] []), ?_, ?_⟩
    · exact le_sparse rfl ⟨AV.le_refl _, trivial⟩ trivial rfl
    · exact ⟨AV.le_refl _, trivial, rfl⟩
  · replace h := of_br_f b35 h
    cbv
    replace h := of_bind h
    obtain ⟨y6, hr7, hN8⟩ := h
    refine loop_cut hr7 (fun x => (sparse 37 [(0, .c (.bs (LEN a0) 21 (row GD (encEdit) a0))), (3, .c (.v (.string x.1))), (4, .c (.v (.int .i64 x.2)))] [])) ?_ (fun y e s => (fun (w : ByteArray) => e = .exit 0 ∧ s.le (sparse 37 [(0, .c (.bs (LEN a0) 21 (row GD (encEdit) a0))), (3, .c (.v (.string w)))] [])) y) ?_ ?_
    · clear hr7 hN8
      show St.le _ _
      exact le_sparse rfl ⟨AV.le_refl _, AV.le_refl _, AV.le_refl _, trivial⟩ trivial rfl
    · clear hr7 hN8
      intro x z12 h K10 hK11 hY9
      obtain ⟨x0_, x1_⟩ := x
      replace h := of_let h
      obtain ⟨v3, hv3, h⟩ := h
      have hv3 : v3 = x0_ := hv3
      subst hv3
      replace h := of_let h
      obtain ⟨v4, hv4, h⟩ := h
      have hv4 : v4 = x1_ := hv4
      subst hv4
      cbv
      refine fork (fun b21 => ?_) (fun b21 => ?_)
      · replace h := of_br_t b21 h
        cbv
        replace h := of_req h
        obtain ⟨c17, h⟩ := h
        refine ⟨⟨c17, trivial⟩, ?_⟩
        replace h := of_bind h
        obtain ⟨y18, hy19, h⟩ := h
        refine ⟨{ args := [.agg [.v (.int .i64 (GD a0 (A.toN v4)).fKind), .v (.int .i64 (GD a0 (A.toN v4)).fCell), .v (.int .i64 (GD a0 (A.toN v4)).fIndex), .v (.string (GD a0 (A.toN v4)).fName), .v (.int .i64 (GD a0 (A.toN v4)).fShape.fLayer), .v (.int .i64 (GD a0 (A.toN v4)).fShape.fBox.fX0), .v (.int .i64 (GD a0 (A.toN v4)).fShape.fBox.fY0), .v (.int .i64 (GD a0 (A.toN v4)).fShape.fBox.fX1), .v (.int .i64 (GD a0 (A.toN v4)).fShape.fBox.fY1), .v (.int .i64 (GD a0 (A.toN v4)).fLabel.fLayer), .v (.int .i64 (GD a0 (A.toN v4)).fLabel.fAt.fX), .v (.int .i64 (GD a0 (A.toN v4)).fLabel.fAt.fY), .v (.string (GD a0 (A.toN v4)).fLabel.fName), .v (.int .i64 (GD a0 (A.toN v4)).fInstance.fCell), .v (.int .i64 (GD a0 (A.toN v4)).fInstance.fPlace.fOrientation), .v (.int .i64 (GD a0 (A.toN v4)).fInstance.fPlace.fX), .v (.int .i64 (GD a0 (A.toN v4)).fInstance.fPlace.fY), .v (.int .i64 (GD a0 (A.toN v4)).fInstance.fColumns), .v (.int .i64 (GD a0 (A.toN v4)).fInstance.fRows), .v (.int .i64 (GD a0 (A.toN v4)).fInstance.fStepX), .v (.int .i64 (GD a0 (A.toN v4)).fInstance.fStepY)]], o0 := [], r := .c (.v (.string y18)), o1 := [], fl := true, σ := [], τ := [] }, hf_spec_EditBytes _ _ hy19, ⟨les_cons (AV.le_refl _) (les_nil), trivial, rfl, rfl, rfl, rfl, trivial, rfl⟩, ?_⟩
        cbv
        replace h := of_req h
        obtain ⟨c20, h⟩ := h
        refine ⟨c20, ?_⟩
        injection h with h
        refine hK11 _ h.symm _ ?_
        exact le_sparse rfl ⟨AV.le_refl _, AV.le_refl _, AV.le_refl _, trivial⟩ trivial rfl
      · replace h := of_br_f b21 h
        cbv
        injection h with h
        refine hY9 _ h.symm _ _ (And.intro rfl ?_) (by intro hh; cases hh)
        exact le_sparse rfl ⟨AV.le_refl _, AV.le_refl _, trivial⟩ trivial rfl
    · clear hr7
      have h := hN8
      clear hN8
      intro e15 s16 q14 hne
      replace h := of_let h
      obtain ⟨y6k0, hyk, h⟩ := h
      have hyk : y6k0 = y6 := hyk
      subst hyk
      obtain ⟨rfl, q14⟩ := q14
      replace h := of_let h
      obtain ⟨w22, hw22, h⟩ := h
      have hw22 : w22 = y6k0 := hw22
      subst hw22
      cbv
      refine ⟨_, q14, ?_⟩
      cbv
      replace h := of_bind h
      obtain ⟨y23, hy24, h⟩ := h
      refine ⟨{ args := [.c (.v (.int .i64 (A.ofN (LEN a0))))], o0 := [], r := .c (.v (.string y23)), o1 := [], fl := true, σ := [], τ := [] }, hf_spec_l13Byte _ _ hy24, ⟨les_cons (AV.le_refl _) (les_nil), trivial, rfl, rfl, rfl, rfl, trivial, rfl⟩, ?_⟩
      cbv
      replace h := of_req h
      obtain ⟨c25, h⟩ := h
      refine ⟨c25, ?_⟩
      replace h := of_bind h
      obtain ⟨y26, hy27, h⟩ := h
      refine ⟨{ args := [.c (.v (.int .i64 (A.ofN (A.slen w22))))], o0 := [], r := .c (.v (.string y26)), o1 := [], fl := true, σ := [], τ := [] }, hf_spec_l13Two _ _ hy27, ⟨les_cons (AV.le_refl _) (les_nil), trivial, rfl, rfl, rfl, rfl, trivial, rfl⟩, ?_⟩
      cbv
      replace h := of_req h
      obtain ⟨c28, h⟩ := h
      refine ⟨c28, ?_⟩
      replace h := of_req h
      obtain ⟨c29, h⟩ := h
      refine ⟨c29, ?_⟩
      replace h := of_bind h
      obtain ⟨y30, hy31, h⟩ := h
      refine ⟨{ args := [.c (.v (.string (A.scat (A.scat (A.scat (ByteArray.mk #[84]) y23) y26) w22)))], o0 := [], r := .c (.v (.int .i64 y30)), o1 := [], fl := true, σ := [], τ := [] }, hf_spec_Checksum16 _ _ hy31, ⟨les_cons (AV.le_refl _) (les_nil), trivial, rfl, rfl, rfl, rfl, trivial, rfl⟩, ?_⟩
      cbv
      replace h := of_bind h
      obtain ⟨y32, hy33, h⟩ := h
      refine ⟨{ args := [.c (.v (.int .i64 y30))], o0 := [], r := .c (.v (.string y32)), o1 := [], fl := true, σ := [], τ := [] }, hf_spec_l13Two _ _ hy33, ⟨les_cons (AV.le_refl _) (les_nil), trivial, rfl, rfl, rfl, rfl, trivial, rfl⟩, ?_⟩
      cbv
      replace h := of_req h
      obtain ⟨c34, h⟩ := h
      refine ⟨c34, ?_⟩
      injection h with h
      subst h
      refine ⟨(sparse 37 [(2, .c (.v (.string (A.scat (A.scat (A.scat (A.scat (ByteArray.mk #[84]) y23) y26) w22) y32))))] []), ?_, ?_⟩
      · exact le_sparse rfl ⟨AV.le_refl _, trivial⟩ trivial rfl
      · exact ⟨AV.le_refl _, trivial, rfl⟩

/-- impl.within -/
noncomputable def F_impl_within (a0 : Int) (a1 : Int) (a2 : Int) : Option (Bool) :=
  ((
        br (std.le a1 a0)
        (some (std.le a0 a2))
        (some false)
    ) : Option (Bool)).bind fun y1 =>
  letO y1 fun w7 =>
  some w7
theorem run_impl_within (a0 : Int) (a1 : Int) (a2 : Int) (r : Bool) (h : F_impl_within a0 a1 a2 = some r) : Fun Try.prog 110 [.c (.v (.int .i64 a0)), .c (.v (.int .i64 a1)), .c (.v (.int .i64 a2))] [] (.c (.v (.bool r))) [] true := by
  refine Fun.of_wp (oneOf [1]) tok mixed Try.func110 (by kernel_rfl) rfl Try.ntmps110 rfl trivial (fun _ => ⟨trivial, trivial⟩) ?_
  unfold F_impl_within at h
  generalize hLEN : @len = LEN at *
  generalize hGD : @gd = GD at *
  generalize hA : std = A at *
  generalize hP : Try.prog = P at *
  cbv
  replace h := of_bind h
  obtain ⟨y1, hy2, h⟩ := h
  obtain ⟨S5, hS6⟩ : ∃ S, S = (sparse 15 [(6, .c (.v (.bool y1)))] []) := ⟨_, rfl⟩
  refine ⟨S5, ?_, ?_⟩
  · clear h
    have h := hy2
    clear hy2
    cbv
    refine fork (fun b8 => ?_) (fun b8 => ?_)
    · replace h := of_br_t b8 h
      cbv
      injection h with h
      subst h
      subst hS6
      show St.le _ _
      exact le_sparse rfl ⟨AV.le_refl _, trivial⟩ trivial rfl
    · replace h := of_br_f b8 h
      cbv
      injection h with h
      subst h
      subst hS6
      show St.le _ _
      exact le_sparse rfl ⟨AV.le_refl _, trivial⟩ trivial rfl
  · clear hy2
    subst hS6
    replace h := of_let h
    obtain ⟨w7, hw7, h⟩ := h
    have hw7 : w7 = y1 := hw7
    subst hw7
    cbv
    injection h with h
    subst h
    refine ⟨(sparse 15 [(6, .c (.v (.bool w7)))] []), ?_, ?_⟩
    · exact le_sparse rfl ⟨AV.le_refl _, trivial⟩ trivial rfl
    · exact ⟨AV.le_refl _, trivial, rfl⟩

/-- impl.IsValidRect -/
noncomputable def F_impl_IsValidRect (a0 : TRect) : Option (Bool) :=
  ((
        br (std.le (-40) a0.fX0)
        (br (std.lt a0.fX0 a0.fX1)
        (br (std.le a0.fX1 40)
        (br (std.le (-40) a0.fY0)
        (br (std.lt a0.fY0 a0.fY1)
        (some (std.le a0.fY1 40))
        (some false))
        (some false))
        (some false))
        (some false))
        (some false)
    ) : Option (Bool)).bind fun y1 =>
  letO y1 fun w7 =>
  some w7
theorem run_impl_IsValidRect (a0 : TRect) (r : Bool) (h : F_impl_IsValidRect a0 = some r) : Fun Try.prog 109 [.agg [.v (.int .i64 a0.fX0), .v (.int .i64 a0.fY0), .v (.int .i64 a0.fX1), .v (.int .i64 a0.fY1)]] [] (.c (.v (.bool r))) [] true := by
  refine Fun.of_wp (oneOf [1]) tok mixed Try.func109 (by kernel_rfl) rfl Try.ntmps109 rfl trivial (fun _ => ⟨trivial, trivial⟩) ?_
  unfold F_impl_IsValidRect at h
  generalize hLEN : @len = LEN at *
  generalize hGD : @gd = GD at *
  generalize hA : std = A at *
  generalize hP : Try.prog = P at *
  cbv
  replace h := of_bind h
  obtain ⟨y1, hy2, h⟩ := h
  obtain ⟨S5, hS6⟩ : ∃ S, S = (sparse 35 [(2, .c (.v (.bool y1)))] []) := ⟨_, rfl⟩
  refine ⟨S5, ?_, ?_⟩
  · clear h
    have h := hy2
    clear hy2
    cbv
    refine fork (fun b12 => ?_) (fun b12 => ?_)
    · replace h := of_br_t b12 h
      cbv
      refine fork (fun b11 => ?_) (fun b11 => ?_)
      · replace h := of_br_t b11 h
        cbv
        refine fork (fun b10 => ?_) (fun b10 => ?_)
        · replace h := of_br_t b10 h
          cbv
          refine fork (fun b9 => ?_) (fun b9 => ?_)
          · replace h := of_br_t b9 h
            cbv
            refine fork (fun b8 => ?_) (fun b8 => ?_)
            · replace h := of_br_t b8 h
              cbv
              injection h with h
              subst h
              subst hS6
              show St.le _ _
              exact le_sparse rfl ⟨AV.le_refl _, trivial⟩ trivial rfl
            · replace h := of_br_f b8 h
              cbv
              injection h with h
              subst h
              subst hS6
              show St.le _ _
              exact le_sparse rfl ⟨AV.le_refl _, trivial⟩ trivial rfl
          · replace h := of_br_f b9 h
            cbv
            injection h with h
            subst h
            subst hS6
            show St.le _ _
            exact le_sparse rfl ⟨AV.le_refl _, trivial⟩ trivial rfl
        · replace h := of_br_f b10 h
          cbv
          injection h with h
          subst h
          subst hS6
          show St.le _ _
          exact le_sparse rfl ⟨AV.le_refl _, trivial⟩ trivial rfl
      · replace h := of_br_f b11 h
        cbv
        injection h with h
        subst h
        subst hS6
        show St.le _ _
        exact le_sparse rfl ⟨AV.le_refl _, trivial⟩ trivial rfl
    · replace h := of_br_f b12 h
      cbv
      injection h with h
      subst h
      subst hS6
      show St.le _ _
      exact le_sparse rfl ⟨AV.le_refl _, trivial⟩ trivial rfl
  · clear hy2
    subst hS6
    replace h := of_let h
    obtain ⟨w7, hw7, h⟩ := h
    have hw7 : w7 = y1 := hw7
    subst hw7
    cbv
    injection h with h
    subst h
    refine ⟨(sparse 35 [(2, .c (.v (.bool w7)))] []), ?_, ?_⟩
    · exact le_sparse rfl ⟨AV.le_refl _, trivial⟩ trivial rfl
    · exact ⟨AV.le_refl _, trivial, rfl⟩

/-- impl.validShape -/
noncomputable def F_impl_validShape (a0 : TShape) : Option (Bool) :=
  ((
        (F_impl_within a0.fLayer 0 7).bind fun y8 =>
        br y8
        ((F_impl_IsValidRect a0.fBox).bind fun y10 =>
        some y10)
        (some false)
    ) : Option (Bool)).bind fun y1 =>
  letO y1 fun w7 =>
  some w7
theorem run_impl_validShape (a0 : TShape) (r : Bool) (h : F_impl_validShape a0 = some r) : Fun Try.prog 149 [.agg [.v (.int .i64 a0.fLayer), .v (.int .i64 a0.fBox.fX0), .v (.int .i64 a0.fBox.fY0), .v (.int .i64 a0.fBox.fX1), .v (.int .i64 a0.fBox.fY1)]] [] (.c (.v (.bool r))) [] true := by
  refine Fun.of_wp (oneOf [1]) tok mixed Try.func149 (by kernel_rfl) rfl Try.ntmps149 rfl trivial (fun _ => ⟨trivial, trivial⟩) ?_
  unfold F_impl_validShape at h
  have hf_impl_IsValidRect := @run_impl_IsValidRect
  have hf_impl_within := @run_impl_within
  generalize hLEN : @len = LEN at *
  generalize hGD : @gd = GD at *
  generalize hA : std = A at *
  generalize hP : Try.prog = P at *
  cbv
  replace h := of_bind h
  obtain ⟨y1, hy2, h⟩ := h
  obtain ⟨S5, hS6⟩ : ∃ S, S = (sparse 11 [(2, .c (.v (.bool y1)))] []) := ⟨_, rfl⟩
  refine ⟨S5, ?_, ?_⟩
  · clear h
    have h := hy2
    clear hy2
    cbv
    replace h := of_bind h
    obtain ⟨y8, hy9, h⟩ := h
    refine ⟨{ args := [.c (.v (.int .i64 a0.fLayer)), .c (.v (.int .i64 0)), .c (.v (.int .i64 7))], o0 := [], r := .c (.v (.bool y8)), o1 := [], fl := true, σ := [], τ := [] }, hf_impl_within _ _ _ _ hy9, ⟨les_cons (AV.le_refl _) (les_cons (AV.le_refl _) (les_cons (AV.le_refl _) (les_nil))), trivial, rfl, rfl, rfl, rfl, trivial, rfl⟩, ?_⟩
    cbv
    refine fork (fun b12 => ?_) (fun b12 => ?_)
    · replace h := of_br_t b12 h
      cbv
      replace h := of_bind h
      obtain ⟨y10, hy11, h⟩ := h
      refine ⟨{ args := [.agg [.v (.int .i64 a0.fBox.fX0), .v (.int .i64 a0.fBox.fY0), .v (.int .i64 a0.fBox.fX1), .v (.int .i64 a0.fBox.fY1)]], o0 := [], r := .c (.v (.bool y10)), o1 := [], fl := true, σ := [], τ := [] }, hf_impl_IsValidRect _ _ hy11, ⟨les_cons (AV.le_refl _) (les_nil), trivial, rfl, rfl, rfl, rfl, trivial, rfl⟩, ?_⟩
      cbv
      injection h with h
      subst h
      subst hS6
      show St.le _ _
      exact le_sparse rfl ⟨AV.le_refl _, trivial⟩ trivial rfl
    · replace h := of_br_f b12 h
      cbv
      injection h with h
      subst h
      subst hS6
      show St.le _ _
      exact le_sparse rfl ⟨AV.le_refl _, trivial⟩ trivial rfl
  · clear hy2
    subst hS6
    replace h := of_let h
    obtain ⟨w7, hw7, h⟩ := h
    have hw7 : w7 = y1 := hw7
    subst hw7
    cbv
    injection h with h
    subst h
    refine ⟨(sparse 11 [(2, .c (.v (.bool w7)))] []), ?_, ?_⟩
    · exact le_sparse rfl ⟨AV.le_refl _, trivial⟩ trivial rfl
    · exact ⟨AV.le_refl _, trivial, rfl⟩

/-- impl.isUnitCell -/
noncomputable def F_impl_isUnitCell (a0 : TPoint) : Option (Bool) :=
  ((
        (F_impl_within a0.fX (-40) 39).bind fun y8 =>
        br y8
        ((F_impl_within a0.fY (-40) 39).bind fun y10 =>
        some y10)
        (some false)
    ) : Option (Bool)).bind fun y1 =>
  letO y1 fun w7 =>
  some w7
theorem run_impl_isUnitCell (a0 : TPoint) (r : Bool) (h : F_impl_isUnitCell a0 = some r) : Fun Try.prog 195 [.agg [.v (.int .i64 a0.fX), .v (.int .i64 a0.fY)]] [] (.c (.v (.bool r))) [] true := by
  refine Fun.of_wp (oneOf [1]) tok mixed Try.func195 (by kernel_rfl) rfl Try.ntmps195 rfl trivial (fun _ => ⟨trivial, trivial⟩) ?_
  unfold F_impl_isUnitCell at h
  have hf_impl_within := @run_impl_within
  generalize hLEN : @len = LEN at *
  generalize hGD : @gd = GD at *
  generalize hA : std = A at *
  generalize hP : Try.prog = P at *
  cbv
  replace h := of_bind h
  obtain ⟨y1, hy2, h⟩ := h
  obtain ⟨S5, hS6⟩ : ∃ S, S = (sparse 11 [(2, .c (.v (.bool y1)))] []) := ⟨_, rfl⟩
  refine ⟨S5, ?_, ?_⟩
  · clear h
    have h := hy2
    clear hy2
    cbv
    replace h := of_bind h
    obtain ⟨y8, hy9, h⟩ := h
    refine ⟨{ args := [.c (.v (.int .i64 a0.fX)), .c (.v (.int .i64 (-40))), .c (.v (.int .i64 39))], o0 := [], r := .c (.v (.bool y8)), o1 := [], fl := true, σ := [], τ := [] }, hf_impl_within _ _ _ _ hy9, ⟨les_cons (AV.le_refl _) (les_cons (AV.le_refl _) (les_cons (AV.le_refl _) (les_nil))), trivial, rfl, rfl, rfl, rfl, trivial, rfl⟩, ?_⟩
    cbv
    refine fork (fun b12 => ?_) (fun b12 => ?_)
    · replace h := of_br_t b12 h
      cbv
      replace h := of_bind h
      obtain ⟨y10, hy11, h⟩ := h
      refine ⟨{ args := [.c (.v (.int .i64 a0.fY)), .c (.v (.int .i64 (-40))), .c (.v (.int .i64 39))], o0 := [], r := .c (.v (.bool y10)), o1 := [], fl := true, σ := [], τ := [] }, hf_impl_within _ _ _ _ hy11, ⟨les_cons (AV.le_refl _) (les_cons (AV.le_refl _) (les_cons (AV.le_refl _) (les_nil))), trivial, rfl, rfl, rfl, rfl, trivial, rfl⟩, ?_⟩
      cbv
      injection h with h
      subst h
      subst hS6
      show St.le _ _
      exact le_sparse rfl ⟨AV.le_refl _, trivial⟩ trivial rfl
    · replace h := of_br_f b12 h
      cbv
      injection h with h
      subst h
      subst hS6
      show St.le _ _
      exact le_sparse rfl ⟨AV.le_refl _, trivial⟩ trivial rfl
  · clear hy2
    subst hS6
    replace h := of_let h
    obtain ⟨w7, hw7, h⟩ := h
    have hw7 : w7 = y1 := hw7
    subst hw7
    cbv
    injection h with h
    subst h
    refine ⟨(sparse 11 [(2, .c (.v (.bool w7)))] []), ?_, ?_⟩
    · exact le_sparse rfl ⟨AV.le_refl _, trivial⟩ trivial rfl
    · exact ⟨AV.le_refl _, trivial, rfl⟩

noncomputable def L_impl_IsName_x2 (a0 : ByteArray) : (Int) → Option ((Int) ⊕ ((Unit) ⊕ (Unit))) := fun x2 =>
  letO x2 fun v1 =>
  br (std.lt v1 (std.ofN (std.slen a0)))
  (((
        req (std.inR v1 (std.slen a0)) <|
        br (std.lt (std.sat a0 (std.toN v1)) 97)
        (req (std.inR v1 (std.slen a0)) <|
        br (std.lt (std.sat a0 (std.toN v1)) 48)
        (some true)
        (req (std.inR v1 (std.slen a0)) <|
        some (std.lt 57 (std.sat a0 (std.toN v1)))))
        (req (std.inR v1 (std.slen a0)) <|
        br (std.lt 122 (std.sat a0 (std.toN v1)))
        (req (std.inR v1 (std.slen a0)) <|
        br (std.lt (std.sat a0 (std.toN v1)) 48)
        (some true)
        (req (std.inR v1 (std.slen a0)) <|
        some (std.lt 57 (std.sat a0 (std.toN v1)))))
        (some false))
    ) : Option (Bool)).bind fun y14 =>
  letO y14 fun w20 =>
  br w20
  (some (.inr (.inl ())))
  (some (.inl (std.add .i64 v1 1))))
  (some (.inr (.inr ())))
/-- impl.IsName -/
noncomputable def F_impl_IsName (a0 : ByteArray) : Option (Bool) :=
  (whileP (σ := Int) (ρ := (Unit) ⊕ (Unit)) (L_impl_IsName_x2 a0) 0).bind fun y3 =>
  (match y3 with
    | .inl y3k0 => (
        some false)
    | .inr y3m0 =>
        ((
              br (std.le 1 (std.ofN (std.slen a0)))
              (some (std.le (std.ofN (std.slen a0)) 8))
              (some false)
          ) : Option (Bool)).bind fun y33 =>
        letO y33 fun w39 =>
        some w39)
theorem run_impl_IsName (a0 : ByteArray) (r : Bool) (h : F_impl_IsName a0 = some r) : Fun Try.prog 152 [.c (.v (.string a0))] [] (.c (.v (.bool r))) [] true := by
  refine Fun.of_wp (oneOf [4, 6]) tok mixed Try.func152 (by kernel_rfl) rfl Try.ntmps152 rfl trivial (fun _ => ⟨trivial, trivial⟩) ?_
  unfold F_impl_IsName at h
  unfold L_impl_IsName_x2 at h
  generalize hLEN : @len = LEN at *
  generalize hGD : @gd = GD at *
  generalize hA : std = A at *
  generalize hP : Try.prog = P at *
  cbv
  replace h := of_bind h
  obtain ⟨y3, hr4, hN5⟩ := h
  refine loop_cut hr4 (fun x => (sparse 40 [(0, .c (.v (.string a0))), (3, .c (.v (.int .i64 x)))] [])) ?_ (fun y e s => (match y with | .inl w => e = .ret ∧ s.le (sparse 40 [(2, .c (.v (.bool false)))] []) | .inr w0 => (fun (w : Unit) => e = .exit 0 ∧ s.le (sparse 40 [(0, .c (.v (.string a0)))] [])) w0)) ?_ ?_
  · clear hr4 hN5
    show St.le _ _
    exact le_sparse rfl ⟨AV.le_refl _, AV.le_refl _, trivial⟩ trivial rfl
  · clear hr4 hN5
    intro x z9 h K7 hK8 hY6
    replace h := of_let h
    obtain ⟨v1, hv1, h⟩ := h
    have hv1 : v1 = x := hv1
    subst hv1
    cbv
    refine fork (fun b32 => ?_) (fun b32 => ?_)
    · replace h := of_br_t b32 h
      cbv
      replace h := of_bind h
      obtain ⟨y14, hy15, h⟩ := h
      obtain ⟨S18, hS19⟩ : ∃ S, S = (sparse 40 [(0, .c (.v (.string a0))), (3, .c (.v (.int .i64 v1))), (31, .c (.v (.bool y14)))] []) := ⟨_, rfl⟩
      refine ⟨S18, ?_, ?_⟩
      · clear h
        have h := hy15
        clear hy15
        cbv
        replace h := of_req h
        obtain ⟨c21, h⟩ := h
        refine ⟨c21, ?_⟩
        refine fork (fun b30 => ?_) (fun b30 => ?_)
        · replace h := of_br_t b30 h
          cbv
          replace h := of_req h
          obtain ⟨c27, h⟩ := h
          refine ⟨c27, ?_⟩
          refine fork (fun b29 => ?_) (fun b29 => ?_)
          · replace h := of_br_t b29 h
            cbv
            injection h with h
            subst h
            subst hS19
            show St.le _ _
            exact le_sparse rfl ⟨AV.le_refl _, AV.le_refl _, AV.le_refl _, trivial⟩ trivial rfl
          · replace h := of_br_f b29 h
            cbv
            replace h := of_req h
            obtain ⟨c28, h⟩ := h
            refine ⟨c28, ?_⟩
            injection h with h
            subst h
            subst hS19
            show St.le _ _
            exact le_sparse rfl ⟨AV.le_refl _, AV.le_refl _, AV.le_refl _, trivial⟩ trivial rfl
        · replace h := of_br_f b30 h
          cbv
          replace h := of_req h
          obtain ⟨c22, h⟩ := h
          refine ⟨c22, ?_⟩
          refine fork (fun b26 => ?_) (fun b26 => ?_)
          · replace h := of_br_t b26 h
            cbv
            replace h := of_req h
            obtain ⟨c23, h⟩ := h
            refine ⟨c23, ?_⟩
            refine fork (fun b25 => ?_) (fun b25 => ?_)
            · replace h := of_br_t b25 h
              cbv
              injection h with h
              subst h
              subst hS19
              show St.le _ _
              exact le_sparse rfl ⟨AV.le_refl _, AV.le_refl _, AV.le_refl _, trivial⟩ trivial rfl
            · replace h := of_br_f b25 h
              cbv
              replace h := of_req h
              obtain ⟨c24, h⟩ := h
              refine ⟨c24, ?_⟩
              injection h with h
              subst h
              subst hS19
              show St.le _ _
              exact le_sparse rfl ⟨AV.le_refl _, AV.le_refl _, AV.le_refl _, trivial⟩ trivial rfl
          · replace h := of_br_f b26 h
            cbv
            injection h with h
            subst h
            subst hS19
            show St.le _ _
            exact le_sparse rfl ⟨AV.le_refl _, AV.le_refl _, AV.le_refl _, trivial⟩ trivial rfl
      · clear hy15
        subst hS19
        replace h := of_let h
        obtain ⟨w20, hw20, h⟩ := h
        have hw20 : w20 = y14 := hw20
        subst hw20
        cbv
        refine fork (fun b31 => ?_) (fun b31 => ?_)
        · replace h := of_br_t b31 h
          cbv
          injection h with h
          refine hY6 _ h.symm _ _ (And.intro rfl ?_) (by intro hh; cases hh)
          exact le_sparse rfl ⟨AV.le_refl _, trivial⟩ trivial rfl
        · replace h := of_br_f b31 h
          cbv
          injection h with h
          refine hK8 _ h.symm _ ?_
          exact le_sparse rfl ⟨AV.le_refl _, AV.le_refl _, trivial⟩ trivial rfl
    · replace h := of_br_f b32 h
      cbv
      injection h with h
      refine hY6 _ h.symm _ _ (And.intro rfl ?_) (by intro hh; cases hh)
      exact le_sparse rfl ⟨AV.le_refl _, trivial⟩ trivial rfl
  · clear hr4
    have h := hN5
    clear hN5
    intro e12 s13 q11 hne
    rcases y3 with y3k0 | y3m0
    · replace h := h
      obtain ⟨rfl, q11⟩ := q11
      cbv
      injection h with h
      subst h
      refine ⟨(sparse 40 [(2, .c (.v (.bool false)))] []), ?_, ?_⟩
      · refine St.le_trans q11 ?_
        exact le_sparse rfl ⟨AV.le_refl _, trivial⟩ trivial rfl
      · exact ⟨AV.le_refl _, trivial, rfl⟩
    · obtain ⟨rfl, q11⟩ := q11
      cbv
      refine ⟨_, q11, ?_⟩
      cbv
      replace h := of_bind h
      obtain ⟨y33, hy34, h⟩ := h
      obtain ⟨S37, hS38⟩ : ∃ S, S = (sparse 40 [(2, .c (.v (.bool y33)))] []) := ⟨_, rfl⟩
      refine ⟨S37, ?_, ?_⟩
      · clear h
        have h := hy34
        clear hy34
        cbv
        refine fork (fun b40 => ?_) (fun b40 => ?_)
        · replace h := of_br_t b40 h
          cbv
          injection h with h
          subst h
          subst hS38
          show St.le _ _
          exact le_sparse rfl ⟨AV.le_refl _, trivial⟩ trivial rfl
        · replace h := of_br_f b40 h
          cbv
          injection h with h
          subst h
          subst hS38
          show St.le _ _
          exact le_sparse rfl ⟨AV.le_refl _, trivial⟩ trivial rfl
      · clear hy34
        subst hS38
        replace h := of_let h
        obtain ⟨w39, hw39, h⟩ := h
        have hw39 : w39 = y33 := hw39
        subst hw39
        cbv
        injection h with h
        subst h
        refine ⟨(sparse 40 [(2, .c (.v (.bool w39)))] []), ?_, ?_⟩
        · exact le_sparse rfl ⟨AV.le_refl _, trivial⟩ trivial rfl
        · exact ⟨AV.le_refl _, trivial, rfl⟩
/-- impl.validLabel -/
noncomputable def F_impl_validLabel (a0 : TLabel) : Option (Bool) :=
  ((
        (F_impl_within a0.fLayer 0 7).bind fun y8 =>
        br y8
        ((F_impl_isUnitCell a0.fAt).bind fun y10 =>
        br y10
        ((F_impl_IsName a0.fName).bind fun y12 =>
        some y12)
        (some false))
        (some false)
    ) : Option (Bool)).bind fun y1 =>
  letO y1 fun w7 =>
  some w7
theorem run_impl_validLabel (a0 : TLabel) (r : Bool) (h : F_impl_validLabel a0 = some r) : Fun Try.prog 150 [.agg [.v (.int .i64 a0.fLayer), .v (.int .i64 a0.fAt.fX), .v (.int .i64 a0.fAt.fY), .v (.string a0.fName)]] [] (.c (.v (.bool r))) [] true := by
  refine Fun.of_wp (oneOf [1]) tok mixed Try.func150 (by kernel_rfl) rfl Try.ntmps150 rfl trivial (fun _ => ⟨trivial, trivial⟩) ?_
  unfold F_impl_validLabel at h
  have hf_impl_IsName := @run_impl_IsName
  have hf_impl_isUnitCell := @run_impl_isUnitCell
  have hf_impl_within := @run_impl_within
  generalize hLEN : @len = LEN at *
  generalize hGD : @gd = GD at *
  generalize hA : std = A at *
  generalize hP : Try.prog = P at *
  cbv
  replace h := of_bind h
  obtain ⟨y1, hy2, h⟩ := h
  obtain ⟨S5, hS6⟩ : ∃ S, S = (sparse 16 [(2, .c (.v (.bool y1)))] []) := ⟨_, rfl⟩
  refine ⟨S5, ?_, ?_⟩
  · clear h
    have h := hy2
    clear hy2
    cbv
    replace h := of_bind h
    obtain ⟨y8, hy9, h⟩ := h
    refine ⟨{ args := [.c (.v (.int .i64 a0.fLayer)), .c (.v (.int .i64 0)), .c (.v (.int .i64 7))], o0 := [], r := .c (.v (.bool y8)), o1 := [], fl := true, σ := [], τ := [] }, hf_impl_within _ _ _ _ hy9, ⟨les_cons (AV.le_refl _) (les_cons (AV.le_refl _) (les_cons (AV.le_refl _) (les_nil))), trivial, rfl, rfl, rfl, rfl, trivial, rfl⟩, ?_⟩
    cbv
    refine fork (fun b15 => ?_) (fun b15 => ?_)
    · replace h := of_br_t b15 h
      cbv
      replace h := of_bind h
      obtain ⟨y10, hy11, h⟩ := h
      refine ⟨{ args := [.agg [.v (.int .i64 a0.fAt.fX), .v (.int .i64 a0.fAt.fY)]], o0 := [], r := .c (.v (.bool y10)), o1 := [], fl := true, σ := [], τ := [] }, hf_impl_isUnitCell _ _ hy11, ⟨les_cons (AV.le_refl _) (les_nil), trivial, rfl, rfl, rfl, rfl, trivial, rfl⟩, ?_⟩
      cbv
      refine fork (fun b14 => ?_) (fun b14 => ?_)
      · replace h := of_br_t b14 h
        cbv
        replace h := of_bind h
        obtain ⟨y12, hy13, h⟩ := h
        refine ⟨{ args := [.c (.v (.string a0.fName))], o0 := [], r := .c (.v (.bool y12)), o1 := [], fl := true, σ := [], τ := [] }, hf_impl_IsName _ _ hy13, ⟨les_cons (AV.le_refl _) (les_nil), trivial, rfl, rfl, rfl, rfl, trivial, rfl⟩, ?_⟩
        cbv
        injection h with h
        subst h
        subst hS6
        show St.le _ _
        exact le_sparse rfl ⟨AV.le_refl _, trivial⟩ trivial rfl
      · replace h := of_br_f b14 h
        cbv
        injection h with h
        subst h
        subst hS6
        show St.le _ _
        exact le_sparse rfl ⟨AV.le_refl _, trivial⟩ trivial rfl
    · replace h := of_br_f b15 h
      cbv
      injection h with h
      subst h
      subst hS6
      show St.le _ _
      exact le_sparse rfl ⟨AV.le_refl _, trivial⟩ trivial rfl
  · clear hy2
    subst hS6
    replace h := of_let h
    obtain ⟨w7, hw7, h⟩ := h
    have hw7 : w7 = y1 := hw7
    subst hw7
    cbv
    injection h with h
    subst h
    refine ⟨(sparse 16 [(2, .c (.v (.bool w7)))] []), ?_, ?_⟩
    · exact le_sparse rfl ⟨AV.le_refl _, trivial⟩ trivial rfl
    · exact ⟨AV.le_refl _, trivial, rfl⟩

/-- impl.IsValidTransform -/
noncomputable def F_impl_IsValidTransform (a0 : TTransform) : Option (Bool) :=
  ((
        (F_impl_within a0.fOrientation 0 7).bind fun y8 =>
        br y8
        ((F_impl_within a0.fX (-80) 80).bind fun y10 =>
        br y10
        ((F_impl_within a0.fY (-80) 80).bind fun y12 =>
        some y12)
        (some false))
        (some false)
    ) : Option (Bool)).bind fun y1 =>
  letO y1 fun w7 =>
  some w7
theorem run_impl_IsValidTransform (a0 : TTransform) (r : Bool) (h : F_impl_IsValidTransform a0 = some r) : Fun Try.prog 196 [.agg [.v (.int .i64 a0.fOrientation), .v (.int .i64 a0.fX), .v (.int .i64 a0.fY)]] [] (.c (.v (.bool r))) [] true := by
  refine Fun.of_wp (oneOf [1]) tok mixed Try.func196 (by kernel_rfl) rfl Try.ntmps196 rfl trivial (fun _ => ⟨trivial, trivial⟩) ?_
  unfold F_impl_IsValidTransform at h
  have hf_impl_within := @run_impl_within
  generalize hLEN : @len = LEN at *
  generalize hGD : @gd = GD at *
  generalize hA : std = A at *
  generalize hP : Try.prog = P at *
  cbv
  replace h := of_bind h
  obtain ⟨y1, hy2, h⟩ := h
  obtain ⟨S5, hS6⟩ : ∃ S, S = (sparse 16 [(2, .c (.v (.bool y1)))] []) := ⟨_, rfl⟩
  refine ⟨S5, ?_, ?_⟩
  · clear h
    have h := hy2
    clear hy2
    cbv
    replace h := of_bind h
    obtain ⟨y8, hy9, h⟩ := h
    refine ⟨{ args := [.c (.v (.int .i64 a0.fOrientation)), .c (.v (.int .i64 0)), .c (.v (.int .i64 7))], o0 := [], r := .c (.v (.bool y8)), o1 := [], fl := true, σ := [], τ := [] }, hf_impl_within _ _ _ _ hy9, ⟨les_cons (AV.le_refl _) (les_cons (AV.le_refl _) (les_cons (AV.le_refl _) (les_nil))), trivial, rfl, rfl, rfl, rfl, trivial, rfl⟩, ?_⟩
    cbv
    refine fork (fun b15 => ?_) (fun b15 => ?_)
    · replace h := of_br_t b15 h
      cbv
      replace h := of_bind h
      obtain ⟨y10, hy11, h⟩ := h
      refine ⟨{ args := [.c (.v (.int .i64 a0.fX)), .c (.v (.int .i64 (-80))), .c (.v (.int .i64 80))], o0 := [], r := .c (.v (.bool y10)), o1 := [], fl := true, σ := [], τ := [] }, hf_impl_within _ _ _ _ hy11, ⟨les_cons (AV.le_refl _) (les_cons (AV.le_refl _) (les_cons (AV.le_refl _) (les_nil))), trivial, rfl, rfl, rfl, rfl, trivial, rfl⟩, ?_⟩
      cbv
      refine fork (fun b14 => ?_) (fun b14 => ?_)
      · replace h := of_br_t b14 h
        cbv
        replace h := of_bind h
        obtain ⟨y12, hy13, h⟩ := h
        refine ⟨{ args := [.c (.v (.int .i64 a0.fY)), .c (.v (.int .i64 (-80))), .c (.v (.int .i64 80))], o0 := [], r := .c (.v (.bool y12)), o1 := [], fl := true, σ := [], τ := [] }, hf_impl_within _ _ _ _ hy13, ⟨les_cons (AV.le_refl _) (les_cons (AV.le_refl _) (les_cons (AV.le_refl _) (les_nil))), trivial, rfl, rfl, rfl, rfl, trivial, rfl⟩, ?_⟩
        cbv
        injection h with h
        subst h
        subst hS6
        show St.le _ _
        exact le_sparse rfl ⟨AV.le_refl _, trivial⟩ trivial rfl
      · replace h := of_br_f b14 h
        cbv
        injection h with h
        subst h
        subst hS6
        show St.le _ _
        exact le_sparse rfl ⟨AV.le_refl _, trivial⟩ trivial rfl
    · replace h := of_br_f b15 h
      cbv
      injection h with h
      subst h
      subst hS6
      show St.le _ _
      exact le_sparse rfl ⟨AV.le_refl _, trivial⟩ trivial rfl
  · clear hy2
    subst hS6
    replace h := of_let h
    obtain ⟨w7, hw7, h⟩ := h
    have hw7 : w7 = y1 := hw7
    subst hw7
    cbv
    injection h with h
    subst h
    refine ⟨(sparse 16 [(2, .c (.v (.bool w7)))] []), ?_, ?_⟩
    · exact le_sparse rfl ⟨AV.le_refl _, trivial⟩ trivial rfl
    · exact ⟨AV.le_refl _, trivial, rfl⟩

/-- impl.validInstance -/
noncomputable def F_impl_validInstance (a0 : TInstance) (a1 : Int) : Option (Bool) :=
  ((
        (F_impl_within a0.fCell 0 (std.sub .i64 a1 1)).bind fun y8 =>
        br y8
        ((F_impl_IsValidTransform a0.fPlace).bind fun y10 =>
        br y10
        ((F_impl_within a0.fColumns 1 4).bind fun y12 =>
        br y12
        ((F_impl_within a0.fRows 1 4).bind fun y14 =>
        br y14
        ((F_impl_within a0.fStepX (-80) 80).bind fun y16 =>
        br y16
        ((F_impl_within a0.fStepY (-80) 80).bind fun y18 =>
        br y18
        (br (std.eq a0.fStepX 0)
        (br (std.eq a0.fStepY 0)
        (some true)
        (some (std.lt 1 a0.fRows)))
        (br (std.lt 1 a0.fColumns)
        (br (std.eq a0.fStepY 0)
        (some true)
        (some (std.lt 1 a0.fRows)))
        (some false)))
        (some false))
        (some false))
        (some false))
        (some false))
        (some false))
        (some false)
    ) : Option (Bool)).bind fun y1 =>
  letO y1 fun w7 =>
  some w7
theorem run_impl_validInstance (a0 : TInstance) (a1 : Int) (r : Bool) (h : F_impl_validInstance a0 a1 = some r) : Fun Try.prog 151 [.agg [.v (.int .i64 a0.fCell), .v (.int .i64 a0.fPlace.fOrientation), .v (.int .i64 a0.fPlace.fX), .v (.int .i64 a0.fPlace.fY), .v (.int .i64 a0.fColumns), .v (.int .i64 a0.fRows), .v (.int .i64 a0.fStepX), .v (.int .i64 a0.fStepY)], .c (.v (.int .i64 a1))] [] (.c (.v (.bool r))) [] true := by
  refine Fun.of_wp (oneOf [1]) tok mixed Try.func151 (by kernel_rfl) rfl Try.ntmps151 rfl trivial (fun _ => ⟨trivial, trivial⟩) ?_
  unfold F_impl_validInstance at h
  have hf_impl_IsValidTransform := @run_impl_IsValidTransform
  have hf_impl_within := @run_impl_within
  generalize hLEN : @len = LEN at *
  generalize hGD : @gd = GD at *
  generalize hA : std = A at *
  generalize hP : Try.prog = P at *
  cbv
  replace h := of_bind h
  obtain ⟨y1, hy2, h⟩ := h
  obtain ⟨S5, hS6⟩ : ∃ S, S = (sparse 55 [(4, .c (.v (.bool y1)))] []) := ⟨_, rfl⟩
  refine ⟨S5, ?_, ?_⟩
  · clear h
    have h := hy2
    clear hy2
    cbv
    replace h := of_bind h
    obtain ⟨y8, hy9, h⟩ := h
    refine ⟨{ args := [.c (.v (.int .i64 a0.fCell)), .c (.v (.int .i64 0)), .c (.v (.int .i64 (A.sub .i64 a1 1)))], o0 := [], r := .c (.v (.bool y8)), o1 := [], fl := true, σ := [], τ := [] }, hf_impl_within _ _ _ _ hy9, ⟨les_cons (AV.le_refl _) (les_cons (AV.le_refl _) (les_cons (AV.le_refl _) (les_nil))), trivial, rfl, rfl, rfl, rfl, trivial, rfl⟩, ?_⟩
    cbv
    refine fork (fun b29 => ?_) (fun b29 => ?_)
    · replace h := of_br_t b29 h
      cbv
      replace h := of_bind h
      obtain ⟨y10, hy11, h⟩ := h
      refine ⟨{ args := [.agg [.v (.int .i64 a0.fPlace.fOrientation), .v (.int .i64 a0.fPlace.fX), .v (.int .i64 a0.fPlace.fY)]], o0 := [], r := .c (.v (.bool y10)), o1 := [], fl := true, σ := [], τ := [] }, hf_impl_IsValidTransform _ _ hy11, ⟨les_cons (AV.le_refl _) (les_nil), trivial, rfl, rfl, rfl, rfl, trivial, rfl⟩, ?_⟩
      cbv
      refine fork (fun b28 => ?_) (fun b28 => ?_)
      · replace h := of_br_t b28 h
        cbv
        replace h := of_bind h
        obtain ⟨y12, hy13, h⟩ := h
        refine ⟨{ args := [.c (.v (.int .i64 a0.fColumns)), .c (.v (.int .i64 1)), .c (.v (.int .i64 4))], o0 := [], r := .c (.v (.bool y12)), o1 := [], fl := true, σ := [], τ := [] }, hf_impl_within _ _ _ _ hy13, ⟨les_cons (AV.le_refl _) (les_cons (AV.le_refl _) (les_cons (AV.le_refl _) (les_nil))), trivial, rfl, rfl, rfl, rfl, trivial, rfl⟩, ?_⟩
        cbv
        refine fork (fun b27 => ?_) (fun b27 => ?_)
        · replace h := of_br_t b27 h
          cbv
          replace h := of_bind h
          obtain ⟨y14, hy15, h⟩ := h
          refine ⟨{ args := [.c (.v (.int .i64 a0.fRows)), .c (.v (.int .i64 1)), .c (.v (.int .i64 4))], o0 := [], r := .c (.v (.bool y14)), o1 := [], fl := true, σ := [], τ := [] }, hf_impl_within _ _ _ _ hy15, ⟨les_cons (AV.le_refl _) (les_cons (AV.le_refl _) (les_cons (AV.le_refl _) (les_nil))), trivial, rfl, rfl, rfl, rfl, trivial, rfl⟩, ?_⟩
          cbv
          refine fork (fun b26 => ?_) (fun b26 => ?_)
          · replace h := of_br_t b26 h
            cbv
            replace h := of_bind h
            obtain ⟨y16, hy17, h⟩ := h
            refine ⟨{ args := [.c (.v (.int .i64 a0.fStepX)), .c (.v (.int .i64 (-80))), .c (.v (.int .i64 80))], o0 := [], r := .c (.v (.bool y16)), o1 := [], fl := true, σ := [], τ := [] }, hf_impl_within _ _ _ _ hy17, ⟨les_cons (AV.le_refl _) (les_cons (AV.le_refl _) (les_cons (AV.le_refl _) (les_nil))), trivial, rfl, rfl, rfl, rfl, trivial, rfl⟩, ?_⟩
            cbv
            refine fork (fun b25 => ?_) (fun b25 => ?_)
            · replace h := of_br_t b25 h
              cbv
              replace h := of_bind h
              obtain ⟨y18, hy19, h⟩ := h
              refine ⟨{ args := [.c (.v (.int .i64 a0.fStepY)), .c (.v (.int .i64 (-80))), .c (.v (.int .i64 80))], o0 := [], r := .c (.v (.bool y18)), o1 := [], fl := true, σ := [], τ := [] }, hf_impl_within _ _ _ _ hy19, ⟨les_cons (AV.le_refl _) (les_cons (AV.le_refl _) (les_cons (AV.le_refl _) (les_nil))), trivial, rfl, rfl, rfl, rfl, trivial, rfl⟩, ?_⟩
              cbv
              refine fork (fun b24 => ?_) (fun b24 => ?_)
              · replace h := of_br_t b24 h
                cbv
                refine fork (fun b23 => ?_) (fun b23 => ?_)
                · replace h := of_br_t b23 h
                  cbv
                  refine fork (fun b22 => ?_) (fun b22 => ?_)
                  · replace h := of_br_t b22 h
                    cbv
                    injection h with h
                    subst h
                    subst hS6
                    show St.le _ _
                    exact le_sparse rfl ⟨AV.le_refl _, trivial⟩ trivial rfl
                  · replace h := of_br_f b22 h
                    cbv
                    injection h with h
                    subst h
                    subst hS6
                    show St.le _ _
                    exact le_sparse rfl ⟨AV.le_refl _, trivial⟩ trivial rfl
                · replace h := of_br_f b23 h
                  cbv
                  refine fork (fun b21 => ?_) (fun b21 => ?_)
                  · replace h := of_br_t b21 h
                    cbv
                    refine fork (fun b20 => ?_) (fun b20 => ?_)
                    · replace h := of_br_t b20 h
                      cbv
                      injection h with h
                      subst h
                      subst hS6
                      show St.le _ _
                      exact le_sparse rfl ⟨AV.le_refl _, trivial⟩ trivial rfl
                    · replace h := of_br_f b20 h
                      cbv
                      injection h with h
                      subst h
                      subst hS6
                      show St.le _ _
                      exact le_sparse rfl ⟨AV.le_refl _, trivial⟩ trivial rfl
                  · replace h := of_br_f b21 h
                    cbv
                    injection h with h
                    subst h
                    subst hS6
                    show St.le _ _
                    exact le_sparse rfl ⟨AV.le_refl _, trivial⟩ trivial rfl
              · replace h := of_br_f b24 h
                cbv
                injection h with h
                subst h
                subst hS6
                show St.le _ _
                exact le_sparse rfl ⟨AV.le_refl _, trivial⟩ trivial rfl
            · replace h := of_br_f b25 h
              cbv
              injection h with h
              subst h
              subst hS6
              show St.le _ _
              exact le_sparse rfl ⟨AV.le_refl _, trivial⟩ trivial rfl
          · replace h := of_br_f b26 h
            cbv
            injection h with h
            subst h
            subst hS6
            show St.le _ _
            exact le_sparse rfl ⟨AV.le_refl _, trivial⟩ trivial rfl
        · replace h := of_br_f b27 h
          cbv
          injection h with h
          subst h
          subst hS6
          show St.le _ _
          exact le_sparse rfl ⟨AV.le_refl _, trivial⟩ trivial rfl
      · replace h := of_br_f b28 h
        cbv
        injection h with h
        subst h
        subst hS6
        show St.le _ _
        exact le_sparse rfl ⟨AV.le_refl _, trivial⟩ trivial rfl
    · replace h := of_br_f b29 h
      cbv
      injection h with h
      subst h
      subst hS6
      show St.le _ _
      exact le_sparse rfl ⟨AV.le_refl _, trivial⟩ trivial rfl
  · clear hy2
    subst hS6
    replace h := of_let h
    obtain ⟨w7, hw7, h⟩ := h
    have hw7 : w7 = y1 := hw7
    subst hw7
    cbv
    injection h with h
    subst h
    refine ⟨(sparse 55 [(4, .c (.v (.bool w7)))] []), ?_, ?_⟩
    · exact le_sparse rfl ⟨AV.le_refl _, trivial⟩ trivial rfl
    · exact ⟨AV.le_refl _, trivial, rfl⟩

/-- impl.IsValidEdit -/
noncomputable def F_impl_IsValidEdit (a0 : TEdit) : Option (Bool) :=
  ((
        (F_impl_within a0.fCell 0 8).bind fun y8 =>
        br (!(y8))
        (some true)
        ((F_impl_within a0.fIndex 0 24).bind fun y10 =>
        some (!(y10)))
    ) : Option (Bool)).bind fun y1 =>
  letO y1 fun w7 =>
  br w7
  (some false)
  (br (std.eq a0.fKind 1)
  (((
        br (std.band (std.eq a0.fKind a0.fKind) (std.band (std.eq a0.fCell a0.fCell) (std.band (std.eq a0.fIndex a0.fIndex) (std.band (std.seq (ByteArray.mk #[]) a0.fName) (std.band (std.band (std.eq a0.fShape.fLayer a0.fShape.fLayer) (std.band (std.band (std.eq a0.fShape.fBox.fX0 a0.fShape.fBox.fX0) (std.band (std.eq a0.fShape.fBox.fY0 a0.fShape.fBox.fY0) (std.band (std.eq a0.fShape.fBox.fX1 a0.fShape.fBox.fX1) (std.band (std.eq a0.fShape.fBox.fY1 a0.fShape.fBox.fY1) (true))))) (true))) (std.band (std.band (std.eq 0 a0.fLabel.fLayer) (std.band (std.band (std.eq 0 a0.fLabel.fAt.fX) (std.band (std.eq 0 a0.fLabel.fAt.fY) (true))) (std.band (std.seq (ByteArray.mk #[]) a0.fLabel.fName) (true)))) (std.band (std.band (std.eq 0 a0.fInstance.fCell) (std.band (std.band (std.eq 0 a0.fInstance.fPlace.fOrientation) (std.band (std.eq 0 a0.fInstance.fPlace.fX) (std.band (std.eq 0 a0.fInstance.fPlace.fY) (true)))) (std.band (std.eq 0 a0.fInstance.fColumns) (std.band (std.eq 0 a0.fInstance.fRows) (std.band (std.eq 0 a0.fInstance.fStepX) (std.band (std.eq 0 a0.fInstance.fStepY) (true))))))) (true))))))))
        ((F_impl_validShape a0.fShape).bind fun y20 =>
        some y20)
        (some false)
    ) : Option (Bool)).bind fun y13 =>
  letO y13 fun w19 =>
  some w19)
  (br (std.eq a0.fKind 3)
  (((
        br (std.band (std.eq a0.fKind a0.fKind) (std.band (std.eq a0.fCell a0.fCell) (std.band (std.eq a0.fIndex a0.fIndex) (std.band (std.seq (ByteArray.mk #[]) a0.fName) (std.band (std.band (std.eq 0 a0.fShape.fLayer) (std.band (std.band (std.eq 0 a0.fShape.fBox.fX0) (std.band (std.eq 0 a0.fShape.fBox.fY0) (std.band (std.eq 0 a0.fShape.fBox.fX1) (std.band (std.eq 0 a0.fShape.fBox.fY1) (true))))) (true))) (std.band (std.band (std.eq a0.fLabel.fLayer a0.fLabel.fLayer) (std.band (std.band (std.eq a0.fLabel.fAt.fX a0.fLabel.fAt.fX) (std.band (std.eq a0.fLabel.fAt.fY a0.fLabel.fAt.fY) (true))) (std.band (std.seq a0.fLabel.fName a0.fLabel.fName) (true)))) (std.band (std.band (std.eq 0 a0.fInstance.fCell) (std.band (std.band (std.eq 0 a0.fInstance.fPlace.fOrientation) (std.band (std.eq 0 a0.fInstance.fPlace.fX) (std.band (std.eq 0 a0.fInstance.fPlace.fY) (true)))) (std.band (std.eq 0 a0.fInstance.fColumns) (std.band (std.eq 0 a0.fInstance.fRows) (std.band (std.eq 0 a0.fInstance.fStepX) (std.band (std.eq 0 a0.fInstance.fStepY) (true))))))) (true))))))))
        ((F_impl_validLabel a0.fLabel).bind fun y30 =>
        some y30)
        (some false)
    ) : Option (Bool)).bind fun y23 =>
  letO y23 fun w29 =>
  some w29)
  (br (std.eq a0.fKind 5)
  (((
        br (std.band (std.eq a0.fKind a0.fKind) (std.band (std.eq a0.fCell a0.fCell) (std.band (std.eq a0.fIndex a0.fIndex) (std.band (std.seq (ByteArray.mk #[]) a0.fName) (std.band (std.band (std.eq 0 a0.fShape.fLayer) (std.band (std.band (std.eq 0 a0.fShape.fBox.fX0) (std.band (std.eq 0 a0.fShape.fBox.fY0) (std.band (std.eq 0 a0.fShape.fBox.fX1) (std.band (std.eq 0 a0.fShape.fBox.fY1) (true))))) (true))) (std.band (std.band (std.eq 0 a0.fLabel.fLayer) (std.band (std.band (std.eq 0 a0.fLabel.fAt.fX) (std.band (std.eq 0 a0.fLabel.fAt.fY) (true))) (std.band (std.seq (ByteArray.mk #[]) a0.fLabel.fName) (true)))) (std.band (std.band (std.eq a0.fInstance.fCell a0.fInstance.fCell) (std.band (std.band (std.eq a0.fInstance.fPlace.fOrientation a0.fInstance.fPlace.fOrientation) (std.band (std.eq a0.fInstance.fPlace.fX a0.fInstance.fPlace.fX) (std.band (std.eq a0.fInstance.fPlace.fY a0.fInstance.fPlace.fY) (true)))) (std.band (std.eq a0.fInstance.fColumns a0.fInstance.fColumns) (std.band (std.eq a0.fInstance.fRows a0.fInstance.fRows) (std.band (std.eq a0.fInstance.fStepX a0.fInstance.fStepX) (std.band (std.eq a0.fInstance.fStepY a0.fInstance.fStepY) (true))))))) (true))))))))
        ((F_impl_validInstance a0.fInstance 8).bind fun y40 =>
        some y40)
        (some false)
    ) : Option (Bool)).bind fun y33 =>
  letO y33 fun w39 =>
  some w39)
  (((
        br (std.eq a0.fKind 2)
        (some true)
        (((
              br (std.eq a0.fKind 4)
              (some true)
              (some (std.eq a0.fKind 6))
          ) : Option (Bool)).bind fun y50 =>
        letO y50 fun w56 =>
        some w56)
    ) : Option (Bool)).bind fun y43 =>
  letO y43 fun w49 =>
  ((
        br w49
        ((some (std.band (std.eq a0.fKind a0.fKind) (std.band (std.eq a0.fCell a0.fCell) (std.band (std.eq a0.fIndex a0.fIndex) (std.band (std.seq (ByteArray.mk #[]) a0.fName) (std.band (std.band (std.eq 0 a0.fShape.fLayer) (std.band (std.band (std.eq 0 a0.fShape.fBox.fX0) (std.band (std.eq 0 a0.fShape.fBox.fY0) (std.band (std.eq 0 a0.fShape.fBox.fX1) (std.band (std.eq 0 a0.fShape.fBox.fY1) (true))))) (true))) (std.band (std.band (std.eq 0 a0.fLabel.fLayer) (std.band (std.band (std.eq 0 a0.fLabel.fAt.fX) (std.band (std.eq 0 a0.fLabel.fAt.fY) (true))) (std.band (std.seq (ByteArray.mk #[]) a0.fLabel.fName) (true)))) (std.band (std.band (std.eq 0 a0.fInstance.fCell) (std.band (std.band (std.eq 0 a0.fInstance.fPlace.fOrientation) (std.band (std.eq 0 a0.fInstance.fPlace.fX) (std.band (std.eq 0 a0.fInstance.fPlace.fY) (true)))) (std.band (std.eq 0 a0.fInstance.fColumns) (std.band (std.eq 0 a0.fInstance.fRows) (std.band (std.eq 0 a0.fInstance.fStepX) (std.band (std.eq 0 a0.fInstance.fStepY) (true))))))) (true))))))))).bind fun r65 => some (.inl r65))
        (((
              br (std.eq a0.fKind 7)
              (some true)
              (some (std.eq a0.fKind 8))
          ) : Option (Bool)).bind fun y68 =>
        letO y68 fun w74 =>
        ((
              br w74
              (((
                    br (std.band (std.eq a0.fKind a0.fKind) (std.band (std.eq a0.fCell a0.fCell) (std.band (std.eq 0 a0.fIndex) (std.band (std.seq a0.fName a0.fName) (std.band (std.band (std.eq 0 a0.fShape.fLayer) (std.band (std.band (std.eq 0 a0.fShape.fBox.fX0) (std.band (std.eq 0 a0.fShape.fBox.fY0) (std.band (std.eq 0 a0.fShape.fBox.fX1) (std.band (std.eq 0 a0.fShape.fBox.fY1) (true))))) (true))) (std.band (std.band (std.eq 0 a0.fLabel.fLayer) (std.band (std.band (std.eq 0 a0.fLabel.fAt.fX) (std.band (std.eq 0 a0.fLabel.fAt.fY) (true))) (std.band (std.seq (ByteArray.mk #[]) a0.fLabel.fName) (true)))) (std.band (std.band (std.eq 0 a0.fInstance.fCell) (std.band (std.band (std.eq 0 a0.fInstance.fPlace.fOrientation) (std.band (std.eq 0 a0.fInstance.fPlace.fX) (std.band (std.eq 0 a0.fInstance.fPlace.fY) (true)))) (std.band (std.eq 0 a0.fInstance.fColumns) (std.band (std.eq 0 a0.fInstance.fRows) (std.band (std.eq 0 a0.fInstance.fStepX) (std.band (std.eq 0 a0.fInstance.fStepY) (true))))))) (true))))))))
                    ((F_impl_IsName a0.fName).bind fun y89 =>
                    some y89)
                    (some false)
                ) : Option (Bool)).bind fun y82 =>
              letO y82 fun w88 =>
              ((some w88).bind fun r92 => some (.inl r92)).bind fun r95 => some (.inl r95))
              (br (std.eq a0.fKind 9)
              (((some (std.band (std.eq a0.fKind a0.fKind) (std.band (std.eq a0.fCell a0.fCell) (std.band (std.eq 0 a0.fIndex) (std.band (std.seq (ByteArray.mk #[]) a0.fName) (std.band (std.band (std.eq 0 a0.fShape.fLayer) (std.band (std.band (std.eq 0 a0.fShape.fBox.fX0) (std.band (std.eq 0 a0.fShape.fBox.fY0) (std.band (std.eq 0 a0.fShape.fBox.fX1) (std.band (std.eq 0 a0.fShape.fBox.fY1) (true))))) (true))) (std.band (std.band (std.eq 0 a0.fLabel.fLayer) (std.band (std.band (std.eq 0 a0.fLabel.fAt.fX) (std.band (std.eq 0 a0.fLabel.fAt.fY) (true))) (std.band (std.seq (ByteArray.mk #[]) a0.fLabel.fName) (true)))) (std.band (std.band (std.eq 0 a0.fInstance.fCell) (std.band (std.band (std.eq 0 a0.fInstance.fPlace.fOrientation) (std.band (std.eq 0 a0.fInstance.fPlace.fX) (std.band (std.eq 0 a0.fInstance.fPlace.fY) (true)))) (std.band (std.eq 0 a0.fInstance.fColumns) (std.band (std.eq 0 a0.fInstance.fRows) (std.band (std.eq 0 a0.fInstance.fStepX) (std.band (std.eq 0 a0.fInstance.fStepY) (true))))))) (true))))))))).bind fun r98 => some (.inl r98)).bind fun r101 => some (.inl r101))
              (some (.inr ())))
          ) : Option (_ ⊕ Unit)).bind fun z78 => (match z78 with
          | .inl r => some r
          | .inr y76 =>
              some (.inr ())))
    ) : Option (_ ⊕ Unit)).bind fun z61 => (match z61 with
    | .inl r => some r
    | .inr y59 =>
        some false)))))
theorem run_impl_IsValidEdit (a0 : TEdit) (r : Bool) (h : F_impl_IsValidEdit a0 = some r) : Fun Try.prog 77 [.agg [.v (.int .i64 a0.fKind), .v (.int .i64 a0.fCell), .v (.int .i64 a0.fIndex), .v (.string a0.fName), .v (.int .i64 a0.fShape.fLayer), .v (.int .i64 a0.fShape.fBox.fX0), .v (.int .i64 a0.fShape.fBox.fY0), .v (.int .i64 a0.fShape.fBox.fX1), .v (.int .i64 a0.fShape.fBox.fY1), .v (.int .i64 a0.fLabel.fLayer), .v (.int .i64 a0.fLabel.fAt.fX), .v (.int .i64 a0.fLabel.fAt.fY), .v (.string a0.fLabel.fName), .v (.int .i64 a0.fInstance.fCell), .v (.int .i64 a0.fInstance.fPlace.fOrientation), .v (.int .i64 a0.fInstance.fPlace.fX), .v (.int .i64 a0.fInstance.fPlace.fY), .v (.int .i64 a0.fInstance.fColumns), .v (.int .i64 a0.fInstance.fRows), .v (.int .i64 a0.fInstance.fStepX), .v (.int .i64 a0.fInstance.fStepY)]] [] (.c (.v (.bool r))) [] true := by
  refine Fun.of_wp (oneOf [1, 7, 10, 13, 22, 100069, 100079]) tok mixed Try.func77 (by kernel_rfl) rfl Try.ntmps77 rfl trivial (fun _ => ⟨trivial, trivial⟩) ?_
  unfold F_impl_IsValidEdit at h
  have hf_impl_IsName := @run_impl_IsName
  have hf_impl_validInstance := @run_impl_validInstance
  have hf_impl_validLabel := @run_impl_validLabel
  have hf_impl_validShape := @run_impl_validShape
  have hf_impl_within := @run_impl_within
  generalize hLEN : @len = LEN at *
  generalize hGD : @gd = GD at *
  generalize hA : std = A at *
  generalize hP : Try.prog = P at *
  cbv
  replace h := of_bind h
  obtain ⟨y1, hy2, h⟩ := h
  obtain ⟨S5, hS6⟩ : ∃ S, S = (sparse 98 [(1, .c (.ptr 64 0)), (13, .c (.v (.bool y1)))] [(64, .var [.v (.int .i64 a0.fKind), .v (.int .i64 a0.fCell), .v (.int .i64 a0.fIndex), .v (.string a0.fName), .v (.int .i64 a0.fShape.fLayer), .v (.int .i64 a0.fShape.fBox.fX0), .v (.int .i64 a0.fShape.fBox.fY0), .v (.int .i64 a0.fShape.fBox.fX1), .v (.int .i64 a0.fShape.fBox.fY1), .v (.int .i64 a0.fLabel.fLayer), .v (.int .i64 a0.fLabel.fAt.fX), .v (.int .i64 a0.fLabel.fAt.fY), .v (.string a0.fLabel.fName), .v (.int .i64 a0.fInstance.fCell), .v (.int .i64 a0.fInstance.fPlace.fOrientation), .v (.int .i64 a0.fInstance.fPlace.fX), .v (.int .i64 a0.fInstance.fPlace.fY), .v (.int .i64 a0.fInstance.fColumns), .v (.int .i64 a0.fInstance.fRows), .v (.int .i64 a0.fInstance.fStepX), .v (.int .i64 a0.fInstance.fStepY)])]) := ⟨_, rfl⟩
  refine ⟨S5, ?_, ?_⟩
  · clear h
    have h := hy2
    clear hy2
    cbv
    replace h := of_bind h
    obtain ⟨y8, hy9, h⟩ := h
    refine ⟨{ args := [.c (.v (.int .i64 a0.fCell)), .c (.v (.int .i64 0)), .c (.v (.int .i64 8))], o0 := [], r := .c (.v (.bool y8)), o1 := [], fl := true, σ := [], τ := [] }, hf_impl_within _ _ _ _ hy9, ⟨les_cons (AV.le_refl _) (les_cons (AV.le_refl _) (les_cons (AV.le_refl _) (les_nil))), trivial, rfl, rfl, rfl, rfl, trivial, rfl⟩, ?_⟩
    cbv
    refine fork (fun b12 => ?_) (fun b12 => ?_)
    · replace h := of_br_t b12 h
      cbv
      injection h with h
      subst h
      subst hS6
      show St.le _ _
      exact le_sparse rfl ⟨AV.le_refl _, AV.le_refl _, trivial⟩ ⟨rfl, trivial⟩ rfl
    · replace h := of_br_f b12 h
      cbv
      replace h := of_bind h
      obtain ⟨y10, hy11, h⟩ := h
      refine ⟨{ args := [.c (.v (.int .i64 a0.fIndex)), .c (.v (.int .i64 0)), .c (.v (.int .i64 24))], o0 := [], r := .c (.v (.bool y10)), o1 := [], fl := true, σ := [], τ := [] }, hf_impl_within _ _ _ _ hy11, ⟨les_cons (AV.le_refl _) (les_cons (AV.le_refl _) (les_cons (AV.le_refl _) (les_nil))), trivial, rfl, rfl, rfl, rfl, trivial, rfl⟩, ?_⟩
      cbv
      injection h with h
      subst h
      subst hS6
      show St.le _ _
      exact le_sparse rfl ⟨AV.le_refl _, AV.le_refl _, trivial⟩ ⟨rfl, trivial⟩ rfl
  · clear hy2
    subst hS6
    replace h := of_let h
    obtain ⟨w7, hw7, h⟩ := h
    have hw7 : w7 = y1 := hw7
    subst hw7
    cbv
    refine fork (fun b110 => ?_) (fun b110 => ?_)
    · replace h := of_br_t b110 h
      cbv
      injection h with h
      subst h
      refine ⟨(sparse 98 [(2, .c (.v (.bool false)))] []), ?_, ?_⟩
      · exact le_sparse rfl ⟨AV.le_refl _, trivial⟩ trivial rfl
      · exact ⟨AV.le_refl _, trivial, rfl⟩
    · replace h := of_br_f b110 h
      cbv
      refine fork (fun b109 => ?_) (fun b109 => ?_)
      · replace h := of_br_t b109 h
        cbv
        replace h := of_bind h
        obtain ⟨y13, hy14, h⟩ := h
        obtain ⟨S17, hS18⟩ : ∃ S, S = (sparse 98 [(2, .c (.v (.bool y13)))] []) := ⟨_, rfl⟩
        refine ⟨S17, ?_, ?_⟩
        · clear h
          have h := hy14
          clear hy14
          cbv
          refine fork (fun b22 => ?_) (fun b22 => ?_)
          · replace h := of_br_t b22 h
            cbv
            replace h := of_bind h
            obtain ⟨y20, hy21, h⟩ := h
            refine ⟨{ args := [.agg [.v (.int .i64 a0.fShape.fLayer), .v (.int .i64 a0.fShape.fBox.fX0), .v (.int .i64 a0.fShape.fBox.fY0), .v (.int .i64 a0.fShape.fBox.fX1), .v (.int .i64 a0.fShape.fBox.fY1)]], o0 := [], r := .c (.v (.bool y20)), o1 := [], fl := true, σ := [], τ := [] }, hf_impl_validShape _ _ hy21, ⟨les_cons (AV.le_refl _) (les_nil), trivial, rfl, rfl, rfl, rfl, trivial, rfl⟩, ?_⟩
            cbv
            injection h with h
            subst h
            subst hS18
            show St.le _ _
            exact le_sparse rfl ⟨AV.le_refl _, trivial⟩ trivial rfl
          · replace h := of_br_f b22 h
            cbv
            injection h with h
            subst h
            subst hS18
            show St.le _ _
            exact le_sparse rfl ⟨AV.le_refl _, trivial⟩ trivial rfl
        · clear hy14
          subst hS18
          replace h := of_let h
          obtain ⟨w19, hw19, h⟩ := h
          have hw19 : w19 = y13 := hw19
          subst hw19
          cbv
          injection h with h
          subst h
          refine ⟨(sparse 98 [(2, .c (.v (.bool w19)))] []), ?_, ?_⟩
          · exact le_sparse rfl ⟨AV.le_refl _, trivial⟩ trivial rfl
          · exact ⟨AV.le_refl _, trivial, rfl⟩
      · replace h := of_br_f b109 h
        cbv
        refine fork (fun b108 => ?_) (fun b108 => ?_)
        · replace h := of_br_t b108 h
          cbv
          replace h := of_bind h
          obtain ⟨y23, hy24, h⟩ := h
          obtain ⟨S27, hS28⟩ : ∃ S, S = (sparse 98 [(2, .c (.v (.bool y23)))] []) := ⟨_, rfl⟩
          refine ⟨S27, ?_, ?_⟩
          · clear h
            have h := hy24
            clear hy24
            cbv
            refine fork (fun b32 => ?_) (fun b32 => ?_)
            · replace h := of_br_t b32 h
              cbv
              replace h := of_bind h
              obtain ⟨y30, hy31, h⟩ := h
              refine ⟨{ args := [.agg [.v (.int .i64 a0.fLabel.fLayer), .v (.int .i64 a0.fLabel.fAt.fX), .v (.int .i64 a0.fLabel.fAt.fY), .v (.string a0.fLabel.fName)]], o0 := [], r := .c (.v (.bool y30)), o1 := [], fl := true, σ := [], τ := [] }, hf_impl_validLabel _ _ hy31, ⟨les_cons (AV.le_refl _) (les_nil), trivial, rfl, rfl, rfl, rfl, trivial, rfl⟩, ?_⟩
              cbv
              injection h with h
              subst h
              subst hS28
              show St.le _ _
              exact le_sparse rfl ⟨AV.le_refl _, trivial⟩ trivial rfl
            · replace h := of_br_f b32 h
              cbv
              injection h with h
              subst h
              subst hS28
              show St.le _ _
              exact le_sparse rfl ⟨AV.le_refl _, trivial⟩ trivial rfl
          · clear hy24
            subst hS28
            replace h := of_let h
            obtain ⟨w29, hw29, h⟩ := h
            have hw29 : w29 = y23 := hw29
            subst hw29
            cbv
            injection h with h
            subst h
            refine ⟨(sparse 98 [(2, .c (.v (.bool w29)))] []), ?_, ?_⟩
            · exact le_sparse rfl ⟨AV.le_refl _, trivial⟩ trivial rfl
            · exact ⟨AV.le_refl _, trivial, rfl⟩
        · replace h := of_br_f b108 h
          cbv
          refine fork (fun b107 => ?_) (fun b107 => ?_)
          · replace h := of_br_t b107 h
            cbv
            replace h := of_bind h
            obtain ⟨y33, hy34, h⟩ := h
            obtain ⟨S37, hS38⟩ : ∃ S, S = (sparse 98 [(2, .c (.v (.bool y33)))] []) := ⟨_, rfl⟩
            refine ⟨S37, ?_, ?_⟩
            · clear h
              have h := hy34
              clear hy34
              cbv
              refine fork (fun b42 => ?_) (fun b42 => ?_)
              · replace h := of_br_t b42 h
                cbv
                replace h := of_bind h
                obtain ⟨y40, hy41, h⟩ := h
                refine ⟨{ args := [.agg [.v (.int .i64 a0.fInstance.fCell), .v (.int .i64 a0.fInstance.fPlace.fOrientation), .v (.int .i64 a0.fInstance.fPlace.fX), .v (.int .i64 a0.fInstance.fPlace.fY), .v (.int .i64 a0.fInstance.fColumns), .v (.int .i64 a0.fInstance.fRows), .v (.int .i64 a0.fInstance.fStepX), .v (.int .i64 a0.fInstance.fStepY)], .c (.v (.int .i64 8))], o0 := [], r := .c (.v (.bool y40)), o1 := [], fl := true, σ := [], τ := [] }, hf_impl_validInstance _ _ _ hy41, ⟨les_cons (AV.le_refl _) (les_cons (AV.le_refl _) (les_nil)), trivial, rfl, rfl, rfl, rfl, trivial, rfl⟩, ?_⟩
                cbv
                injection h with h
                subst h
                subst hS38
                show St.le _ _
                exact le_sparse rfl ⟨AV.le_refl _, trivial⟩ trivial rfl
              · replace h := of_br_f b42 h
                cbv
                injection h with h
                subst h
                subst hS38
                show St.le _ _
                exact le_sparse rfl ⟨AV.le_refl _, trivial⟩ trivial rfl
            · clear hy34
              subst hS38
              replace h := of_let h
              obtain ⟨w39, hw39, h⟩ := h
              have hw39 : w39 = y33 := hw39
              subst hw39
              cbv
              injection h with h
              subst h
              refine ⟨(sparse 98 [(2, .c (.v (.bool w39)))] []), ?_, ?_⟩
              · exact le_sparse rfl ⟨AV.le_refl _, trivial⟩ trivial rfl
              · exact ⟨AV.le_refl _, trivial, rfl⟩
          · replace h := of_br_f b107 h
            cbv
            replace h := of_bind h
            obtain ⟨y43, hy44, h⟩ := h
            obtain ⟨S47, hS48⟩ : ∃ S, S = some (sparse 98 [(1, .c (.ptr 64 0)), (3, .c (.ptr 192 0)), (20, .c (.v (.int .i64 a0.fKind))), (69, .c (.v (.bool y43)))] [(64, .var [.v (.int .i64 a0.fKind), .v (.int .i64 a0.fCell), .v (.int .i64 a0.fIndex), .v (.string a0.fName), .v (.int .i64 a0.fShape.fLayer), .v (.int .i64 a0.fShape.fBox.fX0), .v (.int .i64 a0.fShape.fBox.fY0), .v (.int .i64 a0.fShape.fBox.fX1), .v (.int .i64 a0.fShape.fBox.fY1), .v (.int .i64 a0.fLabel.fLayer), .v (.int .i64 a0.fLabel.fAt.fX), .v (.int .i64 a0.fLabel.fAt.fY), .v (.string a0.fLabel.fName), .v (.int .i64 a0.fInstance.fCell), .v (.int .i64 a0.fInstance.fPlace.fOrientation), .v (.int .i64 a0.fInstance.fPlace.fX), .v (.int .i64 a0.fInstance.fPlace.fY), .v (.int .i64 a0.fInstance.fColumns), .v (.int .i64 a0.fInstance.fRows), .v (.int .i64 a0.fInstance.fStepX), .v (.int .i64 a0.fInstance.fStepY)]), (192, .var [.v (.int .i64 a0.fKind), .v (.int .i64 a0.fCell), .v (.int .i64 0), .v (.string (ByteArray.mk #[])), .v (.int .i64 0), .v (.int .i64 0), .v (.int .i64 0), .v (.int .i64 0), .v (.int .i64 0), .v (.int .i64 0), .v (.int .i64 0), .v (.int .i64 0), .v (.string (ByteArray.mk #[])), .v (.int .i64 0), .v (.int .i64 0), .v (.int .i64 0), .v (.int .i64 0), .v (.int .i64 0), .v (.int .i64 0), .v (.int .i64 0), .v (.int .i64 0)])]) := ⟨_, rfl⟩
            refine ⟨S47, ?_, ?_⟩
            · clear h
              have h := hy44
              clear hy44
              cbv
              refine fork (fun b58 => ?_) (fun b58 => ?_)
              · replace h := of_br_t b58 h
                cbv
                injection h with h
                subst h
                subst hS48
                show St.le _ _
                exact le_sparse rfl ⟨AV.le_refl _, AV.le_refl _, AV.le_refl _, AV.le_refl _, trivial⟩ ⟨rfl, rfl, trivial⟩ rfl
              · replace h := of_br_f b58 h
                cbv
                replace h := of_bind h
                obtain ⟨y50, hy51, h⟩ := h
                obtain ⟨S54, hS55⟩ : ∃ S, S = some (sparse 98 [(1, .c (.ptr 64 0)), (3, .c (.ptr 192 0)), (20, .c (.v (.int .i64 a0.fKind))), (69, .c (.v (.bool y50)))] [(64, .var [.v (.int .i64 a0.fKind), .v (.int .i64 a0.fCell), .v (.int .i64 a0.fIndex), .v (.string a0.fName), .v (.int .i64 a0.fShape.fLayer), .v (.int .i64 a0.fShape.fBox.fX0), .v (.int .i64 a0.fShape.fBox.fY0), .v (.int .i64 a0.fShape.fBox.fX1), .v (.int .i64 a0.fShape.fBox.fY1), .v (.int .i64 a0.fLabel.fLayer), .v (.int .i64 a0.fLabel.fAt.fX), .v (.int .i64 a0.fLabel.fAt.fY), .v (.string a0.fLabel.fName), .v (.int .i64 a0.fInstance.fCell), .v (.int .i64 a0.fInstance.fPlace.fOrientation), .v (.int .i64 a0.fInstance.fPlace.fX), .v (.int .i64 a0.fInstance.fPlace.fY), .v (.int .i64 a0.fInstance.fColumns), .v (.int .i64 a0.fInstance.fRows), .v (.int .i64 a0.fInstance.fStepX), .v (.int .i64 a0.fInstance.fStepY)]), (192, .var [.v (.int .i64 a0.fKind), .v (.int .i64 a0.fCell), .v (.int .i64 0), .v (.string (ByteArray.mk #[])), .v (.int .i64 0), .v (.int .i64 0), .v (.int .i64 0), .v (.int .i64 0), .v (.int .i64 0), .v (.int .i64 0), .v (.int .i64 0), .v (.int .i64 0), .v (.string (ByteArray.mk #[])), .v (.int .i64 0), .v (.int .i64 0), .v (.int .i64 0), .v (.int .i64 0), .v (.int .i64 0), .v (.int .i64 0), .v (.int .i64 0), .v (.int .i64 0)])]) := ⟨_, rfl⟩
                refine ⟨S54, ?_, ?_⟩
                · clear h
                  have h := hy51
                  clear hy51
                  cbv
                  refine fork (fun b57 => ?_) (fun b57 => ?_)
                  · replace h := of_br_t b57 h
                    cbv
                    injection h with h
                    subst h
                    subst hS55
                    show St.le _ _
                    exact le_sparse rfl ⟨AV.le_refl _, AV.le_refl _, AV.le_refl _, AV.le_refl _, trivial⟩ ⟨rfl, rfl, trivial⟩ rfl
                  · replace h := of_br_f b57 h
                    cbv
                    injection h with h
                    subst h
                    subst hS55
                    show St.le _ _
                    exact le_sparse rfl ⟨AV.le_refl _, AV.le_refl _, AV.le_refl _, AV.le_refl _, trivial⟩ ⟨rfl, rfl, trivial⟩ rfl
                · clear hy51
                  subst hS55
                  replace h := of_let h
                  obtain ⟨w56, hw56, h⟩ := h
                  have hw56 : w56 = y50 := hw56
                  subst hw56
                  cbv
                  injection h with h
                  subst h
                  subst hS48
                  show St.le _ _
                  exact le_sparse rfl ⟨AV.le_refl _, AV.le_refl _, AV.le_refl _, AV.le_refl _, trivial⟩ ⟨rfl, rfl, trivial⟩ rfl
            · clear hy44
              subst hS48
              replace h := of_let h
              obtain ⟨w49, hw49, h⟩ := h
              have hw49 : w49 = y43 := hw49
              subst hw49
              cbv
              replace h := of_bind h
              obtain ⟨z61, hy60, hz62⟩ := h
              obtain ⟨S63, hS64⟩ : ∃ S, S = (match z61 with | .inl _ => none | .inr y59 => some (sparse 98 [] [])) := ⟨_, rfl⟩
              refine ⟨S63, ?_, ?_⟩
              · have h := hy60
                clear hy60
                cbv
                refine fork (fun b106 => ?_) (fun b106 => ?_)
                · replace h := of_br_t b106 h
                  cbv
                  replace h := of_bind h
                  obtain ⟨r65, h66, he67⟩ := h
                  injection he67 with he67
                  subst he67
                  injection hz62 with hz62
                  subst hz62
                  have h := h66
                  injection h with h
                  subst h
                  refine ⟨(sparse 98 [(2, .c (.v (.bool (A.band (A.eq a0.fKind a0.fKind) (A.band (A.eq a0.fCell a0.fCell) (A.band (A.eq a0.fIndex a0.fIndex) (A.band (A.seq (ByteArray.mk #[]) a0.fName) (A.band (A.band (A.eq 0 a0.fShape.fLayer) (A.band (A.band (A.eq 0 a0.fShape.fBox.fX0) (A.band (A.eq 0 a0.fShape.fBox.fY0) (A.band (A.eq 0 a0.fShape.fBox.fX1) (A.band (A.eq 0 a0.fShape.fBox.fY1) (true))))) (true))) (A.band (A.band (A.eq 0 a0.fLabel.fLayer) (A.band (A.band (A.eq 0 a0.fLabel.fAt.fX) (A.band (A.eq 0 a0.fLabel.fAt.fY) (true))) (A.band (A.seq (ByteArray.mk #[]) a0.fLabel.fName) (true)))) (A.band (A.band (A.eq 0 a0.fInstance.fCell) (A.band (A.band (A.eq 0 a0.fInstance.fPlace.fOrientation) (A.band (A.eq 0 a0.fInstance.fPlace.fX) (A.band (A.eq 0 a0.fInstance.fPlace.fY) (true)))) (A.band (A.eq 0 a0.fInstance.fColumns) (A.band (A.eq 0 a0.fInstance.fRows) (A.band (A.eq 0 a0.fInstance.fStepX) (A.band (A.eq 0 a0.fInstance.fStepY) (true))))))) (true)))))))))))] []), ?_, ?_⟩
                  · exact le_sparse rfl ⟨AV.le_refl _, trivial⟩ trivial rfl
                  · exact ⟨AV.le_refl _, trivial, rfl⟩
                · replace h := of_br_f b106 h
                  cbv
                  replace h := of_bind h
                  obtain ⟨y68, hy69, h⟩ := h
                  obtain ⟨S72, hS73⟩ : ∃ S, S = some (sparse 98 [(1, .c (.ptr 64 0)), (3, .c (.ptr 192 0)), (20, .c (.v (.int .i64 a0.fKind))), (79, .c (.v (.bool y68)))] [(64, .var [.v (.int .i64 a0.fKind), .v (.int .i64 a0.fCell), .v (.int .i64 a0.fIndex), .v (.string a0.fName), .v (.int .i64 a0.fShape.fLayer), .v (.int .i64 a0.fShape.fBox.fX0), .v (.int .i64 a0.fShape.fBox.fY0), .v (.int .i64 a0.fShape.fBox.fX1), .v (.int .i64 a0.fShape.fBox.fY1), .v (.int .i64 a0.fLabel.fLayer), .v (.int .i64 a0.fLabel.fAt.fX), .v (.int .i64 a0.fLabel.fAt.fY), .v (.string a0.fLabel.fName), .v (.int .i64 a0.fInstance.fCell), .v (.int .i64 a0.fInstance.fPlace.fOrientation), .v (.int .i64 a0.fInstance.fPlace.fX), .v (.int .i64 a0.fInstance.fPlace.fY), .v (.int .i64 a0.fInstance.fColumns), .v (.int .i64 a0.fInstance.fRows), .v (.int .i64 a0.fInstance.fStepX), .v (.int .i64 a0.fInstance.fStepY)]), (192, .var [.v (.int .i64 a0.fKind), .v (.int .i64 a0.fCell), .v (.int .i64 0), .v (.string (ByteArray.mk #[])), .v (.int .i64 0), .v (.int .i64 0), .v (.int .i64 0), .v (.int .i64 0), .v (.int .i64 0), .v (.int .i64 0), .v (.int .i64 0), .v (.int .i64 0), .v (.string (ByteArray.mk #[])), .v (.int .i64 0), .v (.int .i64 0), .v (.int .i64 0), .v (.int .i64 0), .v (.int .i64 0), .v (.int .i64 0), .v (.int .i64 0), .v (.int .i64 0)])]) := ⟨_, rfl⟩
                  refine ⟨S72, ?_, ?_⟩
                  · clear h
                    have h := hy69
                    clear hy69
                    cbv
                    refine fork (fun b75 => ?_) (fun b75 => ?_)
                    · replace h := of_br_t b75 h
                      cbv
                      injection h with h
                      subst h
                      subst hS73
                      show St.le _ _
                      exact le_sparse rfl ⟨AV.le_refl _, AV.le_refl _, AV.le_refl _, AV.le_refl _, trivial⟩ ⟨rfl, rfl, trivial⟩ rfl
                    · replace h := of_br_f b75 h
                      cbv
                      injection h with h
                      subst h
                      subst hS73
                      show St.le _ _
                      exact le_sparse rfl ⟨AV.le_refl _, AV.le_refl _, AV.le_refl _, AV.le_refl _, trivial⟩ ⟨rfl, rfl, trivial⟩ rfl
                  · clear hy69
                    subst hS73
                    replace h := of_let h
                    obtain ⟨w74, hw74, h⟩ := h
                    have hw74 : w74 = y68 := hw74
                    subst hw74
                    cbv
                    replace h := of_bind h
                    obtain ⟨z78, hy77, hz79⟩ := h
                    obtain ⟨S80, hS81⟩ : ∃ S, S = (match z78 with | .inl _ => none | .inr y76 => some (sparse 98 [] [])) := ⟨_, rfl⟩
                    refine ⟨S80, ?_, ?_⟩
                    · have h := hy77
                      clear hy77
                      cbv
                      refine fork (fun b105 => ?_) (fun b105 => ?_)
                      · replace h := of_br_t b105 h
                        cbv
                        replace h := of_bind h
                        obtain ⟨y82, hy83, h⟩ := h
                        obtain ⟨S86, hS87⟩ : ∃ S, S = (sparse 98 [(2, .c (.v (.bool y82)))] []) := ⟨_, rfl⟩
                        refine ⟨S86, ?_, ?_⟩
                        · clear h
                          have h := hy83
                          clear hy83
                          cbv
                          refine fork (fun b91 => ?_) (fun b91 => ?_)
                          · replace h := of_br_t b91 h
                            cbv
                            replace h := of_bind h
                            obtain ⟨y89, hy90, h⟩ := h
                            refine ⟨{ args := [.c (.v (.string a0.fName))], o0 := [], r := .c (.v (.bool y89)), o1 := [], fl := true, σ := [], τ := [] }, hf_impl_IsName _ _ hy90, ⟨les_cons (AV.le_refl _) (les_nil), trivial, rfl, rfl, rfl, rfl, trivial, rfl⟩, ?_⟩
                            cbv
                            injection h with h
                            subst h
                            subst hS87
                            show St.le _ _
                            exact le_sparse rfl ⟨AV.le_refl _, trivial⟩ trivial rfl
                          · replace h := of_br_f b91 h
                            cbv
                            injection h with h
                            subst h
                            subst hS87
                            show St.le _ _
                            exact le_sparse rfl ⟨AV.le_refl _, trivial⟩ trivial rfl
                        · clear hy83
                          subst hS87
                          replace h := of_let h
                          obtain ⟨w88, hw88, h⟩ := h
                          have hw88 : w88 = y82 := hw88
                          subst hw88
                          cbv
                          replace h := of_bind h
                          obtain ⟨r95, h96, he97⟩ := h
                          injection he97 with he97
                          subst he97
                          injection hz79 with hz79
                          subst hz79
                          have h := h96
                          replace h := of_bind h
                          obtain ⟨r92, h93, he94⟩ := h
                          injection he94 with he94
                          subst he94
                          injection hz62 with hz62
                          subst hz62
                          have h := h93
                          injection h with h
                          subst h
                          refine ⟨(sparse 98 [(2, .c (.v (.bool w88)))] []), ?_, ?_⟩
                          · exact le_sparse rfl ⟨AV.le_refl _, trivial⟩ trivial rfl
                          · exact ⟨AV.le_refl _, trivial, rfl⟩
                      · replace h := of_br_f b105 h
                        cbv
                        refine fork (fun b104 => ?_) (fun b104 => ?_)
                        · replace h := of_br_t b104 h
                          cbv
                          replace h := of_bind h
                          obtain ⟨r101, h102, he103⟩ := h
                          injection he103 with he103
                          subst he103
                          injection hz79 with hz79
                          subst hz79
                          have h := h102
                          replace h := of_bind h
                          obtain ⟨r98, h99, he100⟩ := h
                          injection he100 with he100
                          subst he100
                          injection hz62 with hz62
                          subst hz62
                          have h := h99
                          injection h with h
                          subst h
                          refine ⟨(sparse 98 [(2, .c (.v (.bool (A.band (A.eq a0.fKind a0.fKind) (A.band (A.eq a0.fCell a0.fCell) (A.band (A.eq 0 a0.fIndex) (A.band (A.seq (ByteArray.mk #[]) a0.fName) (A.band (A.band (A.eq 0 a0.fShape.fLayer) (A.band (A.band (A.eq 0 a0.fShape.fBox.fX0) (A.band (A.eq 0 a0.fShape.fBox.fY0) (A.band (A.eq 0 a0.fShape.fBox.fX1) (A.band (A.eq 0 a0.fShape.fBox.fY1) (true))))) (true))) (A.band (A.band (A.eq 0 a0.fLabel.fLayer) (A.band (A.band (A.eq 0 a0.fLabel.fAt.fX) (A.band (A.eq 0 a0.fLabel.fAt.fY) (true))) (A.band (A.seq (ByteArray.mk #[]) a0.fLabel.fName) (true)))) (A.band (A.band (A.eq 0 a0.fInstance.fCell) (A.band (A.band (A.eq 0 a0.fInstance.fPlace.fOrientation) (A.band (A.eq 0 a0.fInstance.fPlace.fX) (A.band (A.eq 0 a0.fInstance.fPlace.fY) (true)))) (A.band (A.eq 0 a0.fInstance.fColumns) (A.band (A.eq 0 a0.fInstance.fRows) (A.band (A.eq 0 a0.fInstance.fStepX) (A.band (A.eq 0 a0.fInstance.fStepY) (true))))))) (true)))))))))))] []), ?_, ?_⟩
                          · exact le_sparse rfl ⟨AV.le_refl _, trivial⟩ trivial rfl
                          · exact ⟨AV.le_refl _, trivial, rfl⟩
                        · replace h := of_br_f b104 h
                          cbv
                          injection h with h
                          subst h
                          subst hS81
                          show St.le _ _
                          exact le_sparse rfl trivial trivial rfl
                    · clear hy77
                      subst hS81
                      rcases z78 with _ | y76
                      · trivial
                      · have h := hz79
                        clear hz79
                        cbv
                        injection h with h
                        subst h
                        subst hS64
                        show St.le _ _
                        exact le_sparse rfl trivial trivial rfl
              · clear hy60
                subst hS64
                rcases z61 with _ | y59
                · trivial
                · have h := hz62
                  clear hz62
                  cbv
                  injection h with h
                  subst h
                  refine ⟨(sparse 98 [(2, .c (.v (.bool false)))] []), ?_, ?_⟩
                  · exact le_sparse rfl ⟨AV.le_refl _, trivial⟩ trivial rfl
                  · exact ⟨AV.le_refl _, trivial, rfl⟩

/-- impl.isTransaction$1 -/
noncomputable def F_impl_isTransaction_1 (a0 : TEdit) : Option (Bool) :=
  (F_impl_IsValidEdit (TEdit.mk a0.fKind a0.fCell a0.fIndex a0.fName a0.fShape a0.fLabel a0.fInstance)).bind fun y1 =>
  some (!(y1))
theorem run_impl_isTransaction_1 (a0 : TEdit) (r : Bool) (h : F_impl_isTransaction_1 a0 = some r) : Fun Try.prog 155 [.agg [.v (.int .i64 a0.fKind), .v (.int .i64 a0.fCell), .v (.int .i64 a0.fIndex), .v (.string a0.fName), .v (.int .i64 a0.fShape.fLayer), .v (.int .i64 a0.fShape.fBox.fX0), .v (.int .i64 a0.fShape.fBox.fY0), .v (.int .i64 a0.fShape.fBox.fX1), .v (.int .i64 a0.fShape.fBox.fY1), .v (.int .i64 a0.fLabel.fLayer), .v (.int .i64 a0.fLabel.fAt.fX), .v (.int .i64 a0.fLabel.fAt.fY), .v (.string a0.fLabel.fName), .v (.int .i64 a0.fInstance.fCell), .v (.int .i64 a0.fInstance.fPlace.fOrientation), .v (.int .i64 a0.fInstance.fPlace.fX), .v (.int .i64 a0.fInstance.fPlace.fY), .v (.int .i64 a0.fInstance.fColumns), .v (.int .i64 a0.fInstance.fRows), .v (.int .i64 a0.fInstance.fStepX), .v (.int .i64 a0.fInstance.fStepY)]] [] (.c (.v (.bool r))) [] true := by
  refine Fun.of_wp (oneOf []) tok mixed Try.func155 (by kernel_rfl) rfl Try.ntmps155 rfl trivial (fun _ => ⟨trivial, trivial⟩) ?_
  unfold F_impl_isTransaction_1 at h
  have hf_impl_IsValidEdit := @run_impl_IsValidEdit
  generalize hLEN : @len = LEN at *
  generalize hGD : @gd = GD at *
  generalize hA : std = A at *
  generalize hP : Try.prog = P at *
  cbv
  replace h := of_bind h
  obtain ⟨y1, hy2, h⟩ := h
  refine ⟨{ args := [.agg [.v (.int .i64 a0.fKind), .v (.int .i64 a0.fCell), .v (.int .i64 a0.fIndex), .v (.string a0.fName), .v (.int .i64 a0.fShape.fLayer), .v (.int .i64 a0.fShape.fBox.fX0), .v (.int .i64 a0.fShape.fBox.fY0), .v (.int .i64 a0.fShape.fBox.fX1), .v (.int .i64 a0.fShape.fBox.fY1), .v (.int .i64 a0.fLabel.fLayer), .v (.int .i64 a0.fLabel.fAt.fX), .v (.int .i64 a0.fLabel.fAt.fY), .v (.string a0.fLabel.fName), .v (.int .i64 a0.fInstance.fCell), .v (.int .i64 a0.fInstance.fPlace.fOrientation), .v (.int .i64 a0.fInstance.fPlace.fX), .v (.int .i64 a0.fInstance.fPlace.fY), .v (.int .i64 a0.fInstance.fColumns), .v (.int .i64 a0.fInstance.fRows), .v (.int .i64 a0.fInstance.fStepX), .v (.int .i64 a0.fInstance.fStepY)]], o0 := [], r := .c (.v (.bool y1)), o1 := [], fl := true, σ := [], τ := [] }, hf_impl_IsValidEdit _ _ hy2, ⟨les_cons (AV.le_refl _) (les_nil), trivial, rfl, rfl, rfl, rfl, trivial, rfl⟩, ?_⟩
  cbv
  injection h with h
  subst h
  refine ⟨(sparse 6 [(2, .c (.v (.bool (!(y1)))))] []), ?_, ?_⟩
  · exact le_sparse rfl ⟨AV.le_refl _, trivial⟩ trivial rfl
  · exact ⟨AV.le_refl _, trivial, rfl⟩

noncomputable def L_slices_IndexFunc_Limpl_Edit_impl_Edit_mbFimpl_isTransaction_1_x2 (a0 : List TEdit) : (Int) → Option ((Int) ⊕ ((Int) ⊕ (Unit))) := fun x2 =>
  letO x2 fun v1 =>
  br (std.lt v1 (std.ofN (len a0)))
  (req (std.inR v1 (len a0)) <|
  (F_impl_isTransaction_1 (gd a0 (std.toN v1))).bind fun y15 =>
  br y15
  (some (.inr (.inl v1)))
  (some (.inl (std.add .i64 v1 1))))
  (some (.inr (.inr ())))
/-- impl.Edit] -/
noncomputable def F_slices_IndexFunc_Limpl_Edit_impl_Edit_mbFimpl_isTransaction_1 (a0 : List TEdit) : Option (Int) :=
  (whileP (σ := Int) (ρ := (Int) ⊕ (Unit)) (L_slices_IndexFunc_Limpl_Edit_impl_Edit_mbFimpl_isTransaction_1_x2 a0) 0).bind fun y3 =>
  (match y3 with
    | .inl y3k0 => (
        letO y3k0 fun w19 =>
        some w19)
    | .inr y3m0 =>
        some (-1))
theorem run_slices_IndexFunc_Limpl_Edit_impl_Edit_mbFimpl_isTransaction_1 (a0 : List TEdit) (r : Int) (h : F_slices_IndexFunc_Limpl_Edit_impl_Edit_mbFimpl_isTransaction_1 a0 = some r) : Fun Try.prog 197 [.c (.bs (len a0) 21 (row gd (encEdit) a0)), .c (.fn 155 0 fun _ => .junk)] [] (.c (.v (.int .i64 r))) [] true := by
  refine Fun.of_wp (oneOf []) tok mixed Try.func197 (by kernel_rfl) rfl Try.ntmps197 rfl trivial (fun _ => ⟨trivial, trivial⟩) ?_
  unfold F_slices_IndexFunc_Limpl_Edit_impl_Edit_mbFimpl_isTransaction_1 at h
  unfold L_slices_IndexFunc_Limpl_Edit_impl_Edit_mbFimpl_isTransaction_1_x2 at h
  have hf_impl_isTransaction_1 := @run_impl_isTransaction_1
  generalize hLEN : @len = LEN at *
  generalize hGD : @gd = GD at *
  generalize hA : std = A at *
  generalize hP : Try.prog = P at *
  cbv
  replace h := of_bind h
  obtain ⟨y3, hr4, hN5⟩ := h
  refine loop_cut hr4 (fun x => (sparse 19 [(0, .c (.bs (LEN a0) 21 (row GD (encEdit) a0))), (1, .c (.fn 155 0 fun _ => .junk)), (7, .c (.v (.int .i64 (A.ofN (LEN a0))))), (8, .c (.v (.int .i64 x)))] [])) ?_ (fun y e s => (match y with | .inl w => e = .ret ∧ s.le (sparse 19 [(4, .c (.v (.int .i64 w)))] []) | .inr w0 => (fun (w : Unit) => e = .exit 0 ∧ s.le (sparse 19 [] [])) w0)) ?_ ?_
  · clear hr4 hN5
    show St.le _ _
    exact le_sparse rfl ⟨AV.le_refl _, AV.le_refl _, AV.le_refl _, AV.le_refl _, trivial⟩ trivial rfl
  · clear hr4 hN5
    intro x z9 h K7 hK8 hY6
    replace h := of_let h
    obtain ⟨v1, hv1, h⟩ := h
    have hv1 : v1 = x := hv1
    subst hv1
    cbv
    refine fork (fun b18 => ?_) (fun b18 => ?_)
    · replace h := of_br_t b18 h
      cbv
      replace h := of_req h
      obtain ⟨c14, h⟩ := h
      refine ⟨⟨c14, trivial⟩, ?_⟩
      replace h := of_bind h
      obtain ⟨y15, hy16, h⟩ := h
      refine ⟨{ args := [.agg [.v (.int .i64 (GD a0 (A.toN v1)).fKind), .v (.int .i64 (GD a0 (A.toN v1)).fCell), .v (.int .i64 (GD a0 (A.toN v1)).fIndex), .v (.string (GD a0 (A.toN v1)).fName), .v (.int .i64 (GD a0 (A.toN v1)).fShape.fLayer), .v (.int .i64 (GD a0 (A.toN v1)).fShape.fBox.fX0), .v (.int .i64 (GD a0 (A.toN v1)).fShape.fBox.fY0), .v (.int .i64 (GD a0 (A.toN v1)).fShape.fBox.fX1), .v (.int .i64 (GD a0 (A.toN v1)).fShape.fBox.fY1), .v (.int .i64 (GD a0 (A.toN v1)).fLabel.fLayer), .v (.int .i64 (GD a0 (A.toN v1)).fLabel.fAt.fX), .v (.int .i64 (GD a0 (A.toN v1)).fLabel.fAt.fY), .v (.string (GD a0 (A.toN v1)).fLabel.fName), .v (.int .i64 (GD a0 (A.toN v1)).fInstance.fCell), .v (.int .i64 (GD a0 (A.toN v1)).fInstance.fPlace.fOrientation), .v (.int .i64 (GD a0 (A.toN v1)).fInstance.fPlace.fX), .v (.int .i64 (GD a0 (A.toN v1)).fInstance.fPlace.fY), .v (.int .i64 (GD a0 (A.toN v1)).fInstance.fColumns), .v (.int .i64 (GD a0 (A.toN v1)).fInstance.fRows), .v (.int .i64 (GD a0 (A.toN v1)).fInstance.fStepX), .v (.int .i64 (GD a0 (A.toN v1)).fInstance.fStepY)]], o0 := [], r := .c (.v (.bool y15)), o1 := [], fl := true, σ := [], τ := [] }, hf_impl_isTransaction_1 _ _ hy16, ⟨les_cons (AV.le_refl _) (les_nil), trivial, rfl, rfl, rfl, rfl, trivial, rfl⟩, ?_⟩
      cbv
      refine fork (fun b17 => ?_) (fun b17 => ?_)
      · replace h := of_br_t b17 h
        cbv
        injection h with h
        refine hY6 _ h.symm _ _ (And.intro rfl ?_) (by intro hh; cases hh)
        exact le_sparse rfl ⟨AV.le_refl _, trivial⟩ trivial rfl
      · replace h := of_br_f b17 h
        cbv
        injection h with h
        refine hK8 _ h.symm _ ?_
        exact le_sparse rfl ⟨AV.le_refl _, AV.le_refl _, AV.le_refl _, AV.le_refl _, trivial⟩ trivial rfl
    · replace h := of_br_f b18 h
      cbv
      injection h with h
      refine hY6 _ h.symm _ _ (And.intro rfl ?_) (by intro hh; cases hh)
      exact le_sparse rfl trivial trivial rfl
  · clear hr4
    have h := hN5
    clear hN5
    intro e12 s13 q11 hne
    rcases y3 with y3k0 | y3m0
    · replace h := h
      obtain ⟨rfl, q11⟩ := q11
      replace h := of_let h
      obtain ⟨w19, hw19, h⟩ := h
      have hw19 : w19 = y3k0 := hw19
      subst hw19
      cbv
      injection h with h
      subst h
      refine ⟨(sparse 19 [(4, .c (.v (.int .i64 w19)))] []), ?_, ?_⟩
      · refine St.le_trans q11 ?_
        exact le_sparse rfl ⟨AV.le_refl _, trivial⟩ trivial rfl
      · exact ⟨AV.le_refl _, trivial, rfl⟩
    · obtain ⟨rfl, q11⟩ := q11
      cbv
      refine ⟨_, q11, ?_⟩
      cbv
      injection h with h
      subst h
      refine ⟨(sparse 19 [(4, .c (.v (.int .i64 (-1))))] []), ?_, ?_⟩
      · exact le_sparse rfl ⟨AV.le_refl _, trivial⟩ trivial rfl
      · exact ⟨AV.le_refl _, trivial, rfl⟩

/-- impl.Edit] -/
noncomputable def F_slices_ContainsFunc_Limpl_Edit_impl_Edit_mbFimpl_isTransaction_1 (a0 : List TEdit) : Option (Bool) :=
  (F_slices_IndexFunc_Limpl_Edit_impl_Edit_mbFimpl_isTransaction_1 a0).bind fun y1 =>
  some (std.le 0 y1)
theorem run_slices_ContainsFunc_Limpl_Edit_impl_Edit_mbFimpl_isTransaction_1 (a0 : List TEdit) (r : Bool) (h : F_slices_ContainsFunc_Limpl_Edit_impl_Edit_mbFimpl_isTransaction_1 a0 = some r) : Fun Try.prog 154 [.c (.bs (len a0) 21 (row gd (encEdit) a0)), .c (.fn 155 0 fun _ => .junk)] [] (.c (.v (.bool r))) [] true := by
  refine Fun.of_wp (oneOf []) tok mixed Try.func154 (by kernel_rfl) rfl Try.ntmps154 rfl trivial (fun _ => ⟨trivial, trivial⟩) ?_
  unfold F_slices_ContainsFunc_Limpl_Edit_impl_Edit_mbFimpl_isTransaction_1 at h
  have hf_slices_IndexFunc_Limpl_Edit_impl_Edit_mbFimpl_isTransaction_1 := @run_slices_IndexFunc_Limpl_Edit_impl_Edit_mbFimpl_isTransaction_1
  generalize hLEN : @len = LEN at *
  generalize hGD : @gd = GD at *
  generalize hA : std = A at *
  generalize hP : Try.prog = P at *
  cbv
  replace h := of_bind h
  obtain ⟨y1, hy2, h⟩ := h
  refine ⟨{ args := [.c (.bs (LEN a0) 21 (row GD (encEdit) a0)), .c (.fn 155 0 fun _ => .junk)], o0 := [], r := .c (.v (.int .i64 y1)), o1 := [], fl := true, σ := [], τ := [] }, hf_slices_IndexFunc_Limpl_Edit_impl_Edit_mbFimpl_isTransaction_1 _ _ hy2, ⟨les_cons (AV.le_refl _) (les_cons (AV.le_refl _) (les_nil)), trivial, rfl, rfl, rfl, rfl, trivial, rfl⟩, ?_⟩
  cbv
  injection h with h
  subst h
  refine ⟨(sparse 9 [(4, .c (.v (.bool (A.le 0 y1))))] []), ?_, ?_⟩
  · exact le_sparse rfl ⟨AV.le_refl _, trivial⟩ trivial rfl
  · exact ⟨AV.le_refl _, trivial, rfl⟩

/-- impl.isTransaction -/
noncomputable def F_impl_isTransaction (a0 : List TEdit) : Option (Bool) :=
  ((
        br (std.le 1 (std.ofN (len a0)))
        (br (std.le (std.ofN (len a0)) 8)
        ((F_slices_ContainsFunc_Limpl_Edit_impl_Edit_mbFimpl_isTransaction_1 a0).bind fun y8 =>
        some (!(y8)))
        (some false))
        (some false)
    ) : Option (Bool)).bind fun y1 =>
  letO y1 fun w7 =>
  some w7
theorem run_impl_isTransaction (a0 : List TEdit) (r : Bool) (h : F_impl_isTransaction a0 = some r) : Fun Try.prog 85 [.c (.bs (len a0) 21 (row gd (encEdit) a0))] [] (.c (.v (.bool r))) [] true := by
  refine Fun.of_wp (oneOf [1]) tok mixed Try.func85 (by kernel_rfl) rfl Try.ntmps85 rfl trivial (fun _ => ⟨trivial, trivial⟩) ?_
  unfold F_impl_isTransaction at h
  have hf_slices_ContainsFunc_Limpl_Edit_impl_Edit_mbFimpl_isTransaction_1 := @run_slices_ContainsFunc_Limpl_Edit_impl_Edit_mbFimpl_isTransaction_1
  generalize hLEN : @len = LEN at *
  generalize hGD : @gd = GD at *
  generalize hA : std = A at *
  generalize hP : Try.prog = P at *
  cbv
  replace h := of_bind h
  obtain ⟨y1, hy2, h⟩ := h
  obtain ⟨S5, hS6⟩ : ∃ S, S = (sparse 16 [(2, .c (.v (.bool y1)))] []) := ⟨_, rfl⟩
  refine ⟨S5, ?_, ?_⟩
  · clear h
    have h := hy2
    clear hy2
    cbv
    refine fork (fun b11 => ?_) (fun b11 => ?_)
    · replace h := of_br_t b11 h
      cbv
      refine fork (fun b10 => ?_) (fun b10 => ?_)
      · replace h := of_br_t b10 h
        cbv
        replace h := of_bind h
        obtain ⟨y8, hy9, h⟩ := h
        refine ⟨{ args := [.c (.bs (LEN a0) 21 (row GD (encEdit) a0)), .c (.fn 155 0 fun _ => .junk)], o0 := [], r := .c (.v (.bool y8)), o1 := [], fl := true, σ := [], τ := [] }, hf_slices_ContainsFunc_Limpl_Edit_impl_Edit_mbFimpl_isTransaction_1 _ _ hy9, ⟨les_cons (AV.le_refl _) (les_cons (AV.le_refl _) (les_nil)), trivial, rfl, rfl, rfl, rfl, trivial, rfl⟩, ?_⟩
        cbv
        injection h with h
        subst h
        subst hS6
        show St.le _ _
        exact le_sparse rfl ⟨AV.le_refl _, trivial⟩ trivial rfl
      · replace h := of_br_f b10 h
        cbv
        injection h with h
        subst h
        subst hS6
        show St.le _ _
        exact le_sparse rfl ⟨AV.le_refl _, trivial⟩ trivial rfl
    · replace h := of_br_f b11 h
      cbv
      injection h with h
      subst h
      subst hS6
      show St.le _ _
      exact le_sparse rfl ⟨AV.le_refl _, trivial⟩ trivial rfl
  · clear hy2
    subst hS6
    replace h := of_let h
    obtain ⟨w7, hw7, h⟩ := h
    have hw7 : w7 = y1 := hw7
    subst hw7
    cbv
    injection h with h
    subst h
    refine ⟨(sparse 16 [(2, .c (.v (.bool w7)))] []), ?_, ?_⟩
    · exact le_sparse rfl ⟨AV.le_refl _, trivial⟩ trivial rfl
    · exact ⟨AV.le_refl _, trivial, rfl⟩

/-- impl.two -/
noncomputable def F_impl_two_mob (a0 : List Int) (a1 : Int) : Option (List Int) :=
  req (std.nneg 8) <|
  letO ([std.conv .u8 (std.shr .i64 a1 8), std.conv .u8 a1] : List Int) fun l2 =>
  req (std.room (std.nadd (len a0) (len l2)) 1) <|
  letO (a0 ++ l2) fun l4 =>
  some l4
theorem run_impl_two_mob (a0 : List Int) (a1 : Int) (r : List Int) (h : F_impl_two_mob a0 a1 = some r) : Fun Try.prog 86 [.c (.os 5 0 (len a0)), .c (.v (.int .i64 a1))] [(5, .arr .rw [] (len a0) 1 (row gd (encI .u8) a0))] (.c (.os 64000 0 (len r))) [(64000, .arr .rw [] (len r) 1 (row gd (encI .u8) r))] true := by
  refine Fun.of_wp (oneOf []) tok mixed Try.func86 (by kernel_rfl) rfl Try.ntmps86 rfl ⟨fun i _ j _ k hk => (noref (plain_nil (rfl)) hk).elim, trivial⟩ (fun _ => ⟨trivial, ⟨fun i _ j _ => val_flat (rfl), trivial⟩⟩) ?_
  unfold F_impl_two_mob at h
  generalize hLEN : @len = LEN at *
  generalize hGD : @gd = GD at *
  generalize hA : std = A at *
  generalize hP : Try.prog = P at *
  cbv
  replace h := of_req h
  obtain ⟨c1, h⟩ := h
  refine ⟨c1, ?_⟩
  replace h := of_let h
  obtain ⟨l2, hl2, h⟩ := h
  have e3 : 2 = LEN l2 := by subst hl2 hLEN; rfl
  refine ⟨_, congrArg (fun n => AV.c (AC.os 704 0 n)) e3, _, row GD (encI .u8) l2, e3, ?_, ?_⟩
  · intro i hi j hj
    rw [← e3] at hi
    subst hl2
    subst hGD
    obtain rfl | rfl : i = 0 ∨ i = 1 := by omega
    all_goals obtain rfl : j = 0 := by omega
    all_goals rfl
  cbv
  replace h := of_req h
  obtain ⟨c6, h⟩ := h
  replace h := of_let h
  obtain ⟨l4, hl4, h⟩ := h
  have e5 : A.nadd (LEN a0) (LEN l2) = LEN l4 := by subst hl4 hLEN hA; simp [std, len]
  refine ⟨c6, _, congrArg (fun n => AV.c (AC.os 768 0 n)) e5, _, row GD (encI .u8) l4, e5, ?_, ?_⟩
  · subst hGD hLEN hA
    exact app_os (off := 0) (fun _ _ => rfl) hl4 (Nat.le_refl _)
  cbv
  injection h with h
  subst h
  refine ⟨(sparse 13 [(4, .c (.os 64000 0 (LEN l4)))] [(64000, .arr .rw [] (LEN l4) 1 (row GD (encI .u8) l4))]), ?_, ?_⟩
  · refine St.le_trans (le_ren 768 64000 (by decide) rfl) ?_
    exact le_sparse rfl ⟨AV.le_refl _, trivial⟩ ⟨⟨fun hw => hw, fun c hc => (by cases hc), .inl rfl, rfl, rfl, fun i hi j hj => rfl⟩, trivial⟩ rfl
  · exact ⟨AV.le_refl _, ⟨⟨fun hw => hw, fun c hc => (by cases hc), .inl rfl, rfl, rfl, fun i hi j hj => rfl⟩, trivial⟩, rfl⟩

noncomputable def L_impl_coordinates_mob_x3 (a1 : List Int) : (Int × (List Int)) → Option ((Int × (List Int)) ⊕ (((List Int)))) := fun x3 =>
  letO x3.1 fun v1 =>
  letO x3.2 fun v2 =>
  br (std.lt v1 (std.ofN (len a1)))
  (req (std.inR v1 (len a1)) <|
  (F_impl_two_mob v2 (std.add .i64 (gd a1 (std.toN v1)) 32768)).bind fun y16 =>
  some (.inl (std.add .i64 v1 1, y16)))
  (some (.inr v2))
/-- impl.coordinates -/
noncomputable def F_impl_coordinates_mob (a0 : List Int) (a1 : List Int) : Option (List Int) :=
  (whileP (σ := Int × (List Int)) (ρ := ((List Int))) (L_impl_coordinates_mob_x3 a1) (0, a0)).bind fun y4 =>
  letO y4 fun y4k0 =>
  letO y4k0 fun w19 =>
  some w19
theorem run_impl_coordinates_mob (a0 : List Int) (a1 : List Int) (r : List Int) (h : F_impl_coordinates_mob a0 a1 = some r) : Fun Try.prog 153 [.c (.os 5 0 (len a0)), .c (.bs (len a1) 1 (row gd (encI .i64) a1))] [(5, .arr .rw [] (len a0) 1 (row gd (encI .u8) a0))] (.c (.os 64000 0 (len r))) [(64000, .arr .rw [] (len r) 1 (row gd (encI .u8) r))] true := by
  refine Fun.of_wp (oneOf []) tok mixed Try.func153 (by kernel_rfl) rfl Try.ntmps153 rfl ⟨fun i _ j _ k hk => (noref (plain_nil (rfl)) hk).elim, trivial⟩ (fun _ => ⟨trivial, ⟨fun i _ j _ => val_flat (rfl), trivial⟩⟩) ?_
  unfold F_impl_coordinates_mob at h
  unfold L_impl_coordinates_mob_x3 at h
  have hf_impl_two_mob := @run_impl_two_mob
  generalize hLEN : @len = LEN at *
  generalize hGD : @gd = GD at *
  generalize hA : std = A at *
  generalize hP : Try.prog = P at *
  cbv
  replace h := of_bind h
  obtain ⟨y4, hr5, hN6⟩ := h
  refine loop_cut hr5 (fun x => (sparse 19 [(0, .c (.os 1024 0 (LEN x.2))), (7, .c (.bs (LEN a1) 1 (row GD (encI .i64) a1))), (8, .c (.v (.int .i64 (A.ofN (LEN a1))))), (9, .c (.v (.int .i64 x.1)))] [(1024, .arr .rw [] (LEN x.2) 1 (row GD (encI .u8) x.2))])) ?_ (fun y e s => (fun (w : (List Int)) => e = .exit 0 ∧ s.le (sparse 19 [(0, .c (.os 1024 0 (LEN w)))] [(1024, .arr .rw [] (LEN w) 1 (row GD (encI .u8) w))])) y) ?_ ?_
  · clear hr5 hN6
    show St.le _ _
    refine St.le_trans (le_ren 5 1024 (by decide) rfl) ?_
    exact le_sparse rfl ⟨AV.le_refl _, AV.le_refl _, AV.le_refl _, AV.le_refl _, trivial⟩ ⟨⟨fun hw => hw, fun c hc => (by cases hc), .inl rfl, rfl, rfl, fun i hi j hj => rfl⟩, trivial⟩ rfl
  · clear hr5 hN6
    intro x z10 h K8 hK9 hY7
    obtain ⟨x0_, x1_⟩ := x
    replace h := of_let h
    obtain ⟨v1, hv1, h⟩ := h
    have hv1 : v1 = x0_ := hv1
    subst hv1
    replace h := of_let h
    obtain ⟨v2, hv2, h⟩ := h
    have hv2 : v2 = x1_ := hv2
    subst hv2
    cbv
    refine fork (fun b18 => ?_) (fun b18 => ?_)
    · replace h := of_br_t b18 h
      cbv
      replace h := of_req h
      obtain ⟨c15, h⟩ := h
      refine ⟨⟨c15, trivial⟩, ?_⟩
      replace h := of_bind h
      obtain ⟨y16, hy17, h⟩ := h
      refine ⟨{ args := [.c (.os 5 0 (LEN v2)), .c (.v (.int .i64 (A.add .i64 (GD a1 (A.toN v1)) 32768)))], o0 := [(5, .arr .rw [] (LEN v2) 1 (row GD (encI .u8) v2))], r := .c (.os 64000 0 (LEN y16)), o1 := [(64000, .arr .rw [] (LEN y16) 1 (row GD (encI .u8) y16))], fl := true, σ := [(5, 1024)], τ := [(64000, 1024)] }, hf_impl_two_mob _ _ _ hy17, ⟨les_cons (AV.le_refl _) (les_cons (AV.le_refl _) (les_nil)), ⟨⟨fun hw => hw, fun c hc => (by cases hc), .inl rfl, rfl, rfl, fun i hi j hj => rfl⟩, trivial⟩, rfl, rfl, rfl, rfl, ⟨fun h => absurd (show (64000 : Nat) % 2 = 1 from h) (by decide), trivial⟩, rfl⟩, _, rfl, _, _, rfl, fun _ _ _ _ => rfl, ?_⟩
      cbv
      injection h with h
      refine hK9 _ h.symm _ ?_
      exact le_sparse rfl ⟨AV.le_refl _, AV.le_refl _, AV.le_refl _, AV.le_refl _, trivial⟩ ⟨⟨fun hw => hw, fun c hc => (by cases hc), .inl rfl, rfl, rfl, fun i hi j hj => rfl⟩, trivial⟩ rfl
    · replace h := of_br_f b18 h
      cbv
      injection h with h
      refine hY7 _ h.symm _ _ (And.intro rfl ?_) (by intro hh; cases hh)
      exact le_sparse rfl ⟨AV.le_refl _, trivial⟩ ⟨⟨fun hw => hw, fun c hc => (by cases hc), .inl rfl, rfl, rfl, fun i hi j hj => rfl⟩, trivial⟩ rfl
  · clear hr5
    have h := hN6
    clear hN6
    intro e13 s14 q12 hne
    replace h := of_let h
    obtain ⟨y4k0, hyk, h⟩ := h
    have hyk : y4k0 = y4 := hyk
    subst hyk
    obtain ⟨rfl, q12⟩ := q12
    replace h := of_let h
    obtain ⟨w19, hw19, h⟩ := h
    have hw19 : w19 = y4k0 := hw19
    subst hw19
    cbv
    refine ⟨_, q12, ?_⟩
    cbv
    injection h with h
    subst h
    refine ⟨(sparse 19 [(4, .c (.os 64000 0 (LEN w19)))] [(64000, .arr .rw [] (LEN w19) 1 (row GD (encI .u8) w19))]), ?_, ?_⟩
    · refine St.le_trans (le_ren 1024 64000 (by decide) rfl) ?_
      exact le_sparse rfl ⟨AV.le_refl _, trivial⟩ ⟨⟨fun hw => hw, fun c hc => (by cases hc), .inl rfl, rfl, rfl, fun i hi j hj => rfl⟩, trivial⟩ rfl
    · exact ⟨AV.le_refl _, ⟨⟨fun hw => hw, fun c hc => (by cases hc), .inl rfl, rfl, rfl, fun i hi j hj => rfl⟩, trivial⟩, rfl⟩
/-- impl.shapeBytes -/
noncomputable def F_impl_shapeBytes_mob (a0 : List Int) (a1 : TShape) : Option (List Int) :=
  letO ([std.conv .u8 a1.fLayer] : List Int) fun l1 =>
  req (std.room (std.nadd (len a0) (len l1)) 1) <|
  letO (a0 ++ l1) fun l3 =>
  letO ([a1.fBox.fX0, a1.fBox.fY0, a1.fBox.fX1, a1.fBox.fY1] : List Int) fun l6 =>
  (F_impl_coordinates_mob l3 l6).bind fun y8 =>
  some y8
theorem run_impl_shapeBytes_mob (a0 : List Int) (a1 : TShape) (r : List Int) (h : F_impl_shapeBytes_mob a0 a1 = some r) : Fun Try.prog 78 [.c (.os 5 0 (len a0)), .agg [.v (.int .i64 a1.fLayer), .v (.int .i64 a1.fBox.fX0), .v (.int .i64 a1.fBox.fY0), .v (.int .i64 a1.fBox.fX1), .v (.int .i64 a1.fBox.fY1)]] [(5, .arr .rw [] (len a0) 1 (row gd (encI .u8) a0))] (.c (.os 64000 0 (len r))) [(64000, .arr .rw [] (len r) 1 (row gd (encI .u8) r))] true := by
  refine Fun.of_wp (oneOf []) tok mixed Try.func78 (by kernel_rfl) rfl Try.ntmps78 rfl ⟨fun i _ j _ k hk => (noref (plain_nil (rfl)) hk).elim, trivial⟩ (fun _ => ⟨trivial, ⟨fun i _ j _ => val_flat (rfl), trivial⟩⟩) ?_
  unfold F_impl_shapeBytes_mob at h
  have hf_impl_coordinates_mob := @run_impl_coordinates_mob
  generalize hLEN : @len = LEN at *
  generalize hGD : @gd = GD at *
  generalize hA : std = A at *
  generalize hP : Try.prog = P at *
  cbv
  replace h := of_let h
  obtain ⟨l1, hl1, h⟩ := h
  have e2 : 1 = LEN l1 := by subst hl1 hLEN; rfl
  refine ⟨_, congrArg (fun n => AV.c (AC.os 576 0 n)) e2, _, row GD (encI .u8) l1, e2, ?_, ?_⟩
  · intro i hi j hj
    rw [← e2] at hi
    subst hl1
    subst hGD
    obtain rfl : i = 0 := by omega
    all_goals obtain rfl : j = 0 := by omega
    all_goals rfl
  cbv
  replace h := of_req h
  obtain ⟨c5, h⟩ := h
  replace h := of_let h
  obtain ⟨l3, hl3, h⟩ := h
  have e4 : A.nadd (LEN a0) (LEN l1) = LEN l3 := by subst hl3 hLEN hA; simp [std, len]
  refine ⟨c5, _, congrArg (fun n => AV.c (AC.os 640 0 n)) e4, _, row GD (encI .u8) l3, e4, ?_, ?_⟩
  · subst hGD hLEN hA
    exact app_os (off := 0) (fun _ _ => rfl) hl3 (Nat.le_refl _)
  cbv
  replace h := of_let h
  obtain ⟨l6, hl6, h⟩ := h
  have e7 : 4 = LEN l6 := by subst hl6 hLEN; rfl
  refine ⟨_, congrArg (fun n => AV.c (AC.os 1472 0 n)) e7, _, row GD (encI .i64) l6, e7, ?_, ?_⟩
  · intro i hi j hj
    rw [← e7] at hi
    subst hl6
    subst hGD
    obtain rfl | rfl | rfl | rfl : i = 0 ∨ i = 1 ∨ i = 2 ∨ i = 3 := by omega
    all_goals obtain rfl : j = 0 := by omega
    all_goals rfl
  cbv
  replace h := of_bind h
  obtain ⟨y8, hy9, h⟩ := h
  refine ⟨{ args := [.c (.os 5 0 (LEN l3)), .c (.bs (LEN l6) 1 (row GD (encI .i64) l6))], o0 := [(5, .arr .rw [] (LEN l3) 1 (row GD (encI .u8) l3))], r := .c (.os 64000 0 (LEN y8)), o1 := [(64000, .arr .rw [] (LEN y8) 1 (row GD (encI .u8) y8))], fl := true, σ := [(5, 640)], τ := [(64000, 1536)] }, hf_impl_coordinates_mob _ _ _ hy9, ⟨les_cons (AV.le_refl _) (les_cons (give_os (fun _ _ => rfl) rfl rfl rfl) (les_nil)), ⟨⟨fun hw => hw, fun c hc => (by cases hc), .inl rfl, rfl, rfl, fun i hi j hj => rfl⟩, trivial⟩, rfl, rfl, rfl, rfl, ⟨fun h => absurd (show (64000 : Nat) % 2 = 1 from h) (by decide), trivial⟩, rfl⟩, _, rfl, _, _, rfl, fun _ _ _ _ => rfl, ?_⟩
  cbv
  injection h with h
  subst h
  refine ⟨(sparse 25 [(4, .c (.os 64000 0 (LEN y8)))] [(64000, .arr .rw [] (LEN y8) 1 (row GD (encI .u8) y8))]), ?_, ?_⟩
  · refine St.le_trans (le_ren 1536 64000 (by decide) rfl) ?_
    exact le_sparse rfl ⟨AV.le_refl _, trivial⟩ ⟨⟨fun hw => hw, fun c hc => (by cases hc), .inl rfl, rfl, rfl, fun i hi j hj => rfl⟩, trivial⟩ rfl
  · exact ⟨AV.le_refl _, ⟨⟨fun hw => hw, fun c hc => (by cases hc), .inl rfl, rfl, rfl, fun i hi j hj => rfl⟩, trivial⟩, rfl⟩

/-- impl.nameBytes -/
noncomputable def F_impl_nameBytes_mob (a0 : List Int) (a1 : ByteArray) : Option (List Int) :=
  letO ([std.conv .u8 (std.ofN (std.slen a1))] : List Int) fun l1 =>
  req (std.room (std.nadd (len a0) (len l1)) 1) <|
  letO (a0 ++ l1) fun l3 =>
  req (std.room (std.nadd (len l3) (std.slen a1)) 1) <|
  letO (l3 ++ strL a1) fun l6 =>
  some l6
theorem run_impl_nameBytes_mob (a0 : List Int) (a1 : ByteArray) (r : List Int) (h : F_impl_nameBytes_mob a0 a1 = some r) : Fun Try.prog 81 [.c (.os 5 0 (len a0)), .c (.v (.string a1))] [(5, .arr .rw [] (len a0) 1 (row gd (encI .u8) a0))] (.c (.os 64000 0 (len r))) [(64000, .arr .rw [] (len r) 1 (row gd (encI .u8) r))] true := by
  refine Fun.of_wp (oneOf []) tok mixed Try.func81 (by kernel_rfl) rfl Try.ntmps81 rfl ⟨fun i _ j _ k hk => (noref (plain_nil (rfl)) hk).elim, trivial⟩ (fun _ => ⟨trivial, ⟨fun i _ j _ => val_flat (rfl), trivial⟩⟩) ?_
  unfold F_impl_nameBytes_mob at h
  generalize hLEN : @len = LEN at *
  generalize hGD : @gd = GD at *
  generalize hA : std = A at *
  generalize hP : Try.prog = P at *
  cbv
  replace h := of_let h
  obtain ⟨l1, hl1, h⟩ := h
  have e2 : 1 = LEN l1 := by subst hl1 hLEN; rfl
  refine ⟨_, congrArg (fun n => AV.c (AC.os 576 0 n)) e2, _, row GD (encI .u8) l1, e2, ?_, ?_⟩
  · intro i hi j hj
    rw [← e2] at hi
    subst hl1
    subst hGD
    obtain rfl : i = 0 := by omega
    all_goals obtain rfl : j = 0 := by omega
    all_goals rfl
  cbv
  replace h := of_req h
  obtain ⟨c5, h⟩ := h
  replace h := of_let h
  obtain ⟨l3, hl3, h⟩ := h
  have e4 : A.nadd (LEN a0) (LEN l1) = LEN l3 := by subst hl3 hLEN hA; simp [std, len]
  refine ⟨c5, _, congrArg (fun n => AV.c (AC.os 640 0 n)) e4, _, row GD (encI .u8) l3, e4, ?_, ?_⟩
  · subst hGD hLEN hA
    exact app_os (off := 0) (fun _ _ => rfl) hl3 (Nat.le_refl _)
  cbv
  replace h := of_req h
  obtain ⟨c8, h⟩ := h
  replace h := of_let h
  obtain ⟨l6, hl6, h⟩ := h
  have e7 : A.nadd (LEN l3) (A.slen a1) = LEN l6 := by subst hl6 hLEN hA; exact (strapp_len _ _).symm
  refine ⟨c8, _, congrArg (fun n => AV.c (AC.os 640 0 n)) e7, _, row GD (encI .u8) l6, e7, ?_, ?_⟩
  · subst hGD hLEN hA
    exact app_str hl6 (Nat.le_refl _)
  cbv
  injection h with h
  subst h
  refine ⟨(sparse 13 [(4, .c (.os 64000 0 (LEN l6)))] [(64000, .arr .rw [] (LEN l6) 1 (row GD (encI .u8) l6))]), ?_, ?_⟩
  · refine St.le_trans (le_ren 640 64000 (by decide) rfl) ?_
    exact le_sparse rfl ⟨AV.le_refl _, trivial⟩ ⟨⟨fun hw => hw, fun c hc => (by cases hc), .inl rfl, rfl, rfl, fun i hi j hj => rfl⟩, trivial⟩ rfl
  · exact ⟨AV.le_refl _, ⟨⟨fun hw => hw, fun c hc => (by cases hc), .inl rfl, rfl, rfl, fun i hi j hj => rfl⟩, trivial⟩, rfl⟩

/-- impl.labelBytes -/
noncomputable def F_impl_labelBytes_mob (a0 : List Int) (a1 : TLabel) : Option (List Int) :=
  letO ([std.conv .u8 a1.fLayer] : List Int) fun l1 =>
  req (std.room (std.nadd (len a0) (len l1)) 1) <|
  letO (a0 ++ l1) fun l3 =>
  letO ([a1.fAt.fX, a1.fAt.fY] : List Int) fun l6 =>
  (F_impl_coordinates_mob l3 l6).bind fun y8 =>
  (F_impl_nameBytes_mob y8 a1.fName).bind fun y10 =>
  some y10
theorem run_impl_labelBytes_mob (a0 : List Int) (a1 : TLabel) (r : List Int) (h : F_impl_labelBytes_mob a0 a1 = some r) : Fun Try.prog 79 [.c (.os 5 0 (len a0)), .agg [.v (.int .i64 a1.fLayer), .v (.int .i64 a1.fAt.fX), .v (.int .i64 a1.fAt.fY), .v (.string a1.fName)]] [(5, .arr .rw [] (len a0) 1 (row gd (encI .u8) a0))] (.c (.os 64000 0 (len r))) [(64000, .arr .rw [] (len r) 1 (row gd (encI .u8) r))] true := by
  refine Fun.of_wp (oneOf []) tok mixed Try.func79 (by kernel_rfl) rfl Try.ntmps79 rfl ⟨fun i _ j _ k hk => (noref (plain_nil (rfl)) hk).elim, trivial⟩ (fun _ => ⟨trivial, ⟨fun i _ j _ => val_flat (rfl), trivial⟩⟩) ?_
  unfold F_impl_labelBytes_mob at h
  have hf_impl_coordinates_mob := @run_impl_coordinates_mob
  have hf_impl_nameBytes_mob := @run_impl_nameBytes_mob
  generalize hLEN : @len = LEN at *
  generalize hGD : @gd = GD at *
  generalize hA : std = A at *
  generalize hP : Try.prog = P at *
  cbv
  replace h := of_let h
  obtain ⟨l1, hl1, h⟩ := h
  have e2 : 1 = LEN l1 := by subst hl1 hLEN; rfl
  refine ⟨_, congrArg (fun n => AV.c (AC.os 576 0 n)) e2, _, row GD (encI .u8) l1, e2, ?_, ?_⟩
  · intro i hi j hj
    rw [← e2] at hi
    subst hl1
    subst hGD
    obtain rfl : i = 0 := by omega
    all_goals obtain rfl : j = 0 := by omega
    all_goals rfl
  cbv
  replace h := of_req h
  obtain ⟨c5, h⟩ := h
  replace h := of_let h
  obtain ⟨l3, hl3, h⟩ := h
  have e4 : A.nadd (LEN a0) (LEN l1) = LEN l3 := by subst hl3 hLEN hA; simp [std, len]
  refine ⟨c5, _, congrArg (fun n => AV.c (AC.os 640 0 n)) e4, _, row GD (encI .u8) l3, e4, ?_, ?_⟩
  · subst hGD hLEN hA
    exact app_os (off := 0) (fun _ _ => rfl) hl3 (Nat.le_refl _)
  cbv
  replace h := of_let h
  obtain ⟨l6, hl6, h⟩ := h
  have e7 : 2 = LEN l6 := by subst hl6 hLEN; rfl
  refine ⟨_, congrArg (fun n => AV.c (AC.os 1088 0 n)) e7, _, row GD (encI .i64) l6, e7, ?_, ?_⟩
  · intro i hi j hj
    rw [← e7] at hi
    subst hl6
    subst hGD
    obtain rfl | rfl : i = 0 ∨ i = 1 := by omega
    all_goals obtain rfl : j = 0 := by omega
    all_goals rfl
  cbv
  replace h := of_bind h
  obtain ⟨y8, hy9, h⟩ := h
  refine ⟨{ args := [.c (.os 5 0 (LEN l3)), .c (.bs (LEN l6) 1 (row GD (encI .i64) l6))], o0 := [(5, .arr .rw [] (LEN l3) 1 (row GD (encI .u8) l3))], r := .c (.os 64000 0 (LEN y8)), o1 := [(64000, .arr .rw [] (LEN y8) 1 (row GD (encI .u8) y8))], fl := true, σ := [(5, 640)], τ := [(64000, 1152)] }, hf_impl_coordinates_mob _ _ _ hy9, ⟨les_cons (AV.le_refl _) (les_cons (give_os (fun _ _ => rfl) rfl rfl rfl) (les_nil)), ⟨⟨fun hw => hw, fun c hc => (by cases hc), .inl rfl, rfl, rfl, fun i hi j hj => rfl⟩, trivial⟩, rfl, rfl, rfl, rfl, ⟨fun h => absurd (show (64000 : Nat) % 2 = 1 from h) (by decide), trivial⟩, rfl⟩, _, rfl, _, _, rfl, fun _ _ _ _ => rfl, ?_⟩
  cbv
  replace h := of_bind h
  obtain ⟨y10, hy11, h⟩ := h
  refine ⟨{ args := [.c (.os 5 0 (LEN y8)), .c (.v (.string a1.fName))], o0 := [(5, .arr .rw [] (LEN y8) 1 (row GD (encI .u8) y8))], r := .c (.os 64000 0 (LEN y10)), o1 := [(64000, .arr .rw [] (LEN y10) 1 (row GD (encI .u8) y10))], fl := true, σ := [(5, 1152)], τ := [(64000, 1344)] }, hf_impl_nameBytes_mob _ _ _ hy11, ⟨les_cons (AV.le_refl _) (les_cons (AV.le_refl _) (les_nil)), ⟨⟨fun hw => hw, fun c hc => (by cases hc), .inl rfl, rfl, rfl, fun i hi j hj => rfl⟩, trivial⟩, rfl, rfl, rfl, rfl, ⟨fun h => absurd (show (64000 : Nat) % 2 = 1 from h) (by decide), trivial⟩, rfl⟩, _, rfl, _, _, rfl, fun _ _ _ _ => rfl, ?_⟩
  cbv
  injection h with h
  subst h
  refine ⟨(sparse 22 [(4, .c (.os 64000 0 (LEN y10)))] [(64000, .arr .rw [] (LEN y10) 1 (row GD (encI .u8) y10))]), ?_, ?_⟩
  · refine St.le_trans (le_ren 1344 64000 (by decide) rfl) ?_
    exact le_sparse rfl ⟨AV.le_refl _, trivial⟩ ⟨⟨fun hw => hw, fun c hc => (by cases hc), .inl rfl, rfl, rfl, fun i hi j hj => rfl⟩, trivial⟩ rfl
  · exact ⟨AV.le_refl _, ⟨⟨fun hw => hw, fun c hc => (by cases hc), .inl rfl, rfl, rfl, fun i hi j hj => rfl⟩, trivial⟩, rfl⟩

/-- impl.placeBytes -/
noncomputable def F_impl_placeBytes_mob (a0 : List Int) (a1 : TInstance) : Option (List Int) :=
  letO ([std.conv .u8 a1.fPlace.fOrientation] : List Int) fun l1 =>
  req (std.room (std.nadd (len a0) (len l1)) 1) <|
  letO (a0 ++ l1) fun l3 =>
  letO ([a1.fPlace.fX, a1.fPlace.fY] : List Int) fun l6 =>
  (F_impl_coordinates_mob l3 l6).bind fun y8 =>
  letO ([std.conv .u8 a1.fColumns, std.conv .u8 a1.fRows] : List Int) fun l10 =>
  req (std.room (std.nadd (len y8) (len l10)) 1) <|
  letO (y8 ++ l10) fun l12 =>
  letO ([a1.fStepX, a1.fStepY] : List Int) fun l15 =>
  (F_impl_coordinates_mob l12 l15).bind fun y17 =>
  some y17
theorem run_impl_placeBytes_mob (a0 : List Int) (a1 : TInstance) (r : List Int) (h : F_impl_placeBytes_mob a0 a1 = some r) : Fun Try.prog 80 [.c (.os 5 0 (len a0)), .agg [.v (.int .i64 a1.fCell), .v (.int .i64 a1.fPlace.fOrientation), .v (.int .i64 a1.fPlace.fX), .v (.int .i64 a1.fPlace.fY), .v (.int .i64 a1.fColumns), .v (.int .i64 a1.fRows), .v (.int .i64 a1.fStepX), .v (.int .i64 a1.fStepY)]] [(5, .arr .rw [] (len a0) 1 (row gd (encI .u8) a0))] (.c (.os 64000 0 (len r))) [(64000, .arr .rw [] (len r) 1 (row gd (encI .u8) r))] true := by
  refine Fun.of_wp (oneOf []) tok mixed Try.func80 (by kernel_rfl) rfl Try.ntmps80 rfl ⟨fun i _ j _ k hk => (noref (plain_nil (rfl)) hk).elim, trivial⟩ (fun _ => ⟨trivial, ⟨fun i _ j _ => val_flat (rfl), trivial⟩⟩) ?_
  unfold F_impl_placeBytes_mob at h
  have hf_impl_coordinates_mob := @run_impl_coordinates_mob
  generalize hLEN : @len = LEN at *
  generalize hGD : @gd = GD at *
  generalize hA : std = A at *
  generalize hP : Try.prog = P at *
  cbv
  replace h := of_let h
  obtain ⟨l1, hl1, h⟩ := h
  have e2 : 1 = LEN l1 := by subst hl1 hLEN; rfl
  refine ⟨_, congrArg (fun n => AV.c (AC.os 640 0 n)) e2, _, row GD (encI .u8) l1, e2, ?_, ?_⟩
  · intro i hi j hj
    rw [← e2] at hi
    subst hl1
    subst hGD
    obtain rfl : i = 0 := by omega
    all_goals obtain rfl : j = 0 := by omega
    all_goals rfl
  cbv
  replace h := of_req h
  obtain ⟨c5, h⟩ := h
  replace h := of_let h
  obtain ⟨l3, hl3, h⟩ := h
  have e4 : A.nadd (LEN a0) (LEN l1) = LEN l3 := by subst hl3 hLEN hA; simp [std, len]
  refine ⟨c5, _, congrArg (fun n => AV.c (AC.os 704 0 n)) e4, _, row GD (encI .u8) l3, e4, ?_, ?_⟩
  · subst hGD hLEN hA
    exact app_os (off := 0) (fun _ _ => rfl) hl3 (Nat.le_refl _)
  cbv
  replace h := of_let h
  obtain ⟨l6, hl6, h⟩ := h
  have e7 : 2 = LEN l6 := by subst hl6 hLEN; rfl
  refine ⟨_, congrArg (fun n => AV.c (AC.os 1152 0 n)) e7, _, row GD (encI .i64) l6, e7, ?_, ?_⟩
  · intro i hi j hj
    rw [← e7] at hi
    subst hl6
    subst hGD
    obtain rfl | rfl : i = 0 ∨ i = 1 := by omega
    all_goals obtain rfl : j = 0 := by omega
    all_goals rfl
  cbv
  replace h := of_bind h
  obtain ⟨y8, hy9, h⟩ := h
  refine ⟨{ args := [.c (.os 5 0 (LEN l3)), .c (.bs (LEN l6) 1 (row GD (encI .i64) l6))], o0 := [(5, .arr .rw [] (LEN l3) 1 (row GD (encI .u8) l3))], r := .c (.os 64000 0 (LEN y8)), o1 := [(64000, .arr .rw [] (LEN y8) 1 (row GD (encI .u8) y8))], fl := true, σ := [(5, 704)], τ := [(64000, 1216)] }, hf_impl_coordinates_mob _ _ _ hy9, ⟨les_cons (AV.le_refl _) (les_cons (give_os (fun _ _ => rfl) rfl rfl rfl) (les_nil)), ⟨⟨fun hw => hw, fun c hc => (by cases hc), .inl rfl, rfl, rfl, fun i hi j hj => rfl⟩, trivial⟩, rfl, rfl, rfl, rfl, ⟨fun h => absurd (show (64000 : Nat) % 2 = 1 from h) (by decide), trivial⟩, rfl⟩, _, rfl, _, _, rfl, fun _ _ _ _ => rfl, ?_⟩
  cbv
  replace h := of_let h
  obtain ⟨l10, hl10, h⟩ := h
  have e11 : 2 = LEN l10 := by subst hl10 hLEN; rfl
  refine ⟨_, congrArg (fun n => AV.c (AC.os 1728 0 n)) e11, _, row GD (encI .u8) l10, e11, ?_, ?_⟩
  · intro i hi j hj
    rw [← e11] at hi
    subst hl10
    subst hGD
    obtain rfl | rfl : i = 0 ∨ i = 1 := by omega
    all_goals obtain rfl : j = 0 := by omega
    all_goals rfl
  cbv
  replace h := of_req h
  obtain ⟨c14, h⟩ := h
  replace h := of_let h
  obtain ⟨l12, hl12, h⟩ := h
  have e13 : A.nadd (LEN y8) (LEN l10) = LEN l12 := by subst hl12 hLEN hA; simp [std, len]
  refine ⟨c14, _, congrArg (fun n => AV.c (AC.os 1216 0 n)) e13, _, row GD (encI .u8) l12, e13, ?_, ?_⟩
  · subst hGD hLEN hA
    exact app_os (off := 0) (fun _ _ => rfl) hl12 (Nat.le_refl _)
  cbv
  replace h := of_let h
  obtain ⟨l15, hl15, h⟩ := h
  have e16 : 2 = LEN l15 := by subst hl15 hLEN; rfl
  refine ⟨_, congrArg (fun n => AV.c (AC.os 2112 0 n)) e16, _, row GD (encI .i64) l15, e16, ?_, ?_⟩
  · intro i hi j hj
    rw [← e16] at hi
    subst hl15
    subst hGD
    obtain rfl | rfl : i = 0 ∨ i = 1 := by omega
    all_goals obtain rfl : j = 0 := by omega
    all_goals rfl
  cbv
  replace h := of_bind h
  obtain ⟨y17, hy18, h⟩ := h
  refine ⟨{ args := [.c (.os 5 0 (LEN l12)), .c (.bs (LEN l15) 1 (row GD (encI .i64) l15))], o0 := [(5, .arr .rw [] (LEN l12) 1 (row GD (encI .u8) l12))], r := .c (.os 64000 0 (LEN y17)), o1 := [(64000, .arr .rw [] (LEN y17) 1 (row GD (encI .u8) y17))], fl := true, σ := [(5, 1216)], τ := [(64000, 2176)] }, hf_impl_coordinates_mob _ _ _ hy18, ⟨les_cons (AV.le_refl _) (les_cons (give_os (fun _ _ => rfl) rfl rfl rfl) (les_nil)), ⟨⟨fun hw => hw, fun c hc => (by cases hc), .inl rfl, rfl, rfl, fun i hi j hj => rfl⟩, trivial⟩, rfl, rfl, rfl, rfl, ⟨fun h => absurd (show (64000 : Nat) % 2 = 1 from h) (by decide), trivial⟩, rfl⟩, _, rfl, _, _, rfl, fun _ _ _ _ => rfl, ?_⟩
  cbv
  injection h with h
  subst h
  refine ⟨(sparse 35 [(4, .c (.os 64000 0 (LEN y17)))] [(64000, .arr .rw [] (LEN y17) 1 (row GD (encI .u8) y17))]), ?_, ?_⟩
  · refine St.le_trans (le_ren 2176 64000 (by decide) rfl) ?_
    exact le_sparse rfl ⟨AV.le_refl _, trivial⟩ ⟨⟨fun hw => hw, fun c hc => (by cases hc), .inl rfl, rfl, rfl, fun i hi j hj => rfl⟩, trivial⟩ rfl
  · exact ⟨AV.le_refl _, ⟨⟨fun hw => hw, fun c hc => (by cases hc), .inl rfl, rfl, rfl, fun i hi j hj => rfl⟩, trivial⟩, rfl⟩

/-- impl.EditBytes -/
noncomputable def F_impl_EditBytes (a0 : TEdit) : Option (ByteArray) :=
  (F_impl_IsValidEdit a0).bind fun y1 =>
  br (!(y1))
  (some (ByteArray.mk #[]))
  (letO ([std.conv .u8 a0.fKind, std.conv .u8 a0.fCell, std.conv .u8 a0.fIndex] : List Int) fun l3 =>
  ((
        br (std.eq a0.fKind 1)
        ((F_impl_shapeBytes_mob l3 a0.fShape).bind fun y12 =>
        some y12)
        (((
              br (std.eq a0.fKind 3)
              ((F_impl_labelBytes_mob l3 a0.fLabel).bind fun y21 =>
              some y21)
              (((
                    br (std.eq a0.fKind 5)
                    (letO ([std.conv .u8 a0.fInstance.fCell] : List Int) fun l30 =>
                    req (std.room (std.nadd (len l3) (len l30)) 1) <|
                    letO (l3 ++ l30) fun l32 =>
                    (F_impl_placeBytes_mob l32 a0.fInstance).bind fun y35 =>
                    some y35)
                    (((
                          br (std.eq a0.fKind 7)
                          (some true)
                          (some (std.eq a0.fKind 8))
                      ) : Option (Bool)).bind fun y37 =>
                    letO y37 fun w43 =>
                    ((
                          br w43
                          ((F_impl_nameBytes_mob l3 a0.fName).bind fun y52 =>
                          some y52)
                          (some l3)
                      ) : Option ((List Int))).bind fun y45 =>
                    letO y45 fun w51 =>
                    some w51)
                ) : Option ((List Int))).bind fun y23 =>
              letO y23 fun w29 =>
              some w29)
          ) : Option ((List Int))).bind fun y14 =>
        letO y14 fun w20 =>
        some w20)
    ) : Option ((List Int))).bind fun y5 =>
  letO y5 fun w11 =>
  some (std.ofBytes (len w11) (fun i => gd w11 (0 + i))))
theorem run_impl_EditBytes (a0 : TEdit) (r : ByteArray) (h : F_impl_EditBytes a0 = some r) : Fun Try.prog 28 [.agg [.v (.int .i64 a0.fKind), .v (.int .i64 a0.fCell), .v (.int .i64 a0.fIndex), .v (.string a0.fName), .v (.int .i64 a0.fShape.fLayer), .v (.int .i64 a0.fShape.fBox.fX0), .v (.int .i64 a0.fShape.fBox.fY0), .v (.int .i64 a0.fShape.fBox.fX1), .v (.int .i64 a0.fShape.fBox.fY1), .v (.int .i64 a0.fLabel.fLayer), .v (.int .i64 a0.fLabel.fAt.fX), .v (.int .i64 a0.fLabel.fAt.fY), .v (.string a0.fLabel.fName), .v (.int .i64 a0.fInstance.fCell), .v (.int .i64 a0.fInstance.fPlace.fOrientation), .v (.int .i64 a0.fInstance.fPlace.fX), .v (.int .i64 a0.fInstance.fPlace.fY), .v (.int .i64 a0.fInstance.fColumns), .v (.int .i64 a0.fInstance.fRows), .v (.int .i64 a0.fInstance.fStepX), .v (.int .i64 a0.fInstance.fStepY)]] [] (.c (.v (.string r))) [] true := by
  refine Fun.of_wp (oneOf [100019, 100025, 100031, 100043]) tok mixed Try.func28 (by kernel_rfl) rfl Try.ntmps28 rfl trivial (fun _ => ⟨trivial, trivial⟩) ?_
  unfold F_impl_EditBytes at h
  have hf_impl_IsValidEdit := @run_impl_IsValidEdit
  have hf_impl_labelBytes_mob := @run_impl_labelBytes_mob
  have hf_impl_nameBytes_mob := @run_impl_nameBytes_mob
  have hf_impl_placeBytes_mob := @run_impl_placeBytes_mob
  have hf_impl_shapeBytes_mob := @run_impl_shapeBytes_mob
  generalize hLEN : @len = LEN at *
  generalize hGD : @gd = GD at *
  generalize hA : std = A at *
  generalize hP : Try.prog = P at *
  cbv
  replace h := of_bind h
  obtain ⟨y1, hy2, h⟩ := h
  refine ⟨{ args := [.agg [.v (.int .i64 a0.fKind), .v (.int .i64 a0.fCell), .v (.int .i64 a0.fIndex), .v (.string a0.fName), .v (.int .i64 a0.fShape.fLayer), .v (.int .i64 a0.fShape.fBox.fX0), .v (.int .i64 a0.fShape.fBox.fY0), .v (.int .i64 a0.fShape.fBox.fX1), .v (.int .i64 a0.fShape.fBox.fY1), .v (.int .i64 a0.fLabel.fLayer), .v (.int .i64 a0.fLabel.fAt.fX), .v (.int .i64 a0.fLabel.fAt.fY), .v (.string a0.fLabel.fName), .v (.int .i64 a0.fInstance.fCell), .v (.int .i64 a0.fInstance.fPlace.fOrientation), .v (.int .i64 a0.fInstance.fPlace.fX), .v (.int .i64 a0.fInstance.fPlace.fY), .v (.int .i64 a0.fInstance.fColumns), .v (.int .i64 a0.fInstance.fRows), .v (.int .i64 a0.fInstance.fStepX), .v (.int .i64 a0.fInstance.fStepY)]], o0 := [], r := .c (.v (.bool y1)), o1 := [], fl := true, σ := [], τ := [] }, hf_impl_IsValidEdit _ _ hy2, ⟨les_cons (AV.le_refl _) (les_nil), trivial, rfl, rfl, rfl, rfl, trivial, rfl⟩, ?_⟩
  cbv
  refine fork (fun b58 => ?_) (fun b58 => ?_)
  · replace h := of_br_t b58 h
    cbv
    injection h with h
    subst h
    refine ⟨(sparse 52 [(2, .c (.v (.string (ByteArray.mk #[]))))] []), ?_, ?_⟩
    · exact le_sparse rfl ⟨AV.le_refl _, trivial⟩ trivial rfl
    · exact ⟨AV.le_refl _, trivial, rfl⟩
  · replace h := of_br_f b58 h
    cbv
    replace h := of_let h
    obtain ⟨l3, hl3, h⟩ := h
    have e4 : 3 = LEN l3 := by subst hl3 hLEN; rfl
    refine ⟨_, congrArg (fun n => AV.c (AC.os 1024 0 n)) e4, _, row GD (encI .u8) l3, e4, ?_, ?_⟩
    · intro i hi j hj
      rw [← e4] at hi
      subst hl3
      subst hGD
      obtain rfl | rfl | rfl : i = 0 ∨ i = 1 ∨ i = 2 := by omega
      all_goals obtain rfl : j = 0 := by omega
      all_goals rfl
    cbv
    replace h := of_bind h
    obtain ⟨y5, hy6, h⟩ := h
    obtain ⟨S9, hS10⟩ : ∃ S, S = some (sparse 52 [(3, .c (.os 1536 0 (LEN y5)))] [(1536, .arr .rw [] (LEN y5) 1 (row GD (encI .u8) y5))]) := ⟨_, rfl⟩
    refine ⟨S9, ?_, ?_⟩
    · clear h
      have h := hy6
      clear hy6
      cbv
      refine fork (fun b57 => ?_) (fun b57 => ?_)
      · replace h := of_br_t b57 h
        cbv
        replace h := of_bind h
        obtain ⟨y12, hy13, h⟩ := h
        refine ⟨{ args := [.c (.os 5 0 (LEN l3)), .agg [.v (.int .i64 a0.fShape.fLayer), .v (.int .i64 a0.fShape.fBox.fX0), .v (.int .i64 a0.fShape.fBox.fY0), .v (.int .i64 a0.fShape.fBox.fX1), .v (.int .i64 a0.fShape.fBox.fY1)]], o0 := [(5, .arr .rw [] (LEN l3) 1 (row GD (encI .u8) l3))], r := .c (.os 64000 0 (LEN y12)), o1 := [(64000, .arr .rw [] (LEN y12) 1 (row GD (encI .u8) y12))], fl := true, σ := [(5, 1024)], τ := [(64000, 1536)] }, hf_impl_shapeBytes_mob _ _ _ hy13, ⟨les_cons (AV.le_refl _) (les_cons (AV.le_refl _) (les_nil)), ⟨⟨fun hw => hw, fun c hc => (by cases hc), .inl rfl, rfl, rfl, fun i hi j hj => rfl⟩, trivial⟩, rfl, rfl, rfl, rfl, ⟨fun h => absurd (show (64000 : Nat) % 2 = 1 from h) (by decide), trivial⟩, rfl⟩, _, rfl, _, _, rfl, fun _ _ _ _ => rfl, ?_⟩
        cbv
        injection h with h
        subst h
        subst hS10
        show St.le _ _
        exact le_sparse rfl ⟨AV.le_refl _, trivial⟩ ⟨⟨fun hw => hw, fun c hc => (by cases hc), .inl rfl, rfl, rfl, fun i hi j hj => rfl⟩, trivial⟩ rfl
      · replace h := of_br_f b57 h
        cbv
        replace h := of_bind h
        obtain ⟨y14, hy15, h⟩ := h
        obtain ⟨S18, hS19⟩ : ∃ S, S = some (sparse 52 [(3, .c (.os 1920 0 (LEN y14)))] [(1920, .arr .rw [] (LEN y14) 1 (row GD (encI .u8) y14))]) := ⟨_, rfl⟩
        refine ⟨S18, ?_, ?_⟩
        · clear h
          have h := hy15
          clear hy15
          cbv
          refine fork (fun b56 => ?_) (fun b56 => ?_)
          · replace h := of_br_t b56 h
            cbv
            replace h := of_bind h
            obtain ⟨y21, hy22, h⟩ := h
            refine ⟨{ args := [.c (.os 5 0 (LEN l3)), .agg [.v (.int .i64 a0.fLabel.fLayer), .v (.int .i64 a0.fLabel.fAt.fX), .v (.int .i64 a0.fLabel.fAt.fY), .v (.string a0.fLabel.fName)]], o0 := [(5, .arr .rw [] (LEN l3) 1 (row GD (encI .u8) l3))], r := .c (.os 64000 0 (LEN y21)), o1 := [(64000, .arr .rw [] (LEN y21) 1 (row GD (encI .u8) y21))], fl := true, σ := [(5, 1024)], τ := [(64000, 1920)] }, hf_impl_labelBytes_mob _ _ _ hy22, ⟨les_cons (AV.le_refl _) (les_cons (AV.le_refl _) (les_nil)), ⟨⟨fun hw => hw, fun c hc => (by cases hc), .inl rfl, rfl, rfl, fun i hi j hj => rfl⟩, trivial⟩, rfl, rfl, rfl, rfl, ⟨fun h => absurd (show (64000 : Nat) % 2 = 1 from h) (by decide), trivial⟩, rfl⟩, _, rfl, _, _, rfl, fun _ _ _ _ => rfl, ?_⟩
            cbv
            injection h with h
            subst h
            subst hS19
            show St.le _ _
            exact le_sparse rfl ⟨AV.le_refl _, trivial⟩ ⟨⟨fun hw => hw, fun c hc => (by cases hc), .inl rfl, rfl, rfl, fun i hi j hj => rfl⟩, trivial⟩ rfl
          · replace h := of_br_f b56 h
            cbv
            replace h := of_bind h
            obtain ⟨y23, hy24, h⟩ := h
            obtain ⟨S27, hS28⟩ : ∃ S, S = some (sparse 52 [(3, .c (.os 2688 0 (LEN y23)))] [(2688, .arr .rw [] (LEN y23) 1 (row GD (encI .u8) y23))]) := ⟨_, rfl⟩
            refine ⟨S27, ?_, ?_⟩
            · clear h
              have h := hy24
              clear hy24
              cbv
              refine fork (fun b55 => ?_) (fun b55 => ?_)
              · replace h := of_br_t b55 h
                cbv
                replace h := of_let h
                obtain ⟨l30, hl30, h⟩ := h
                have e31 : 1 = LEN l30 := by subst hl30 hLEN; rfl
                refine ⟨_, congrArg (fun n => AV.c (AC.os 2432 0 n)) e31, _, row GD (encI .u8) l30, e31, ?_, ?_⟩
                · intro i hi j hj
                  rw [← e31] at hi
                  subst hl30
                  subst hGD
                  obtain rfl : i = 0 := by omega
                  all_goals obtain rfl : j = 0 := by omega
                  all_goals rfl
                cbv
                replace h := of_req h
                obtain ⟨c34, h⟩ := h
                replace h := of_let h
                obtain ⟨l32, hl32, h⟩ := h
                have e33 : A.nadd (LEN l3) (LEN l30) = LEN l32 := by subst hl32 hLEN hA; simp [std, len]
                refine ⟨c34, _, congrArg (fun n => AV.c (AC.os 1024 0 n)) e33, _, row GD (encI .u8) l32, e33, ?_, ?_⟩
                · subst hGD hLEN hA
                  exact app_os (off := 0) (fun _ _ => rfl) hl32 (Nat.le_refl _)
                cbv
                replace h := of_bind h
                obtain ⟨y35, hy36, h⟩ := h
                refine ⟨{ args := [.c (.os 5 0 (LEN l32)), .agg [.v (.int .i64 a0.fInstance.fCell), .v (.int .i64 a0.fInstance.fPlace.fOrientation), .v (.int .i64 a0.fInstance.fPlace.fX), .v (.int .i64 a0.fInstance.fPlace.fY), .v (.int .i64 a0.fInstance.fColumns), .v (.int .i64 a0.fInstance.fRows), .v (.int .i64 a0.fInstance.fStepX), .v (.int .i64 a0.fInstance.fStepY)]], o0 := [(5, .arr .rw [] (LEN l32) 1 (row GD (encI .u8) l32))], r := .c (.os 64000 0 (LEN y35)), o1 := [(64000, .arr .rw [] (LEN y35) 1 (row GD (encI .u8) y35))], fl := true, σ := [(5, 1024)], τ := [(64000, 2688)] }, hf_impl_placeBytes_mob _ _ _ hy36, ⟨les_cons (AV.le_refl _) (les_cons (AV.le_refl _) (les_nil)), ⟨⟨fun hw => hw, fun c hc => (by cases hc), .inl rfl, rfl, rfl, fun i hi j hj => rfl⟩, trivial⟩, rfl, rfl, rfl, rfl, ⟨fun h => absurd (show (64000 : Nat) % 2 = 1 from h) (by decide), trivial⟩, rfl⟩, _, rfl, _, _, rfl, fun _ _ _ _ => rfl, ?_⟩
                cbv
                injection h with h
                subst h
                subst hS28
                show St.le _ _
                exact le_sparse rfl ⟨AV.le_refl _, trivial⟩ ⟨⟨fun hw => hw, fun c hc => (by cases hc), .inl rfl, rfl, rfl, fun i hi j hj => rfl⟩, trivial⟩ rfl
              · replace h := of_br_f b55 h
                cbv
                replace h := of_bind h
                obtain ⟨y37, hy38, h⟩ := h
                obtain ⟨S41, hS42⟩ : ∃ S, S = some (sparse 52 [(1, .c (.ptr 64 0)), (3, .c (.os 1024 0 (LEN l3))), (43, .c (.v (.bool y37)))] [(64, .var [.v (.int .i64 a0.fKind), .v (.int .i64 a0.fCell), .v (.int .i64 a0.fIndex), .v (.string a0.fName), .v (.int .i64 a0.fShape.fLayer), .v (.int .i64 a0.fShape.fBox.fX0), .v (.int .i64 a0.fShape.fBox.fY0), .v (.int .i64 a0.fShape.fBox.fX1), .v (.int .i64 a0.fShape.fBox.fY1), .v (.int .i64 a0.fLabel.fLayer), .v (.int .i64 a0.fLabel.fAt.fX), .v (.int .i64 a0.fLabel.fAt.fY), .v (.string a0.fLabel.fName), .v (.int .i64 a0.fInstance.fCell), .v (.int .i64 a0.fInstance.fPlace.fOrientation), .v (.int .i64 a0.fInstance.fPlace.fX), .v (.int .i64 a0.fInstance.fPlace.fY), .v (.int .i64 a0.fInstance.fColumns), .v (.int .i64 a0.fInstance.fRows), .v (.int .i64 a0.fInstance.fStepX), .v (.int .i64 a0.fInstance.fStepY)]), (1024, .arr .rw [] (LEN l3) 1 (row GD (encI .u8) l3))]) := ⟨_, rfl⟩
                refine ⟨S41, ?_, ?_⟩
                · clear h
                  have h := hy38
                  clear hy38
                  cbv
                  refine fork (fun b44 => ?_) (fun b44 => ?_)
                  · replace h := of_br_t b44 h
                    cbv
                    injection h with h
                    subst h
                    subst hS42
                    show St.le _ _
                    exact le_sparse rfl ⟨AV.le_refl _, AV.le_refl _, AV.le_refl _, trivial⟩ ⟨rfl, ⟨fun hw => hw, fun c hc => (by cases hc), .inl rfl, rfl, rfl, fun i hi j hj => rfl⟩, trivial⟩ rfl
                  · replace h := of_br_f b44 h
                    cbv
                    injection h with h
                    subst h
                    subst hS42
                    show St.le _ _
                    exact le_sparse rfl ⟨AV.le_refl _, AV.le_refl _, AV.le_refl _, trivial⟩ ⟨rfl, ⟨fun hw => hw, fun c hc => (by cases hc), .inl rfl, rfl, rfl, fun i hi j hj => rfl⟩, trivial⟩ rfl
                · clear hy38
                  subst hS42
                  replace h := of_let h
                  obtain ⟨w43, hw43, h⟩ := h
                  have hw43 : w43 = y37 := hw43
                  subst hw43
                  cbv
                  replace h := of_bind h
                  obtain ⟨y45, hy46, h⟩ := h
                  obtain ⟨S49, hS50⟩ : ∃ S, S = some (sparse 52 [(3, .c (.os 3136 0 (LEN y45)))] [(3136, .arr .rw [] (LEN y45) 1 (row GD (encI .u8) y45))]) := ⟨_, rfl⟩
                  refine ⟨S49, ?_, ?_⟩
                  · clear h
                    have h := hy46
                    clear hy46
                    cbv
                    refine fork (fun b54 => ?_) (fun b54 => ?_)
                    · replace h := of_br_t b54 h
                      cbv
                      replace h := of_bind h
                      obtain ⟨y52, hy53, h⟩ := h
                      refine ⟨{ args := [.c (.os 5 0 (LEN l3)), .c (.v (.string a0.fName))], o0 := [(5, .arr .rw [] (LEN l3) 1 (row GD (encI .u8) l3))], r := .c (.os 64000 0 (LEN y52)), o1 := [(64000, .arr .rw [] (LEN y52) 1 (row GD (encI .u8) y52))], fl := true, σ := [(5, 1024)], τ := [(64000, 3136)] }, hf_impl_nameBytes_mob _ _ _ hy53, ⟨les_cons (AV.le_refl _) (les_cons (AV.le_refl _) (les_nil)), ⟨⟨fun hw => hw, fun c hc => (by cases hc), .inl rfl, rfl, rfl, fun i hi j hj => rfl⟩, trivial⟩, rfl, rfl, rfl, rfl, ⟨fun h => absurd (show (64000 : Nat) % 2 = 1 from h) (by decide), trivial⟩, rfl⟩, _, rfl, _, _, rfl, fun _ _ _ _ => rfl, ?_⟩
                      cbv
                      injection h with h
                      subst h
                      subst hS50
                      show St.le _ _
                      exact le_sparse rfl ⟨AV.le_refl _, trivial⟩ ⟨⟨fun hw => hw, fun c hc => (by cases hc), .inl rfl, rfl, rfl, fun i hi j hj => rfl⟩, trivial⟩ rfl
                    · replace h := of_br_f b54 h
                      cbv
                      injection h with h
                      subst h
                      subst hS50
                      show St.le _ _
                      refine St.le_trans (le_ren 1024 3136 (by decide) rfl) ?_
                      exact le_sparse rfl ⟨AV.le_refl _, trivial⟩ ⟨⟨fun hw => hw, fun c hc => (by cases hc), .inl rfl, rfl, rfl, fun i hi j hj => rfl⟩, trivial⟩ rfl
                  · clear hy46
                    subst hS50
                    replace h := of_let h
                    obtain ⟨w51, hw51, h⟩ := h
                    have hw51 : w51 = y45 := hw51
                    subst hw51
                    cbv
                    injection h with h
                    subst h
                    subst hS28
                    show St.le _ _
                    refine St.le_trans (le_ren 3136 2688 (by decide) rfl) ?_
                    exact le_sparse rfl ⟨AV.le_refl _, trivial⟩ ⟨⟨fun hw => hw, fun c hc => (by cases hc), .inl rfl, rfl, rfl, fun i hi j hj => rfl⟩, trivial⟩ rfl
            · clear hy24
              subst hS28
              replace h := of_let h
              obtain ⟨w29, hw29, h⟩ := h
              have hw29 : w29 = y23 := hw29
              subst hw29
              cbv
              injection h with h
              subst h
              subst hS19
              show St.le _ _
              refine St.le_trans (le_ren 2688 1920 (by decide) rfl) ?_
              exact le_sparse rfl ⟨AV.le_refl _, trivial⟩ ⟨⟨fun hw => hw, fun c hc => (by cases hc), .inl rfl, rfl, rfl, fun i hi j hj => rfl⟩, trivial⟩ rfl
        · clear hy15
          subst hS19
          replace h := of_let h
          obtain ⟨w20, hw20, h⟩ := h
          have hw20 : w20 = y14 := hw20
          subst hw20
          cbv
          injection h with h
          subst h
          subst hS10
          show St.le _ _
          refine St.le_trans (le_ren 1920 1536 (by decide) rfl) ?_
          exact le_sparse rfl ⟨AV.le_refl _, trivial⟩ ⟨⟨fun hw => hw, fun c hc => (by cases hc), .inl rfl, rfl, rfl, fun i hi j hj => rfl⟩, trivial⟩ rfl
    · clear hy6
      subst hS10
      replace h := of_let h
      obtain ⟨w11, hw11, h⟩ := h
      have hw11 : w11 = y5 := hw11
      subst hw11
      cbv
      refine ⟨fun _ _ => rfl, ?_⟩
      injection h with h
      subst h
      refine ⟨(sparse 52 [(2, .c (.v (.string (A.ofBytes (LEN w11) (fun i => GD w11 (0 + i))))))] []), ?_, ?_⟩
      · exact le_sparse rfl ⟨AV.le_refl _, trivial⟩ trivial rfl
      · exact ⟨AV.le_refl _, trivial, rfl⟩

noncomputable def L_impl_Checksum16_x3 (a0 : ByteArray) : (Int × Int) → Option ((Int × Int) ⊕ ((Int))) := fun x3 =>
  letO x3.1 fun v1 =>
  letO x3.2 fun v2 =>
  br (std.lt v2 (std.ofN (std.slen a0)))
  (req (std.inR v2 (std.slen a0)) <|
  req (std.nz 65521) <|
  some (.inl (std.rem (std.add .i64 (std.add .i64 (std.mul .i64 31 v1) (std.conv .i64 (std.sat a0 (std.toN v2)))) 1) 65521, std.add .i64 v2 1)))
  (some (.inr v1))
/-- impl.Checksum16 -/
noncomputable def F_impl_Checksum16 (a0 : ByteArray) : Option (Int) :=
  (whileP (σ := Int × Int) (ρ := (Int)) (L_impl_Checksum16_x3 a0) (1, 0)).bind fun y4 =>
  letO y4 fun y4k0 =>
  letO y4k0 fun w18 =>
  some w18
theorem run_impl_Checksum16 (a0 : ByteArray) (r : Int) (h : F_impl_Checksum16 a0 = some r) : Fun Try.prog 87 [.c (.v (.string a0))] [] (.c (.v (.int .i64 r))) [] true := by
  refine Fun.of_wp (oneOf []) tok mixed Try.func87 (by kernel_rfl) rfl Try.ntmps87 rfl trivial (fun _ => ⟨trivial, trivial⟩) ?_
  unfold F_impl_Checksum16 at h
  unfold L_impl_Checksum16_x3 at h
  generalize hLEN : @len = LEN at *
  generalize hGD : @gd = GD at *
  generalize hA : std = A at *
  generalize hP : Try.prog = P at *
  cbv
  replace h := of_bind h
  obtain ⟨y4, hr5, hN6⟩ := h
  refine loop_cut hr5 (fun x => (sparse 21 [(0, .c (.v (.string a0))), (3, .c (.v (.int .i64 x.1))), (4, .c (.v (.int .i64 x.2)))] [])) ?_ (fun y e s => (fun (w : Int) => e = .exit 0 ∧ s.le (sparse 21 [(3, .c (.v (.int .i64 w)))] [])) y) ?_ ?_
  · clear hr5 hN6
    show St.le _ _
    exact le_sparse rfl ⟨AV.le_refl _, AV.le_refl _, AV.le_refl _, trivial⟩ trivial rfl
  · clear hr5 hN6
    intro x z10 h K8 hK9 hY7
    obtain ⟨x0_, x1_⟩ := x
    replace h := of_let h
    obtain ⟨v1, hv1, h⟩ := h
    have hv1 : v1 = x0_ := hv1
    subst hv1
    replace h := of_let h
    obtain ⟨v2, hv2, h⟩ := h
    have hv2 : v2 = x1_ := hv2
    subst hv2
    cbv
    refine fork (fun b17 => ?_) (fun b17 => ?_)
    · replace h := of_br_t b17 h
      cbv
      replace h := of_req h
      obtain ⟨c15, h⟩ := h
      refine ⟨c15, ?_⟩
      replace h := of_req h
      obtain ⟨c16, h⟩ := h
      refine ⟨c16, ?_⟩
      injection h with h
      refine hK9 _ h.symm _ ?_
      exact le_sparse rfl ⟨AV.le_refl _, AV.le_refl _, AV.le_refl _, trivial⟩ trivial rfl
    · replace h := of_br_f b17 h
      cbv
      injection h with h
      refine hY7 _ h.symm _ _ (And.intro rfl ?_) (by intro hh; cases hh)
      exact le_sparse rfl ⟨AV.le_refl _, trivial⟩ trivial rfl
  · clear hr5
    have h := hN6
    clear hN6
    intro e13 s14 q12 hne
    replace h := of_let h
    obtain ⟨y4k0, hyk, h⟩ := h
    have hyk : y4k0 = y4 := hyk
    subst hyk
    obtain ⟨rfl, q12⟩ := q12
    replace h := of_let h
    obtain ⟨w18, hw18, h⟩ := h
    have hw18 : w18 = y4k0 := hw18
    subst hw18
    cbv
    refine ⟨_, q12, ?_⟩
    cbv
    injection h with h
    subst h
    refine ⟨(sparse 21 [(2, .c (.v (.int .i64 w18)))] []), ?_, ?_⟩
    · exact le_sparse rfl ⟨AV.le_refl _, trivial⟩ trivial rfl
    · exact ⟨AV.le_refl _, trivial, rfl⟩

noncomputable def L_impl_JournalRecord_x5 (a0 : List TEdit) : (ByteArray × Int) → Option ((ByteArray × Int) ⊕ ((ByteArray))) := fun x5 =>
  letO x5.1 fun v3 =>
  letO x5.2 fun v4 =>
  br (std.lt v4 (std.ofN (len a0)))
  (req (std.inR v4 (len a0)) <|
  (F_impl_EditBytes (gd a0 (std.toN v4))).bind fun y18 =>
  req (std.room (std.nadd (std.slen v3) (std.slen y18)) 1) <|
  some (.inl (std.scat v3 y18, std.add .i64 v4 1)))
  (some (.inr v3))
/-- impl.JournalRecord -/
noncomputable def F_impl_JournalRecord (a0 : List TEdit) : Option (ByteArray) :=
  (F_impl_isTransaction a0).bind fun y1 =>
  br (!(y1))
  (some (ByteArray.mk #[]))
  ((whileP (σ := ByteArray × Int) (ρ := (ByteArray)) (L_impl_JournalRecord_x5 a0) ((ByteArray.mk #[]), 0)).bind fun y6 =>
  letO y6 fun y6k0 =>
  letO y6k0 fun w22 =>
  letO ([84, std.conv .u8 (std.ofN (len a0))] : List Int) fun l23 =>
  (F_impl_two_mob l23 (std.ofN (std.slen w22))).bind fun y25 =>
  req (std.room (std.nadd (len y25) (std.slen w22)) 1) <|
  letO (y25 ++ strL w22) fun l27 =>
  (F_impl_Checksum16 (std.ofBytes (len l27) (fun i => gd l27 (0 + i)))).bind fun y30 =>
  (F_impl_two_mob l27 y30).bind fun y32 =>
  some (std.ofBytes (len y32) (fun i => gd y32 (0 + i))))
theorem run_impl_JournalRecord (a0 : List TEdit) (r : ByteArray) (h : F_impl_JournalRecord a0 = some r) : Fun Try.prog 32 [.c (.bs (len a0) 21 (row gd (encEdit) a0))] [] (.c (.v (.string r))) [] true := by
  refine Fun.of_wp (oneOf []) tok mixed Try.func32 (by kernel_rfl) rfl Try.ntmps32 rfl trivial (fun _ => ⟨trivial, trivial⟩) ?_
  unfold F_impl_JournalRecord at h
  unfold L_impl_JournalRecord_x5 at h
  have hf_impl_Checksum16 := @run_impl_Checksum16
  have hf_impl_EditBytes := @run_impl_EditBytes
  have hf_impl_isTransaction := @run_impl_isTransaction
  have hf_impl_two_mob := @run_impl_two_mob
  generalize hLEN : @len = LEN at *
  generalize hGD : @gd = GD at *
  generalize hA : std = A at *
  generalize hP : Try.prog = P at *
  cbv
  replace h := of_bind h
  obtain ⟨y1, hy2, h⟩ := h
  refine ⟨{ args := [.c (.bs (LEN a0) 21 (row GD (encEdit) a0))], o0 := [], r := .c (.v (.bool y1)), o1 := [], fl := true, σ := [], τ := [] }, hf_impl_isTransaction _ _ hy2, ⟨les_cons (AV.le_refl _) (les_nil), trivial, rfl, rfl, rfl, rfl, trivial, rfl⟩, ?_⟩
  cbv
  refine fork (fun b34 => ?_) (fun b34 => ?_)
  · replace h := of_br_t b34 h
    cbv
    injection h with h
    subst h
    refine ⟨(sparse 37 [(2, .c (.v (.string (ByteArray.mk #[]))))] []), ?_, ?_⟩
    · exact le_sparse rfl ⟨AV.le_refl _, trivial⟩ trivial rfl
    · exact ⟨AV.le_refl _, trivial, rfl⟩
  · replace h := of_br_f b34 h
    cbv
    replace h := of_bind h
    obtain ⟨y6, hr7, hN8⟩ := h
    refine loop_cut hr7 (fun x => (sparse 37 [(0, .c (.bs (LEN a0) 21 (row GD (encEdit) a0))), (3, .c (.v (.string x.1))), (10, .c (.bs (LEN a0) 21 (row GD (encEdit) a0))), (11, .c (.v (.int .i64 (A.ofN (LEN a0))))), (12, .c (.v (.int .i64 x.2)))] [])) ?_ (fun y e s => (fun (w : ByteArray) => e = .exit 0 ∧ s.le (sparse 37 [(0, .c (.bs (LEN a0) 21 (row GD (encEdit) a0))), (3, .c (.v (.string w)))] [])) y) ?_ ?_
    · clear hr7 hN8
      show St.le _ _
      exact le_sparse rfl ⟨AV.le_refl _, AV.le_refl _, AV.le_refl _, AV.le_refl _, AV.le_refl _, trivial⟩ trivial rfl
    · clear hr7 hN8
      intro x z12 h K10 hK11 hY9
      obtain ⟨x0_, x1_⟩ := x
      replace h := of_let h
      obtain ⟨v3, hv3, h⟩ := h
      have hv3 : v3 = x0_ := hv3
      subst hv3
      replace h := of_let h
      obtain ⟨v4, hv4, h⟩ := h
      have hv4 : v4 = x1_ := hv4
      subst hv4
      cbv
      refine fork (fun b21 => ?_) (fun b21 => ?_)
      · replace h := of_br_t b21 h
        cbv
        replace h := of_req h
        obtain ⟨c17, h⟩ := h
        refine ⟨⟨c17, trivial⟩, ?_⟩
        replace h := of_bind h
        obtain ⟨y18, hy19, h⟩ := h
        refine ⟨{ args := [.agg [.v (.int .i64 (GD a0 (A.toN v4)).fKind), .v (.int .i64 (GD a0 (A.toN v4)).fCell), .v (.int .i64 (GD a0 (A.toN v4)).fIndex), .v (.string (GD a0 (A.toN v4)).fName), .v (.int .i64 (GD a0 (A.toN v4)).fShape.fLayer), .v (.int .i64 (GD a0 (A.toN v4)).fShape.fBox.fX0), .v (.int .i64 (GD a0 (A.toN v4)).fShape.fBox.fY0), .v (.int .i64 (GD a0 (A.toN v4)).fShape.fBox.fX1), .v (.int .i64 (GD a0 (A.toN v4)).fShape.fBox.fY1), .v (.int .i64 (GD a0 (A.toN v4)).fLabel.fLayer), .v (.int .i64 (GD a0 (A.toN v4)).fLabel.fAt.fX), .v (.int .i64 (GD a0 (A.toN v4)).fLabel.fAt.fY), .v (.string (GD a0 (A.toN v4)).fLabel.fName), .v (.int .i64 (GD a0 (A.toN v4)).fInstance.fCell), .v (.int .i64 (GD a0 (A.toN v4)).fInstance.fPlace.fOrientation), .v (.int .i64 (GD a0 (A.toN v4)).fInstance.fPlace.fX), .v (.int .i64 (GD a0 (A.toN v4)).fInstance.fPlace.fY), .v (.int .i64 (GD a0 (A.toN v4)).fInstance.fColumns), .v (.int .i64 (GD a0 (A.toN v4)).fInstance.fRows), .v (.int .i64 (GD a0 (A.toN v4)).fInstance.fStepX), .v (.int .i64 (GD a0 (A.toN v4)).fInstance.fStepY)]], o0 := [], r := .c (.v (.string y18)), o1 := [], fl := true, σ := [], τ := [] }, hf_impl_EditBytes _ _ hy19, ⟨les_cons (AV.le_refl _) (les_nil), trivial, rfl, rfl, rfl, rfl, trivial, rfl⟩, ?_⟩
        cbv
        replace h := of_req h
        obtain ⟨c20, h⟩ := h
        refine ⟨c20, ?_⟩
        injection h with h
        refine hK11 _ h.symm _ ?_
        exact le_sparse rfl ⟨AV.le_refl _, AV.le_refl _, AV.le_refl _, AV.le_refl _, AV.le_refl _, trivial⟩ trivial rfl
      · replace h := of_br_f b21 h
        cbv
        injection h with h
        refine hY9 _ h.symm _ _ (And.intro rfl ?_) (by intro hh; cases hh)
        exact le_sparse rfl ⟨AV.le_refl _, AV.le_refl _, trivial⟩ trivial rfl
    · clear hr7
      have h := hN8
      clear hN8
      intro e15 s16 q14 hne
      replace h := of_let h
      obtain ⟨y6k0, hyk, h⟩ := h
      have hyk : y6k0 = y6 := hyk
      subst hyk
      obtain ⟨rfl, q14⟩ := q14
      replace h := of_let h
      obtain ⟨w22, hw22, h⟩ := h
      have hw22 : w22 = y6k0 := hw22
      subst hw22
      cbv
      refine ⟨_, q14, ?_⟩
      cbv
      replace h := of_let h
      obtain ⟨l23, hl23, h⟩ := h
      have e24 : 2 = LEN l23 := by subst hl23 hLEN; rfl
      refine ⟨_, congrArg (fun n => AV.c (AC.os 1536 0 n)) e24, _, row GD (encI .u8) l23, e24, ?_, ?_⟩
      · intro i hi j hj
        rw [← e24] at hi
        subst hl23
        subst hGD
        obtain rfl | rfl : i = 0 ∨ i = 1 := by omega
        all_goals obtain rfl : j = 0 := by omega
        all_goals rfl
      cbv
      replace h := of_bind h
      obtain ⟨y25, hy26, h⟩ := h
      refine ⟨{ args := [.c (.os 5 0 (LEN l23)), .c (.v (.int .i64 (A.ofN (A.slen w22))))], o0 := [(5, .arr .rw [] (LEN l23) 1 (row GD (encI .u8) l23))], r := .c (.os 64000 0 (LEN y25)), o1 := [(64000, .arr .rw [] (LEN y25) 1 (row GD (encI .u8) y25))], fl := true, σ := [(5, 1536)], τ := [(64000, 1728)] }, hf_impl_two_mob _ _ _ hy26, ⟨les_cons (AV.le_refl _) (les_cons (AV.le_refl _) (les_nil)), ⟨⟨fun hw => hw, fun c hc => (by cases hc), .inl rfl, rfl, rfl, fun i hi j hj => rfl⟩, trivial⟩, rfl, rfl, rfl, rfl, ⟨fun h => absurd (show (64000 : Nat) % 2 = 1 from h) (by decide), trivial⟩, rfl⟩, _, rfl, _, _, rfl, fun _ _ _ _ => rfl, ?_⟩
      cbv
      replace h := of_req h
      obtain ⟨c29, h⟩ := h
      replace h := of_let h
      obtain ⟨l27, hl27, h⟩ := h
      have e28 : A.nadd (LEN y25) (A.slen w22) = LEN l27 := by subst hl27 hLEN hA; exact (strapp_len _ _).symm
      refine ⟨c29, _, congrArg (fun n => AV.c (AC.os 1728 0 n)) e28, _, row GD (encI .u8) l27, e28, ?_, ?_⟩
      · subst hGD hLEN hA
        exact app_str hl27 (Nat.le_refl _)
      cbv
      refine ⟨fun _ _ => rfl, ?_⟩
      replace h := of_bind h
      obtain ⟨y30, hy31, h⟩ := h
      refine ⟨{ args := [.c (.v (.string (A.ofBytes (LEN l27) (fun i => GD l27 (0 + i)))))], o0 := [], r := .c (.v (.int .i64 y30)), o1 := [], fl := true, σ := [], τ := [] }, hf_impl_Checksum16 _ _ hy31, ⟨les_cons (AV.le_refl _) (les_nil), trivial, rfl, rfl, rfl, rfl, trivial, rfl⟩, ?_⟩
      cbv
      replace h := of_bind h
      obtain ⟨y32, hy33, h⟩ := h
      refine ⟨{ args := [.c (.os 5 0 (LEN l27)), .c (.v (.int .i64 y30))], o0 := [(5, .arr .rw [] (LEN l27) 1 (row GD (encI .u8) l27))], r := .c (.os 64000 0 (LEN y32)), o1 := [(64000, .arr .rw [] (LEN y32) 1 (row GD (encI .u8) y32))], fl := true, σ := [(5, 1728)], τ := [(64000, 2240)] }, hf_impl_two_mob _ _ _ hy33, ⟨les_cons (AV.le_refl _) (les_cons (AV.le_refl _) (les_nil)), ⟨⟨fun hw => hw, fun c hc => (by cases hc), .inl rfl, rfl, rfl, fun i hi j hj => rfl⟩, trivial⟩, rfl, rfl, rfl, rfl, ⟨fun h => absurd (show (64000 : Nat) % 2 = 1 from h) (by decide), trivial⟩, rfl⟩, _, rfl, _, _, rfl, fun _ _ _ _ => rfl, ?_⟩
      cbv
      refine ⟨fun _ _ => rfl, ?_⟩
      injection h with h
      subst h
      refine ⟨(sparse 37 [(2, .c (.v (.string (A.ofBytes (LEN y32) (fun i => GD y32 (0 + i))))))] []), ?_, ?_⟩
      · exact le_sparse rfl ⟨AV.le_refl _, trivial⟩ trivial rfl
      · exact ⟨AV.le_refl _, trivial, rfl⟩

/-- laws.eqRect -/
noncomputable def F_laws_eqRect (a0 : TRect) (a1 : TRect) : Option (Bool) :=
  br (std.not (std.eq a0.fX0 a1.fX0))
  (some false)
  (br (std.not (std.eq a0.fY0 a1.fY0))
  (some false)
  (br (std.not (std.eq a0.fX1 a1.fX1))
  (some false)
  (br (std.not (std.eq a0.fY1 a1.fY1))
  (some false)
  (some true))))
theorem run_laws_eqRect (a0 : TRect) (a1 : TRect) (r : Bool) (h : F_laws_eqRect a0 a1 = some r) : Fun Try.prog 198 [.agg [.v (.int .i64 a0.fX0), .v (.int .i64 a0.fY0), .v (.int .i64 a0.fX1), .v (.int .i64 a0.fY1)], .agg [.v (.int .i64 a1.fX0), .v (.int .i64 a1.fY0), .v (.int .i64 a1.fX1), .v (.int .i64 a1.fY1)]] [] (.c (.v (.bool r))) [] true := by
  refine Fun.of_wp (oneOf []) tok mixed Try.func198 (by kernel_rfl) rfl Try.ntmps198 rfl trivial (fun _ => ⟨trivial, trivial⟩) ?_
  unfold F_laws_eqRect at h
  generalize hLEN : @len = LEN at *
  generalize hGD : @gd = GD at *
  generalize hA : std = A at *
  generalize hP : Try.prog = P at *
  cbv
  refine fork (fun b4 => ?_) (fun b4 => ?_)
  · replace h := of_br_t b4 h
    cbv
    injection h with h
    subst h
    refine ⟨(sparse 25 [(4, .c (.v (.bool false)))] []), ?_, ?_⟩
    · exact le_sparse rfl ⟨AV.le_refl _, trivial⟩ trivial rfl
    · exact ⟨AV.le_refl _, trivial, rfl⟩
  · replace h := of_br_f b4 h
    cbv
    refine fork (fun b3 => ?_) (fun b3 => ?_)
    · replace h := of_br_t b3 h
      cbv
      injection h with h
      subst h
      refine ⟨(sparse 25 [(4, .c (.v (.bool false)))] []), ?_, ?_⟩
      · exact le_sparse rfl ⟨AV.le_refl _, trivial⟩ trivial rfl
      · exact ⟨AV.le_refl _, trivial, rfl⟩
    · replace h := of_br_f b3 h
      cbv
      refine fork (fun b2 => ?_) (fun b2 => ?_)
      · replace h := of_br_t b2 h
        cbv
        injection h with h
        subst h
        refine ⟨(sparse 25 [(4, .c (.v (.bool false)))] []), ?_, ?_⟩
        · exact le_sparse rfl ⟨AV.le_refl _, trivial⟩ trivial rfl
        · exact ⟨AV.le_refl _, trivial, rfl⟩
      · replace h := of_br_f b2 h
        cbv
        refine fork (fun b1 => ?_) (fun b1 => ?_)
        · replace h := of_br_t b1 h
          cbv
          injection h with h
          subst h
          refine ⟨(sparse 25 [(4, .c (.v (.bool false)))] []), ?_, ?_⟩
          · exact le_sparse rfl ⟨AV.le_refl _, trivial⟩ trivial rfl
          · exact ⟨AV.le_refl _, trivial, rfl⟩
        · replace h := of_br_f b1 h
          cbv
          injection h with h
          subst h
          refine ⟨(sparse 25 [(4, .c (.v (.bool true)))] []), ?_, ?_⟩
          · exact le_sparse rfl ⟨AV.le_refl _, trivial⟩ trivial rfl
          · exact ⟨AV.le_refl _, trivial, rfl⟩

/-- laws.eqShape -/
noncomputable def F_laws_eqShape (a0 : TShape) (a1 : TShape) : Option (Bool) :=
  br (std.not (std.eq a0.fLayer a1.fLayer))
  (some false)
  ((F_laws_eqRect a0.fBox a1.fBox).bind fun y1 =>
  br (!(y1))
  (some false)
  (some true))
theorem run_laws_eqShape (a0 : TShape) (a1 : TShape) (r : Bool) (h : F_laws_eqShape a0 a1 = some r) : Fun Try.prog 156 [.agg [.v (.int .i64 a0.fLayer), .v (.int .i64 a0.fBox.fX0), .v (.int .i64 a0.fBox.fY0), .v (.int .i64 a0.fBox.fX1), .v (.int .i64 a0.fBox.fY1)], .agg [.v (.int .i64 a1.fLayer), .v (.int .i64 a1.fBox.fX0), .v (.int .i64 a1.fBox.fY0), .v (.int .i64 a1.fBox.fX1), .v (.int .i64 a1.fBox.fY1)]] [] (.c (.v (.bool r))) [] true := by
  refine Fun.of_wp (oneOf []) tok mixed Try.func156 (by kernel_rfl) rfl Try.ntmps156 rfl trivial (fun _ => ⟨trivial, trivial⟩) ?_
  unfold F_laws_eqShape at h
  have hf_laws_eqRect := @run_laws_eqRect
  generalize hLEN : @len = LEN at *
  generalize hGD : @gd = GD at *
  generalize hA : std = A at *
  generalize hP : Try.prog = P at *
  cbv
  refine fork (fun b4 => ?_) (fun b4 => ?_)
  · replace h := of_br_t b4 h
    cbv
    injection h with h
    subst h
    refine ⟨(sparse 16 [(4, .c (.v (.bool false)))] []), ?_, ?_⟩
    · exact le_sparse rfl ⟨AV.le_refl _, trivial⟩ trivial rfl
    · exact ⟨AV.le_refl _, trivial, rfl⟩
  · replace h := of_br_f b4 h
    cbv
    replace h := of_bind h
    obtain ⟨y1, hy2, h⟩ := h
    refine ⟨{ args := [.agg [.v (.int .i64 a0.fBox.fX0), .v (.int .i64 a0.fBox.fY0), .v (.int .i64 a0.fBox.fX1), .v (.int .i64 a0.fBox.fY1)], .agg [.v (.int .i64 a1.fBox.fX0), .v (.int .i64 a1.fBox.fY0), .v (.int .i64 a1.fBox.fX1), .v (.int .i64 a1.fBox.fY1)]], o0 := [], r := .c (.v (.bool y1)), o1 := [], fl := true, σ := [], τ := [] }, hf_laws_eqRect _ _ _ hy2, ⟨les_cons (AV.le_refl _) (les_cons (AV.le_refl _) (les_nil)), trivial, rfl, rfl, rfl, rfl, trivial, rfl⟩, ?_⟩
    cbv
    refine fork (fun b3 => ?_) (fun b3 => ?_)
    · replace h := of_br_t b3 h
      cbv
      injection h with h
      subst h
      refine ⟨(sparse 16 [(4, .c (.v (.bool false)))] []), ?_, ?_⟩
      · exact le_sparse rfl ⟨AV.le_refl _, trivial⟩ trivial rfl
      · exact ⟨AV.le_refl _, trivial, rfl⟩
    · replace h := of_br_f b3 h
      cbv
      injection h with h
      subst h
      refine ⟨(sparse 16 [(4, .c (.v (.bool true)))] []), ?_, ?_⟩
      · exact le_sparse rfl ⟨AV.le_refl _, trivial⟩ trivial rfl
      · exact ⟨AV.le_refl _, trivial, rfl⟩

/-- laws.eqPoint -/
noncomputable def F_laws_eqPoint (a0 : TPoint) (a1 : TPoint) : Option (Bool) :=
  br (std.not (std.eq a0.fX a1.fX))
  (some false)
  (br (std.not (std.eq a0.fY a1.fY))
  (some false)
  (some true))
theorem run_laws_eqPoint (a0 : TPoint) (a1 : TPoint) (r : Bool) (h : F_laws_eqPoint a0 a1 = some r) : Fun Try.prog 199 [.agg [.v (.int .i64 a0.fX), .v (.int .i64 a0.fY)], .agg [.v (.int .i64 a1.fX), .v (.int .i64 a1.fY)]] [] (.c (.v (.bool r))) [] true := by
  refine Fun.of_wp (oneOf []) tok mixed Try.func199 (by kernel_rfl) rfl Try.ntmps199 rfl trivial (fun _ => ⟨trivial, trivial⟩) ?_
  unfold F_laws_eqPoint at h
  generalize hLEN : @len = LEN at *
  generalize hGD : @gd = GD at *
  generalize hA : std = A at *
  generalize hP : Try.prog = P at *
  cbv
  refine fork (fun b2 => ?_) (fun b2 => ?_)
  · replace h := of_br_t b2 h
    cbv
    injection h with h
    subst h
    refine ⟨(sparse 15 [(4, .c (.v (.bool false)))] []), ?_, ?_⟩
    · exact le_sparse rfl ⟨AV.le_refl _, trivial⟩ trivial rfl
    · exact ⟨AV.le_refl _, trivial, rfl⟩
  · replace h := of_br_f b2 h
    cbv
    refine fork (fun b1 => ?_) (fun b1 => ?_)
    · replace h := of_br_t b1 h
      cbv
      injection h with h
      subst h
      refine ⟨(sparse 15 [(4, .c (.v (.bool false)))] []), ?_, ?_⟩
      · exact le_sparse rfl ⟨AV.le_refl _, trivial⟩ trivial rfl
      · exact ⟨AV.le_refl _, trivial, rfl⟩
    · replace h := of_br_f b1 h
      cbv
      injection h with h
      subst h
      refine ⟨(sparse 15 [(4, .c (.v (.bool true)))] []), ?_, ?_⟩
      · exact le_sparse rfl ⟨AV.le_refl _, trivial⟩ trivial rfl
      · exact ⟨AV.le_refl _, trivial, rfl⟩
/-- laws.eqLabel -/
noncomputable def F_laws_eqLabel (a0 : TLabel) (a1 : TLabel) : Option (Bool) :=
  br (std.not (std.eq a0.fLayer a1.fLayer))
  (some false)
  ((F_laws_eqPoint a0.fAt a1.fAt).bind fun y1 =>
  br (!(y1))
  (some false)
  (br (std.not (std.seq a0.fName a1.fName))
  (some false)
  (some true)))
theorem run_laws_eqLabel (a0 : TLabel) (a1 : TLabel) (r : Bool) (h : F_laws_eqLabel a0 a1 = some r) : Fun Try.prog 157 [.agg [.v (.int .i64 a0.fLayer), .v (.int .i64 a0.fAt.fX), .v (.int .i64 a0.fAt.fY), .v (.string a0.fName)], .agg [.v (.int .i64 a1.fLayer), .v (.int .i64 a1.fAt.fX), .v (.int .i64 a1.fAt.fY), .v (.string a1.fName)]] [] (.c (.v (.bool r))) [] true := by
  refine Fun.of_wp (oneOf []) tok mixed Try.func157 (by kernel_rfl) rfl Try.ntmps157 rfl trivial (fun _ => ⟨trivial, trivial⟩) ?_
  unfold F_laws_eqLabel at h
  have hf_laws_eqPoint := @run_laws_eqPoint
  generalize hLEN : @len = LEN at *
  generalize hGD : @gd = GD at *
  generalize hA : std = A at *
  generalize hP : Try.prog = P at *
  cbv
  refine fork (fun b5 => ?_) (fun b5 => ?_)
  · replace h := of_br_t b5 h
    cbv
    injection h with h
    subst h
    refine ⟨(sparse 21 [(4, .c (.v (.bool false)))] []), ?_, ?_⟩
    · exact le_sparse rfl ⟨AV.le_refl _, trivial⟩ trivial rfl
    · exact ⟨AV.le_refl _, trivial, rfl⟩
  · replace h := of_br_f b5 h
    cbv
    replace h := of_bind h
    obtain ⟨y1, hy2, h⟩ := h
    refine ⟨{ args := [.agg [.v (.int .i64 a0.fAt.fX), .v (.int .i64 a0.fAt.fY)], .agg [.v (.int .i64 a1.fAt.fX), .v (.int .i64 a1.fAt.fY)]], o0 := [], r := .c (.v (.bool y1)), o1 := [], fl := true, σ := [], τ := [] }, hf_laws_eqPoint _ _ _ hy2, ⟨les_cons (AV.le_refl _) (les_cons (AV.le_refl _) (les_nil)), trivial, rfl, rfl, rfl, rfl, trivial, rfl⟩, ?_⟩
    cbv
    refine fork (fun b4 => ?_) (fun b4 => ?_)
    · replace h := of_br_t b4 h
      cbv
      injection h with h
      subst h
      refine ⟨(sparse 21 [(4, .c (.v (.bool false)))] []), ?_, ?_⟩
      · exact le_sparse rfl ⟨AV.le_refl _, trivial⟩ trivial rfl
      · exact ⟨AV.le_refl _, trivial, rfl⟩
    · replace h := of_br_f b4 h
      cbv
      refine fork (fun b3 => ?_) (fun b3 => ?_)
      · replace h := of_br_t b3 h
        cbv
        injection h with h
        subst h
        refine ⟨(sparse 21 [(4, .c (.v (.bool false)))] []), ?_, ?_⟩
        · exact le_sparse rfl ⟨AV.le_refl _, trivial⟩ trivial rfl
        · exact ⟨AV.le_refl _, trivial, rfl⟩
      · replace h := of_br_f b3 h
        cbv
        injection h with h
        subst h
        refine ⟨(sparse 21 [(4, .c (.v (.bool true)))] []), ?_, ?_⟩
        · exact le_sparse rfl ⟨AV.le_refl _, trivial⟩ trivial rfl
        · exact ⟨AV.le_refl _, trivial, rfl⟩

/-- laws.eqTransform -/
noncomputable def F_laws_eqTransform (a0 : TTransform) (a1 : TTransform) : Option (Bool) :=
  br (std.not (std.eq a0.fOrientation a1.fOrientation))
  (some false)
  (br (std.not (std.eq a0.fX a1.fX))
  (some false)
  (br (std.not (std.eq a0.fY a1.fY))
  (some false)
  (some true)))
theorem run_laws_eqTransform (a0 : TTransform) (a1 : TTransform) (r : Bool) (h : F_laws_eqTransform a0 a1 = some r) : Fun Try.prog 200 [.agg [.v (.int .i64 a0.fOrientation), .v (.int .i64 a0.fX), .v (.int .i64 a0.fY)], .agg [.v (.int .i64 a1.fOrientation), .v (.int .i64 a1.fX), .v (.int .i64 a1.fY)]] [] (.c (.v (.bool r))) [] true := by
  refine Fun.of_wp (oneOf []) tok mixed Try.func200 (by kernel_rfl) rfl Try.ntmps200 rfl trivial (fun _ => ⟨trivial, trivial⟩) ?_
  unfold F_laws_eqTransform at h
  generalize hLEN : @len = LEN at *
  generalize hGD : @gd = GD at *
  generalize hA : std = A at *
  generalize hP : Try.prog = P at *
  cbv
  refine fork (fun b3 => ?_) (fun b3 => ?_)
  · replace h := of_br_t b3 h
    cbv
    injection h with h
    subst h
    refine ⟨(sparse 20 [(4, .c (.v (.bool false)))] []), ?_, ?_⟩
    · exact le_sparse rfl ⟨AV.le_refl _, trivial⟩ trivial rfl
    · exact ⟨AV.le_refl _, trivial, rfl⟩
  · replace h := of_br_f b3 h
    cbv
    refine fork (fun b2 => ?_) (fun b2 => ?_)
    · replace h := of_br_t b2 h
      cbv
      injection h with h
      subst h
      refine ⟨(sparse 20 [(4, .c (.v (.bool false)))] []), ?_, ?_⟩
      · exact le_sparse rfl ⟨AV.le_refl _, trivial⟩ trivial rfl
      · exact ⟨AV.le_refl _, trivial, rfl⟩
    · replace h := of_br_f b2 h
      cbv
      refine fork (fun b1 => ?_) (fun b1 => ?_)
      · replace h := of_br_t b1 h
        cbv
        injection h with h
        subst h
        refine ⟨(sparse 20 [(4, .c (.v (.bool false)))] []), ?_, ?_⟩
        · exact le_sparse rfl ⟨AV.le_refl _, trivial⟩ trivial rfl
        · exact ⟨AV.le_refl _, trivial, rfl⟩
      · replace h := of_br_f b1 h
        cbv
        injection h with h
        subst h
        refine ⟨(sparse 20 [(4, .c (.v (.bool true)))] []), ?_, ?_⟩
        · exact le_sparse rfl ⟨AV.le_refl _, trivial⟩ trivial rfl
        · exact ⟨AV.le_refl _, trivial, rfl⟩

/-- laws.eqInstance -/
noncomputable def F_laws_eqInstance (a0 : TInstance) (a1 : TInstance) : Option (Bool) :=
  br (std.not (std.eq a0.fCell a1.fCell))
  (some false)
  ((F_laws_eqTransform a0.fPlace a1.fPlace).bind fun y1 =>
  br (!(y1))
  (some false)
  (br (std.not (std.eq a0.fColumns a1.fColumns))
  (some false)
  (br (std.not (std.eq a0.fRows a1.fRows))
  (some false)
  (br (std.not (std.eq a0.fStepX a1.fStepX))
  (some false)
  (br (std.not (std.eq a0.fStepY a1.fStepY))
  (some false)
  (some true))))))
theorem run_laws_eqInstance (a0 : TInstance) (a1 : TInstance) (r : Bool) (h : F_laws_eqInstance a0 a1 = some r) : Fun Try.prog 158 [.agg [.v (.int .i64 a0.fCell), .v (.int .i64 a0.fPlace.fOrientation), .v (.int .i64 a0.fPlace.fX), .v (.int .i64 a0.fPlace.fY), .v (.int .i64 a0.fColumns), .v (.int .i64 a0.fRows), .v (.int .i64 a0.fStepX), .v (.int .i64 a0.fStepY)], .agg [.v (.int .i64 a1.fCell), .v (.int .i64 a1.fPlace.fOrientation), .v (.int .i64 a1.fPlace.fX), .v (.int .i64 a1.fPlace.fY), .v (.int .i64 a1.fColumns), .v (.int .i64 a1.fRows), .v (.int .i64 a1.fStepX), .v (.int .i64 a1.fStepY)]] [] (.c (.v (.bool r))) [] true := by
  refine Fun.of_wp (oneOf []) tok mixed Try.func158 (by kernel_rfl) rfl Try.ntmps158 rfl trivial (fun _ => ⟨trivial, trivial⟩) ?_
  unfold F_laws_eqInstance at h
  have hf_laws_eqTransform := @run_laws_eqTransform
  generalize hLEN : @len = LEN at *
  generalize hGD : @gd = GD at *
  generalize hA : std = A at *
  generalize hP : Try.prog = P at *
  cbv
  refine fork (fun b8 => ?_) (fun b8 => ?_)
  · replace h := of_br_t b8 h
    cbv
    injection h with h
    subst h
    refine ⟨(sparse 36 [(4, .c (.v (.bool false)))] []), ?_, ?_⟩
    · exact le_sparse rfl ⟨AV.le_refl _, trivial⟩ trivial rfl
    · exact ⟨AV.le_refl _, trivial, rfl⟩
  · replace h := of_br_f b8 h
    cbv
    replace h := of_bind h
    obtain ⟨y1, hy2, h⟩ := h
    refine ⟨{ args := [.agg [.v (.int .i64 a0.fPlace.fOrientation), .v (.int .i64 a0.fPlace.fX), .v (.int .i64 a0.fPlace.fY)], .agg [.v (.int .i64 a1.fPlace.fOrientation), .v (.int .i64 a1.fPlace.fX), .v (.int .i64 a1.fPlace.fY)]], o0 := [], r := .c (.v (.bool y1)), o1 := [], fl := true, σ := [], τ := [] }, hf_laws_eqTransform _ _ _ hy2, ⟨les_cons (AV.le_refl _) (les_cons (AV.le_refl _) (les_nil)), trivial, rfl, rfl, rfl, rfl, trivial, rfl⟩, ?_⟩
    cbv
    refine fork (fun b7 => ?_) (fun b7 => ?_)
    · replace h := of_br_t b7 h
      cbv
      injection h with h
      subst h
      refine ⟨(sparse 36 [(4, .c (.v (.bool false)))] []), ?_, ?_⟩
      · exact le_sparse rfl ⟨AV.le_refl _, trivial⟩ trivial rfl
      · exact ⟨AV.le_refl _, trivial, rfl⟩
    · replace h := of_br_f b7 h
      cbv
      refine fork (fun b6 => ?_) (fun b6 => ?_)
      · replace h := of_br_t b6 h
        cbv
        injection h with h
        subst h
        refine ⟨(sparse 36 [(4, .c (.v (.bool false)))] []), ?_, ?_⟩
        · exact le_sparse rfl ⟨AV.le_refl _, trivial⟩ trivial rfl
        · exact ⟨AV.le_refl _, trivial, rfl⟩
      · replace h := of_br_f b6 h
        cbv
        refine fork (fun b5 => ?_) (fun b5 => ?_)
        · replace h := of_br_t b5 h
          cbv
          injection h with h
          subst h
          refine ⟨(sparse 36 [(4, .c (.v (.bool false)))] []), ?_, ?_⟩
          · exact le_sparse rfl ⟨AV.le_refl _, trivial⟩ trivial rfl
          · exact ⟨AV.le_refl _, trivial, rfl⟩
        · replace h := of_br_f b5 h
          cbv
          refine fork (fun b4 => ?_) (fun b4 => ?_)
          · replace h := of_br_t b4 h
            cbv
            injection h with h
            subst h
            refine ⟨(sparse 36 [(4, .c (.v (.bool false)))] []), ?_, ?_⟩
            · exact le_sparse rfl ⟨AV.le_refl _, trivial⟩ trivial rfl
            · exact ⟨AV.le_refl _, trivial, rfl⟩
          · replace h := of_br_f b4 h
            cbv
            refine fork (fun b3 => ?_) (fun b3 => ?_)
            · replace h := of_br_t b3 h
              cbv
              injection h with h
              subst h
              refine ⟨(sparse 36 [(4, .c (.v (.bool false)))] []), ?_, ?_⟩
              · exact le_sparse rfl ⟨AV.le_refl _, trivial⟩ trivial rfl
              · exact ⟨AV.le_refl _, trivial, rfl⟩
            · replace h := of_br_f b3 h
              cbv
              injection h with h
              subst h
              refine ⟨(sparse 36 [(4, .c (.v (.bool true)))] []), ?_, ?_⟩
              · exact le_sparse rfl ⟨AV.le_refl _, trivial⟩ trivial rfl
              · exact ⟨AV.le_refl _, trivial, rfl⟩

/-- laws.eqEdit -/
noncomputable def F_laws_eqEdit (a0 : TEdit) (a1 : TEdit) : Option (Bool) :=
  br (std.not (std.eq a0.fKind a1.fKind))
  (some false)
  (br (std.not (std.eq a0.fCell a1.fCell))
  (some false)
  (br (std.not (std.eq a0.fIndex a1.fIndex))
  (some false)
  (br (std.not (std.seq a0.fName a1.fName))
  (some false)
  ((F_laws_eqShape a0.fShape a1.fShape).bind fun y1 =>
  br (!(y1))
  (some false)
  ((F_laws_eqLabel a0.fLabel a1.fLabel).bind fun y3 =>
  br (!(y3))
  (some false)
  ((F_laws_eqInstance a0.fInstance a1.fInstance).bind fun y5 =>
  br (!(y5))
  (some false)
  (some true)))))))
theorem run_laws_eqEdit (a0 : TEdit) (a1 : TEdit) (r : Bool) (h : F_laws_eqEdit a0 a1 = some r) : Fun Try.prog 88 [.agg [.v (.int .i64 a0.fKind), .v (.int .i64 a0.fCell), .v (.int .i64 a0.fIndex), .v (.string a0.fName), .v (.int .i64 a0.fShape.fLayer), .v (.int .i64 a0.fShape.fBox.fX0), .v (.int .i64 a0.fShape.fBox.fY0), .v (.int .i64 a0.fShape.fBox.fX1), .v (.int .i64 a0.fShape.fBox.fY1), .v (.int .i64 a0.fLabel.fLayer), .v (.int .i64 a0.fLabel.fAt.fX), .v (.int .i64 a0.fLabel.fAt.fY), .v (.string a0.fLabel.fName), .v (.int .i64 a0.fInstance.fCell), .v (.int .i64 a0.fInstance.fPlace.fOrientation), .v (.int .i64 a0.fInstance.fPlace.fX), .v (.int .i64 a0.fInstance.fPlace.fY), .v (.int .i64 a0.fInstance.fColumns), .v (.int .i64 a0.fInstance.fRows), .v (.int .i64 a0.fInstance.fStepX), .v (.int .i64 a0.fInstance.fStepY)], .agg [.v (.int .i64 a1.fKind), .v (.int .i64 a1.fCell), .v (.int .i64 a1.fIndex), .v (.string a1.fName), .v (.int .i64 a1.fShape.fLayer), .v (.int .i64 a1.fShape.fBox.fX0), .v (.int .i64 a1.fShape.fBox.fY0), .v (.int .i64 a1.fShape.fBox.fX1), .v (.int .i64 a1.fShape.fBox.fY1), .v (.int .i64 a1.fLabel.fLayer), .v (.int .i64 a1.fLabel.fAt.fX), .v (.int .i64 a1.fLabel.fAt.fY), .v (.string a1.fLabel.fName), .v (.int .i64 a1.fInstance.fCell), .v (.int .i64 a1.fInstance.fPlace.fOrientation), .v (.int .i64 a1.fInstance.fPlace.fX), .v (.int .i64 a1.fInstance.fPlace.fY), .v (.int .i64 a1.fInstance.fColumns), .v (.int .i64 a1.fInstance.fRows), .v (.int .i64 a1.fInstance.fStepX), .v (.int .i64 a1.fInstance.fStepY)]] [] (.c (.v (.bool r))) [] true := by
  refine Fun.of_wp (oneOf []) tok mixed Try.func88 (by kernel_rfl) rfl Try.ntmps88 rfl trivial (fun _ => ⟨trivial, trivial⟩) ?_
  unfold F_laws_eqEdit at h
  have hf_laws_eqInstance := @run_laws_eqInstance
  have hf_laws_eqLabel := @run_laws_eqLabel
  have hf_laws_eqShape := @run_laws_eqShape
  generalize hLEN : @len = LEN at *
  generalize hGD : @gd = GD at *
  generalize hA : std = A at *
  generalize hP : Try.prog = P at *
  cbv
  refine fork (fun b13 => ?_) (fun b13 => ?_)
  · replace h := of_br_t b13 h
    cbv
    injection h with h
    subst h
    refine ⟨(sparse 43 [(4, .c (.v (.bool false)))] []), ?_, ?_⟩
    · exact le_sparse rfl ⟨AV.le_refl _, trivial⟩ trivial rfl
    · exact ⟨AV.le_refl _, trivial, rfl⟩
  · replace h := of_br_f b13 h
    cbv
    refine fork (fun b12 => ?_) (fun b12 => ?_)
    · replace h := of_br_t b12 h
      cbv
      injection h with h
      subst h
      refine ⟨(sparse 43 [(4, .c (.v (.bool false)))] []), ?_, ?_⟩
      · exact le_sparse rfl ⟨AV.le_refl _, trivial⟩ trivial rfl
      · exact ⟨AV.le_refl _, trivial, rfl⟩
    · replace h := of_br_f b12 h
      cbv
      refine fork (fun b11 => ?_) (fun b11 => ?_)
      · replace h := of_br_t b11 h
        cbv
        injection h with h
        subst h
        refine ⟨(sparse 43 [(4, .c (.v (.bool false)))] []), ?_, ?_⟩
        · exact le_sparse rfl ⟨AV.le_refl _, trivial⟩ trivial rfl
        · exact ⟨AV.le_refl _, trivial, rfl⟩
      · replace h := of_br_f b11 h
        cbv
        refine fork (fun b10 => ?_) (fun b10 => ?_)
        · replace h := of_br_t b10 h
          cbv
          injection h with h
          subst h
          refine ⟨(sparse 43 [(4, .c (.v (.bool false)))] []), ?_, ?_⟩
          · exact le_sparse rfl ⟨AV.le_refl _, trivial⟩ trivial rfl
          · exact ⟨AV.le_refl _, trivial, rfl⟩
        · replace h := of_br_f b10 h
          cbv
          replace h := of_bind h
          obtain ⟨y1, hy2, h⟩ := h
          refine ⟨{ args := [.agg [.v (.int .i64 a0.fShape.fLayer), .v (.int .i64 a0.fShape.fBox.fX0), .v (.int .i64 a0.fShape.fBox.fY0), .v (.int .i64 a0.fShape.fBox.fX1), .v (.int .i64 a0.fShape.fBox.fY1)], .agg [.v (.int .i64 a1.fShape.fLayer), .v (.int .i64 a1.fShape.fBox.fX0), .v (.int .i64 a1.fShape.fBox.fY0), .v (.int .i64 a1.fShape.fBox.fX1), .v (.int .i64 a1.fShape.fBox.fY1)]], o0 := [], r := .c (.v (.bool y1)), o1 := [], fl := true, σ := [], τ := [] }, hf_laws_eqShape _ _ _ hy2, ⟨les_cons (AV.le_refl _) (les_cons (AV.le_refl _) (les_nil)), trivial, rfl, rfl, rfl, rfl, trivial, rfl⟩, ?_⟩
          cbv
          refine fork (fun b9 => ?_) (fun b9 => ?_)
          · replace h := of_br_t b9 h
            cbv
            injection h with h
            subst h
            refine ⟨(sparse 43 [(4, .c (.v (.bool false)))] []), ?_, ?_⟩
            · exact le_sparse rfl ⟨AV.le_refl _, trivial⟩ trivial rfl
            · exact ⟨AV.le_refl _, trivial, rfl⟩
          · replace h := of_br_f b9 h
            cbv
            replace h := of_bind h
            obtain ⟨y3, hy4, h⟩ := h
            refine ⟨{ args := [.agg [.v (.int .i64 a0.fLabel.fLayer), .v (.int .i64 a0.fLabel.fAt.fX), .v (.int .i64 a0.fLabel.fAt.fY), .v (.string a0.fLabel.fName)], .agg [.v (.int .i64 a1.fLabel.fLayer), .v (.int .i64 a1.fLabel.fAt.fX), .v (.int .i64 a1.fLabel.fAt.fY), .v (.string a1.fLabel.fName)]], o0 := [], r := .c (.v (.bool y3)), o1 := [], fl := true, σ := [], τ := [] }, hf_laws_eqLabel _ _ _ hy4, ⟨les_cons (AV.le_refl _) (les_cons (AV.le_refl _) (les_nil)), trivial, rfl, rfl, rfl, rfl, trivial, rfl⟩, ?_⟩
            cbv
            refine fork (fun b8 => ?_) (fun b8 => ?_)
            · replace h := of_br_t b8 h
              cbv
              injection h with h
              subst h
              refine ⟨(sparse 43 [(4, .c (.v (.bool false)))] []), ?_, ?_⟩
              · exact le_sparse rfl ⟨AV.le_refl _, trivial⟩ trivial rfl
              · exact ⟨AV.le_refl _, trivial, rfl⟩
            · replace h := of_br_f b8 h
              cbv
              replace h := of_bind h
              obtain ⟨y5, hy6, h⟩ := h
              refine ⟨{ args := [.agg [.v (.int .i64 a0.fInstance.fCell), .v (.int .i64 a0.fInstance.fPlace.fOrientation), .v (.int .i64 a0.fInstance.fPlace.fX), .v (.int .i64 a0.fInstance.fPlace.fY), .v (.int .i64 a0.fInstance.fColumns), .v (.int .i64 a0.fInstance.fRows), .v (.int .i64 a0.fInstance.fStepX), .v (.int .i64 a0.fInstance.fStepY)], .agg [.v (.int .i64 a1.fInstance.fCell), .v (.int .i64 a1.fInstance.fPlace.fOrientation), .v (.int .i64 a1.fInstance.fPlace.fX), .v (.int .i64 a1.fInstance.fPlace.fY), .v (.int .i64 a1.fInstance.fColumns), .v (.int .i64 a1.fInstance.fRows), .v (.int .i64 a1.fInstance.fStepX), .v (.int .i64 a1.fInstance.fStepY)]], o0 := [], r := .c (.v (.bool y5)), o1 := [], fl := true, σ := [], τ := [] }, hf_laws_eqInstance _ _ _ hy6, ⟨les_cons (AV.le_refl _) (les_cons (AV.le_refl _) (les_nil)), trivial, rfl, rfl, rfl, rfl, trivial, rfl⟩, ?_⟩
              cbv
              refine fork (fun b7 => ?_) (fun b7 => ?_)
              · replace h := of_br_t b7 h
                cbv
                injection h with h
                subst h
                refine ⟨(sparse 43 [(4, .c (.v (.bool false)))] []), ?_, ?_⟩
                · exact le_sparse rfl ⟨AV.le_refl _, trivial⟩ trivial rfl
                · exact ⟨AV.le_refl _, trivial, rfl⟩
              · replace h := of_br_f b7 h
                cbv
                injection h with h
                subst h
                refine ⟨(sparse 43 [(4, .c (.v (.bool true)))] []), ?_, ?_⟩
                · exact le_sparse rfl ⟨AV.le_refl _, trivial⟩ trivial rfl
                · exact ⟨AV.le_refl _, trivial, rfl⟩

noncomputable def L_laws_eqEditS_x2 (a0 : List TEdit) (a1 : List TEdit) : (Int) → Option ((Int) ⊕ ((Unit) ⊕ (Unit))) := fun x2 =>
  letO x2 fun v1 =>
  br (std.lt v1 (std.ofN (len a0)))
  (req (std.inR v1 (len a0)) <|
  req (std.inR v1 (len a1)) <|
  (F_laws_eqEdit (gd a0 (std.toN v1)) (gd a1 (std.toN v1))).bind fun y16 =>
  br (!(y16))
  (some (.inr (.inl ())))
  (some (.inl (std.add .i64 v1 1))))
  (some (.inr (.inr ())))
/-- laws.eqEditS -/
noncomputable def F_laws_eqEditS (a0 : List TEdit) (a1 : List TEdit) : Option (Bool) :=
  br (std.not (std.eq (std.ofN (len a0)) (std.ofN (len a1))))
  (some false)
  ((whileP (σ := Int) (ρ := (Unit) ⊕ (Unit)) (L_laws_eqEditS_x2 a0 a1) 0).bind fun y3 =>
  (match y3 with
    | .inl y3k0 => (
        some false)
    | .inr y3m0 =>
        some true))
theorem run_laws_eqEditS (a0 : List TEdit) (a1 : List TEdit) (r : Bool) (h : F_laws_eqEditS a0 a1 = some r) : Fun Try.prog 33 [.c (.bs (len a0) 21 (row gd (encEdit) a0)), .c (.bs (len a1) 21 (row gd (encEdit) a1))] [] (.c (.v (.bool r))) [] true := by
  refine Fun.of_wp (oneOf []) tok mixed Try.func33 (by kernel_rfl) rfl Try.ntmps33 rfl trivial (fun _ => ⟨trivial, trivial⟩) ?_
  unfold F_laws_eqEditS at h
  unfold L_laws_eqEditS_x2 at h
  have hf_laws_eqEdit := @run_laws_eqEdit
  generalize hLEN : @len = LEN at *
  generalize hGD : @gd = GD at *
  generalize hA : std = A at *
  generalize hP : Try.prog = P at *
  cbv
  refine fork (fun b20 => ?_) (fun b20 => ?_)
  · replace h := of_br_t b20 h
    cbv
    injection h with h
    subst h
    refine ⟨(sparse 27 [(4, .c (.v (.bool false)))] []), ?_, ?_⟩
    · exact le_sparse rfl ⟨AV.le_refl _, trivial⟩ trivial rfl
    · exact ⟨AV.le_refl _, trivial, rfl⟩
  · replace h := of_br_f b20 h
    cbv
    replace h := of_bind h
    obtain ⟨y3, hr4, hN5⟩ := h
    refine loop_cut hr4 (fun x => (sparse 27 [(0, .c (.bs (LEN a0) 21 (row GD (encEdit) a0))), (1, .c (.bs (LEN a1) 21 (row GD (encEdit) a1))), (5, .c (.v (.int .i64 x)))] [])) ?_ (fun y e s => (match y with | .inl w => e = .ret ∧ s.le (sparse 27 [(4, .c (.v (.bool false)))] []) | .inr w0 => (fun (w : Unit) => e = .exit 0 ∧ s.le (sparse 27 [] [])) w0)) ?_ ?_
    · clear hr4 hN5
      show St.le _ _
      exact le_sparse rfl ⟨AV.le_refl _, AV.le_refl _, AV.le_refl _, trivial⟩ trivial rfl
    · clear hr4 hN5
      intro x z9 h K7 hK8 hY6
      replace h := of_let h
      obtain ⟨v1, hv1, h⟩ := h
      have hv1 : v1 = x := hv1
      subst hv1
      cbv
      refine fork (fun b19 => ?_) (fun b19 => ?_)
      · replace h := of_br_t b19 h
        cbv
        replace h := of_req h
        obtain ⟨c14, h⟩ := h
        refine ⟨⟨c14, trivial⟩, ?_⟩
        replace h := of_req h
        obtain ⟨c15, h⟩ := h
        refine ⟨⟨c15, trivial⟩, ?_⟩
        replace h := of_bind h
        obtain ⟨y16, hy17, h⟩ := h
        refine ⟨{ args := [.agg [.v (.int .i64 (GD a0 (A.toN v1)).fKind), .v (.int .i64 (GD a0 (A.toN v1)).fCell), .v (.int .i64 (GD a0 (A.toN v1)).fIndex), .v (.string (GD a0 (A.toN v1)).fName), .v (.int .i64 (GD a0 (A.toN v1)).fShape.fLayer), .v (.int .i64 (GD a0 (A.toN v1)).fShape.fBox.fX0), .v (.int .i64 (GD a0 (A.toN v1)).fShape.fBox.fY0), .v (.int .i64 (GD a0 (A.toN v1)).fShape.fBox.fX1), .v (.int .i64 (GD a0 (A.toN v1)).fShape.fBox.fY1), .v (.int .i64 (GD a0 (A.toN v1)).fLabel.fLayer), .v (.int .i64 (GD a0 (A.toN v1)).fLabel.fAt.fX), .v (.int .i64 (GD a0 (A.toN v1)).fLabel.fAt.fY), .v (.string (GD a0 (A.toN v1)).fLabel.fName), .v (.int .i64 (GD a0 (A.toN v1)).fInstance.fCell), .v (.int .i64 (GD a0 (A.toN v1)).fInstance.fPlace.fOrientation), .v (.int .i64 (GD a0 (A.toN v1)).fInstance.fPlace.fX), .v (.int .i64 (GD a0 (A.toN v1)).fInstance.fPlace.fY), .v (.int .i64 (GD a0 (A.toN v1)).fInstance.fColumns), .v (.int .i64 (GD a0 (A.toN v1)).fInstance.fRows), .v (.int .i64 (GD a0 (A.toN v1)).fInstance.fStepX), .v (.int .i64 (GD a0 (A.toN v1)).fInstance.fStepY)], .agg [.v (.int .i64 (GD a1 (A.toN v1)).fKind), .v (.int .i64 (GD a1 (A.toN v1)).fCell), .v (.int .i64 (GD a1 (A.toN v1)).fIndex), .v (.string (GD a1 (A.toN v1)).fName), .v (.int .i64 (GD a1 (A.toN v1)).fShape.fLayer), .v (.int .i64 (GD a1 (A.toN v1)).fShape.fBox.fX0), .v (.int .i64 (GD a1 (A.toN v1)).fShape.fBox.fY0), .v (.int .i64 (GD a1 (A.toN v1)).fShape.fBox.fX1), .v (.int .i64 (GD a1 (A.toN v1)).fShape.fBox.fY1), .v (.int .i64 (GD a1 (A.toN v1)).fLabel.fLayer), .v (.int .i64 (GD a1 (A.toN v1)).fLabel.fAt.fX), .v (.int .i64 (GD a1 (A.toN v1)).fLabel.fAt.fY), .v (.string (GD a1 (A.toN v1)).fLabel.fName), .v (.int .i64 (GD a1 (A.toN v1)).fInstance.fCell), .v (.int .i64 (GD a1 (A.toN v1)).fInstance.fPlace.fOrientation), .v (.int .i64 (GD a1 (A.toN v1)).fInstance.fPlace.fX), .v (.int .i64 (GD a1 (A.toN v1)).fInstance.fPlace.fY), .v (.int .i64 (GD a1 (A.toN v1)).fInstance.fColumns), .v (.int .i64 (GD a1 (A.toN v1)).fInstance.fRows), .v (.int .i64 (GD a1 (A.toN v1)).fInstance.fStepX), .v (.int .i64 (GD a1 (A.toN v1)).fInstance.fStepY)]], o0 := [], r := .c (.v (.bool y16)), o1 := [], fl := true, σ := [], τ := [] }, hf_laws_eqEdit _ _ _ hy17, ⟨les_cons (AV.le_refl _) (les_cons (AV.le_refl _) (les_nil)), trivial, rfl, rfl, rfl, rfl, trivial, rfl⟩, ?_⟩
        cbv
        refine fork (fun b18 => ?_) (fun b18 => ?_)
        · replace h := of_br_t b18 h
          cbv
          injection h with h
          refine hY6 _ h.symm _ _ (And.intro rfl ?_) (by intro hh; cases hh)
          exact le_sparse rfl ⟨AV.le_refl _, trivial⟩ trivial rfl
        · replace h := of_br_f b18 h
          cbv
          injection h with h
          refine hK8 _ h.symm _ ?_
          exact le_sparse rfl ⟨AV.le_refl _, AV.le_refl _, AV.le_refl _, trivial⟩ trivial rfl
      · replace h := of_br_f b19 h
        cbv
        injection h with h
        refine hY6 _ h.symm _ _ (And.intro rfl ?_) (by intro hh; cases hh)
        exact le_sparse rfl trivial trivial rfl
    · clear hr4
      have h := hN5
      clear hN5
      intro e12 s13 q11 hne
      rcases y3 with y3k0 | y3m0
      · replace h := h
        obtain ⟨rfl, q11⟩ := q11
        cbv
        injection h with h
        subst h
        refine ⟨(sparse 27 [(4, .c (.v (.bool false)))] []), ?_, ?_⟩
        · refine St.le_trans q11 ?_
          exact le_sparse rfl ⟨AV.le_refl _, trivial⟩ trivial rfl
        · exact ⟨AV.le_refl _, trivial, rfl⟩
      · obtain ⟨rfl, q11⟩ := q11
        cbv
        refine ⟨_, q11, ?_⟩
        cbv
        injection h with h
        subst h
        refine ⟨(sparse 27 [(4, .c (.v (.bool true)))] []), ?_, ?_⟩
        · exact le_sparse rfl ⟨AV.le_refl _, trivial⟩ trivial rfl
        · exact ⟨AV.le_refl _, trivial, rfl⟩

/-- laws.FnExactJournalRecord -/
noncomputable def F_laws_FnExactJournalRecord (a0 : List TEdit) : Option (Bool) :=
  (F_laws_szEditS a0 1048576).bind fun y1 =>
  br (std.lt y1 0)
  (some true)
  ((F_laws_toEditS a0).bind fun y3 =>
  (F_spec_JournalRecord y3).bind fun y5 =>
  (F_laws_toEditS a0).bind fun y7 =>
  (F_impl_JournalRecord y7).bind fun y9 =>
  br (std.not (std.seq y9 y5))
  (some false)
  ((F_laws_toEditS a0).bind fun y11 =>
  (F_laws_eqEditS y7 y11).bind fun y13 =>
  br (!(y13))
  (some false)
  (some true)))
theorem run_laws_FnExactJournalRecord (a0 : List TEdit) (r : Bool) (h : F_laws_FnExactJournalRecord a0 = some r) : Fun Try.prog 6 [.c (.bs (len a0) 21 (row gd (encEdit) a0))] [] (.c (.v (.bool r))) [] true := by
  refine Fun.of_wp (oneOf []) tok mixed Try.func6 (by kernel_rfl) rfl Try.ntmps6 rfl trivial (fun _ => ⟨trivial, trivial⟩) ?_
  unfold F_laws_FnExactJournalRecord at h
  have hf_impl_JournalRecord := @run_impl_JournalRecord
  have hf_laws_eqEditS := @run_laws_eqEditS
  have hf_laws_szEditS := @run_laws_szEditS
  have hf_laws_toEditS := @run_laws_toEditS
  have hf_spec_JournalRecord := @run_spec_JournalRecord
  generalize hLEN : @len = LEN at *
  generalize hGD : @gd = GD at *
  generalize hA : std = A at *
  generalize hP : Try.prog = P at *
  cbv
  replace h := of_bind h
  obtain ⟨y1, hy2, h⟩ := h
  refine ⟨{ args := [.c (.bs (LEN a0) 21 (row GD (encEdit) a0)), .c (.v (.int .i64 1048576))], o0 := [], r := .c (.v (.int .i64 y1)), o1 := [], fl := true, σ := [], τ := [] }, hf_laws_szEditS _ _ _ hy2, ⟨les_cons (AV.le_refl _) (les_cons (AV.le_refl _) (les_nil)), trivial, rfl, rfl, rfl, rfl, trivial, rfl⟩, ?_⟩
  cbv
  refine fork (fun b17 => ?_) (fun b17 => ?_)
  · replace h := of_br_t b17 h
    cbv
    injection h with h
    subst h
    refine ⟨(sparse 27 [(2, .c (.v (.bool true)))] []), ?_, ?_⟩
    · exact le_sparse rfl ⟨AV.le_refl _, trivial⟩ trivial rfl
    · exact ⟨AV.le_refl _, trivial, rfl⟩
  · replace h := of_br_f b17 h
    cbv
    replace h := of_bind h
    obtain ⟨y3, hy4, h⟩ := h
    refine ⟨{ args := [.c (.bs (LEN a0) 21 (row GD (encEdit) a0))], o0 := [], r := .c (.os 64000 0 (LEN y3)), o1 := [(64000, .arr .rw [] (LEN y3) 21 (row GD (encEdit) y3))], fl := true, σ := [], τ := [(64000, 832)] }, hf_laws_toEditS _ _ hy4, ⟨les_cons (AV.le_refl _) (les_nil), trivial, rfl, rfl, rfl, rfl, ⟨fun h => absurd (show (64000 : Nat) % 2 = 1 from h) (by decide), trivial⟩, rfl⟩, _, rfl, _, _, rfl, fun _ _ _ _ => rfl, ?_⟩
    cbv
    replace h := of_bind h
    obtain ⟨y5, hy6, h⟩ := h
    refine ⟨{ args := [.c (.bs (LEN y3) 21 (row GD (encEdit) y3))], o0 := [], r := .c (.v (.string y5)), o1 := [], fl := true, σ := [], τ := [] }, hf_spec_JournalRecord _ _ hy6, ⟨les_cons (give_os (pl_encEdit) rfl rfl rfl) (les_nil), trivial, rfl, rfl, rfl, rfl, trivial, rfl⟩, ?_⟩
    cbv
    replace h := of_bind h
    obtain ⟨y7, hy8, h⟩ := h
    refine ⟨{ args := [.c (.bs (LEN a0) 21 (row GD (encEdit) a0))], o0 := [], r := .c (.os 64000 0 (LEN y7)), o1 := [(64000, .arr .rw [] (LEN y7) 21 (row GD (encEdit) y7))], fl := true, σ := [], τ := [(64000, 1024)] }, hf_laws_toEditS _ _ hy8, ⟨les_cons (AV.le_refl _) (les_nil), trivial, rfl, rfl, rfl, rfl, ⟨fun h => absurd (show (64000 : Nat) % 2 = 1 from h) (by decide), trivial⟩, rfl⟩, _, rfl, _, _, rfl, fun _ _ _ _ => rfl, ?_⟩
    cbv
    replace h := of_bind h
    obtain ⟨y9, hy10, h⟩ := h
    refine ⟨{ args := [.c (.bs (LEN y7) 21 (row GD (encEdit) y7))], o0 := [], r := .c (.v (.string y9)), o1 := [], fl := true, σ := [], τ := [] }, hf_impl_JournalRecord _ _ hy10, ⟨les_cons (give_os (pl_encEdit) rfl rfl rfl) (les_nil), trivial, rfl, rfl, rfl, rfl, trivial, rfl⟩, ?_⟩
    cbv
    refine fork (fun b16 => ?_) (fun b16 => ?_)
    · replace h := of_br_t b16 h
      cbv
      injection h with h
      subst h
      refine ⟨(sparse 27 [(2, .c (.v (.bool false)))] []), ?_, ?_⟩
      · exact le_sparse rfl ⟨AV.le_refl _, trivial⟩ trivial rfl
      · exact ⟨AV.le_refl _, trivial, rfl⟩
    · replace h := of_br_f b16 h
      cbv
      replace h := of_bind h
      obtain ⟨y11, hy12, h⟩ := h
      refine ⟨{ args := [.c (.bs (LEN a0) 21 (row GD (encEdit) a0))], o0 := [], r := .c (.os 64000 0 (LEN y11)), o1 := [(64000, .arr .rw [] (LEN y11) 21 (row GD (encEdit) y11))], fl := true, σ := [], τ := [(64000, 1536)] }, hf_laws_toEditS _ _ hy12, ⟨les_cons (AV.le_refl _) (les_nil), trivial, rfl, rfl, rfl, rfl, ⟨fun h => absurd (show (64000 : Nat) % 2 = 1 from h) (by decide), trivial⟩, rfl⟩, _, rfl, _, _, rfl, fun _ _ _ _ => rfl, ?_⟩
      cbv
      replace h := of_bind h
      obtain ⟨y13, hy14, h⟩ := h
      refine ⟨{ args := [.c (.bs (LEN y7) 21 (row GD (encEdit) y7)), .c (.bs (LEN y11) 21 (row GD (encEdit) y11))], o0 := [], r := .c (.v (.bool y13)), o1 := [], fl := true, σ := [], τ := [] }, hf_laws_eqEditS _ _ _ hy14, ⟨les_cons (give_os (pl_encEdit) rfl rfl rfl) (les_cons (give_os (pl_encEdit) rfl rfl rfl) (les_nil)), trivial, rfl, rfl, rfl, rfl, trivial, rfl⟩, ?_⟩
      cbv
      refine fork (fun b15 => ?_) (fun b15 => ?_)
      · replace h := of_br_t b15 h
        cbv
        injection h with h
        subst h
        refine ⟨(sparse 27 [(2, .c (.v (.bool false)))] []), ?_, ?_⟩
        · exact le_sparse rfl ⟨AV.le_refl _, trivial⟩ trivial rfl
        · exact ⟨AV.le_refl _, trivial, rfl⟩
      · replace h := of_br_f b15 h
        cbv
        injection h with h
        subst h
        refine ⟨(sparse 27 [(2, .c (.v (.bool true)))] []), ?_, ?_⟩
        · exact le_sparse rfl ⟨AV.le_refl _, trivial⟩ trivial rfl
        · exact ⟨AV.le_refl _, trivial, rfl⟩
end Go.Proofs.Ytnmfighfidaglaa.AM
