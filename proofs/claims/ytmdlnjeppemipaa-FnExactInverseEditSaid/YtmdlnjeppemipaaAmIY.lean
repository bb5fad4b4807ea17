/-
  What the functions that the law reaches compute, and that they do. No condition.
-/
import Derived.Test.YtmdlnjeppemipaaAmIX
import Derived.Test.YtmdlnjeppemipaaAmE
namespace Go.Proofs.Ytmdlnjeppemipaa.AM
open Go Go.Proofs Go.RowKit
set_option linter.unusedVariables false
set_option linter.unusedSimpArgs false
set_option maxRecDepth 100000

/-- impl.IsValidEdit -/
noncomputable def F_impl_IsValidEdit (a0 : TEdit) : Option (Bool) :=
 ((
    (F_impl_within a0.fCell 0 8).bind fun y8 =>
    br (!(y8))
    (some true)
    ((F_impl_within a0.fIndex 0 24).bind fun y10 =>
    some (!(y10)))
  ) : Option (Bool)).bind fun y1 =>
 letO y1 fun w7 =>
 br w7
 (some false)
 (br (std.eq a0.fKind 1)
 (((
    br (std.band (std.eq a0.fKind a0.fKind) (std.band (std.eq a0.fCell a0.fCell) (std.band (std.eq a0.fIndex a0.fIndex) (std.band (std.seq (ByteArray.mk #[]) a0.fName) (std.band (std.band (std.eq a0.fShape.fLayer a0.fShape.fLayer) (std.band (std.band (std.eq a0.fShape.fBox.fX0 a0.fShape.fBox.fX0) (std.band (std.eq a0.fShape.fBox.fY0 a0.fShape.fBox.fY0) (std.band (std.eq a0.fShape.fBox.fX1 a0.fShape.fBox.fX1) (std.band (std.eq a0.fShape.fBox.fY1 a0.fShape.fBox.fY1) (true))))) (true))) (std.band (std.band (std.eq 0 a0.fLabel.fLayer) (std.band (std.band (std.eq 0 a0.fLabel.fAt.fX) (std.band (std.eq 0 a0.fLabel.fAt.fY) (true))) (std.band (std.seq (ByteArray.mk #[]) a0.fLabel.fName) (true)))) (std.band (std.band (std.eq 0 a0.fInstance.fCell) (std.band (std.band (std.eq 0 a0.fInstance.fPlace.fOrientation) (std.band (std.eq 0 a0.fInstance.fPlace.fX) (std.band (std.eq 0 a0.fInstance.fPlace.fY) (true)))) (std.band (std.eq 0 a0.fInstance.fColumns) (std.band (std.eq 0 a0.fInstance.fRows) (std.band (std.eq 0 a0.fInstance.fStepX) (std.band (std.eq 0 a0.fInstance.fStepY) (true))))))) (true))))))))
    ((F_impl_validShape a0.fShape).bind fun y20 =>
    some y20)
    (some false)
  ) : Option (Bool)).bind fun y13 =>
 letO y13 fun w19 =>
 some w19)
 (br (std.eq a0.fKind 3)
 (((
    br (std.band (std.eq a0.fKind a0.fKind) (std.band (std.eq a0.fCell a0.fCell) (std.band (std.eq a0.fIndex a0.fIndex) (std.band (std.seq (ByteArray.mk #[]) a0.fName) (std.band (std.band (std.eq 0 a0.fShape.fLayer) (std.band (std.band (std.eq 0 a0.fShape.fBox.fX0) (std.band (std.eq 0 a0.fShape.fBox.fY0) (std.band (std.eq 0 a0.fShape.fBox.fX1) (std.band (std.eq 0 a0.fShape.fBox.fY1) (true))))) (true))) (std.band (std.band (std.eq a0.fLabel.fLayer a0.fLabel.fLayer) (std.band (std.band (std.eq a0.fLabel.fAt.fX a0.fLabel.fAt.fX) (std.band (std.eq a0.fLabel.fAt.fY a0.fLabel.fAt.fY) (true))) (std.band (std.seq a0.fLabel.fName a0.fLabel.fName) (true)))) (std.band (std.band (std.eq 0 a0.fInstance.fCell) (std.band (std.band (std.eq 0 a0.fInstance.fPlace.fOrientation) (std.band (std.eq 0 a0.fInstance.fPlace.fX) (std.band (std.eq 0 a0.fInstance.fPlace.fY) (true)))) (std.band (std.eq 0 a0.fInstance.fColumns) (std.band (std.eq 0 a0.fInstance.fRows) (std.band (std.eq 0 a0.fInstance.fStepX) (std.band (std.eq 0 a0.fInstance.fStepY) (true))))))) (true))))))))
    ((F_impl_validLabel a0.fLabel).bind fun y30 =>
    some y30)
    (some false)
  ) : Option (Bool)).bind fun y23 =>
 letO y23 fun w29 =>
 some w29)
 (br (std.eq a0.fKind 5)
 (((
    br (std.band (std.eq a0.fKind a0.fKind) (std.band (std.eq a0.fCell a0.fCell) (std.band (std.eq a0.fIndex a0.fIndex) (std.band (std.seq (ByteArray.mk #[]) a0.fName) (std.band (std.band (std.eq 0 a0.fShape.fLayer) (std.band (std.band (std.eq 0 a0.fShape.fBox.fX0) (std.band (std.eq 0 a0.fShape.fBox.fY0) (std.band (std.eq 0 a0.fShape.fBox.fX1) (std.band (std.eq 0 a0.fShape.fBox.fY1) (true))))) (true))) (std.band (std.band (std.eq 0 a0.fLabel.fLayer) (std.band (std.band (std.eq 0 a0.fLabel.fAt.fX) (std.band (std.eq 0 a0.fLabel.fAt.fY) (true))) (std.band (std.seq (ByteArray.mk #[]) a0.fLabel.fName) (true)))) (std.band (std.band (std.eq a0.fInstance.fCell a0.fInstance.fCell) (std.band (std.band (std.eq a0.fInstance.fPlace.fOrientation a0.fInstance.fPlace.fOrientation) (std.band (std.eq a0.fInstance.fPlace.fX a0.fInstance.fPlace.fX) (std.band (std.eq a0.fInstance.fPlace.fY a0.fInstance.fPlace.fY) (true)))) (std.band (std.eq a0.fInstance.fColumns a0.fInstance.fColumns) (std.band (std.eq a0.fInstance.fRows a0.fInstance.fRows) (std.band (std.eq a0.fInstance.fStepX a0.fInstance.fStepX) (std.band (std.eq a0.fInstance.fStepY a0.fInstance.fStepY) (true))))))) (true))))))))
    ((F_impl_validInstance a0.fInstance 8).bind fun y40 =>
    some y40)
    (some false)
  ) : Option (Bool)).bind fun y33 =>
 letO y33 fun w39 =>
 some w39)
 (((
    br (std.eq a0.fKind 2)
    (some true)
    (((
       br (std.eq a0.fKind 4)
       (some true)
       (some (std.eq a0.fKind 6))
     ) : Option (Bool)).bind fun y50 =>
    letO y50 fun w56 =>
    some w56)
  ) : Option (Bool)).bind fun y43 =>
 letO y43 fun w49 =>
 ((
    br w49
    ((some (std.band (std.eq a0.fKind a0.fKind) (std.band (std.eq a0.fCell a0.fCell) (std.band (std.eq a0.fIndex a0.fIndex) (std.band (std.seq (ByteArray.mk #[]) a0.fName) (std.band (std.band (std.eq 0 a0.fShape.fLayer) (std.band (std.band (std.eq 0 a0.fShape.fBox.fX0) (std.band (std.eq 0 a0.fShape.fBox.fY0) (std.band (std.eq 0 a0.fShape.fBox.fX1) (std.band (std.eq 0 a0.fShape.fBox.fY1) (true))))) (true))) (std.band (std.band (std.eq 0 a0.fLabel.fLayer) (std.band (std.band (std.eq 0 a0.fLabel.fAt.fX) (std.band (std.eq 0 a0.fLabel.fAt.fY) (true))) (std.band (std.seq (ByteArray.mk #[]) a0.fLabel.fName) (true)))) (std.band (std.band (std.eq 0 a0.fInstance.fCell) (std.band (std.band (std.eq 0 a0.fInstance.fPlace.fOrientation) (std.band (std.eq 0 a0.fInstance.fPlace.fX) (std.band (std.eq 0 a0.fInstance.fPlace.fY) (true)))) (std.band (std.eq 0 a0.fInstance.fColumns) (std.band (std.eq 0 a0.fInstance.fRows) (std.band (std.eq 0 a0.fInstance.fStepX) (std.band (std.eq 0 a0.fInstance.fStepY) (true))))))) (true))))))))).bind fun r65 => some (.inl r65))
    (((
       br (std.eq a0.fKind 7)
       (some true)
       (some (std.eq a0.fKind 8))
     ) : Option (Bool)).bind fun y68 =>
    letO y68 fun w74 =>
    ((
       br w74
       (((
          br (std.band (std.eq a0.fKind a0.fKind) (std.band (std.eq a0.fCell a0.fCell) (std.band (std.eq 0 a0.fIndex) (std.band (std.seq a0.fName a0.fName) (std.band (std.band (std.eq 0 a0.fShape.fLayer) (std.band (std.band (std.eq 0 a0.fShape.fBox.fX0) (std.band (std.eq 0 a0.fShape.fBox.fY0) (std.band (std.eq 0 a0.fShape.fBox.fX1) (std.band (std.eq 0 a0.fShape.fBox.fY1) (true))))) (true))) (std.band (std.band (std.eq 0 a0.fLabel.fLayer) (std.band (std.band (std.eq 0 a0.fLabel.fAt.fX) (std.band (std.eq 0 a0.fLabel.fAt.fY) (true))) (std.band (std.seq (ByteArray.mk #[]) a0.fLabel.fName) (true)))) (std.band (std.band (std.eq 0 a0.fInstance.fCell) (std.band (std.band (std.eq 0 a0.fInstance.fPlace.fOrientation) (std.band (std.eq 0 a0.fInstance.fPlace.fX) (std.band (std.eq 0 a0.fInstance.fPlace.fY) (true)))) (std.band (std.eq 0 a0.fInstance.fColumns) (std.band (std.eq 0 a0.fInstance.fRows) (std.band (std.eq 0 a0.fInstance.fStepX) (std.band (std.eq 0 a0.fInstance.fStepY) (true))))))) (true))))))))
          ((F_impl_IsName a0.fName).bind fun y89 =>
          some y89)
          (some false)
        ) : Option (Bool)).bind fun y82 =>
       letO y82 fun w88 =>
       ((some w88).bind fun r92 => some (.inl r92)).bind fun r95 => some (.inl r95))
       (br (std.eq a0.fKind 9)
       (((some (std.band (std.eq a0.fKind a0.fKind) (std.band (std.eq a0.fCell a0.fCell) (std.band (std.eq 0 a0.fIndex) (std.band (std.seq (ByteArray.mk #[]) a0.fName) (std.band (std.band (std.eq 0 a0.fShape.fLayer) (std.band (std.band (std.eq 0 a0.fShape.fBox.fX0) (std.band (std.eq 0 a0.fShape.fBox.fY0) (std.band (std.eq 0 a0.fShape.fBox.fX1) (std.band (std.eq 0 a0.fShape.fBox.fY1) (true))))) (true))) (std.band (std.band (std.eq 0 a0.fLabel.fLayer) (std.band (std.band (std.eq 0 a0.fLabel.fAt.fX) (std.band (std.eq 0 a0.fLabel.fAt.fY) (true))) (std.band (std.seq (ByteArray.mk #[]) a0.fLabel.fName) (true)))) (std.band (std.band (std.eq 0 a0.fInstance.fCell) (std.band (std.band (std.eq 0 a0.fInstance.fPlace.fOrientation) (std.band (std.eq 0 a0.fInstance.fPlace.fX) (std.band (std.eq 0 a0.fInstance.fPlace.fY) (true)))) (std.band (std.eq 0 a0.fInstance.fColumns) (std.band (std.eq 0 a0.fInstance.fRows) (std.band (std.eq 0 a0.fInstance.fStepX) (std.band (std.eq 0 a0.fInstance.fStepY) (true))))))) (true))))))))).bind fun r98 => some (.inl r98)).bind fun r101 => some (.inl r101))
       (some (.inr ())))
     ) : Option (_ ⊕ Unit)).bind fun z78 => (match z78 with
     | .inl r => some r
     | .inr y76 =>
       some (.inr ())))
  ) : Option (_ ⊕ Unit)).bind fun z61 => (match z61 with
  | .inl r => some r
  | .inr y59 =>
    some false)))))
theorem run_impl_IsValidEdit (a0 : TEdit) (r : Bool) (h : F_impl_IsValidEdit a0 = some r) : Fun Try.prog 117 [.agg [.v (.int .i64 a0.fKind), .v (.int .i64 a0.fCell), .v (.int .i64 a0.fIndex), .v (.string a0.fName), .v (.int .i64 a0.fShape.fLayer), .v (.int .i64 a0.fShape.fBox.fX0), .v (.int .i64 a0.fShape.fBox.fY0), .v (.int .i64 a0.fShape.fBox.fX1), .v (.int .i64 a0.fShape.fBox.fY1), .v (.int .i64 a0.fLabel.fLayer), .v (.int .i64 a0.fLabel.fAt.fX), .v (.int .i64 a0.fLabel.fAt.fY), .v (.string a0.fLabel.fName), .v (.int .i64 a0.fInstance.fCell), .v (.int .i64 a0.fInstance.fPlace.fOrientation), .v (.int .i64 a0.fInstance.fPlace.fX), .v (.int .i64 a0.fInstance.fPlace.fY), .v (.int .i64 a0.fInstance.fColumns), .v (.int .i64 a0.fInstance.fRows), .v (.int .i64 a0.fInstance.fStepX), .v (.int .i64 a0.fInstance.fStepY)]] [] (.c (.v (.bool r))) [] true := by
 refine Fun.of_wp (oneOf [1, 7, 10, 13, 22, 100069, 100079]) tok mixed Try.func117 (by kernel_rfl) rfl Try.ntmps117 rfl trivial (fun _ => ⟨trivial, trivial⟩) ?_
 unfold F_impl_IsValidEdit at h
 have hf_impl_IsName := @run_impl_IsName
 have hf_impl_validInstance := @run_impl_validInstance
 have hf_impl_validLabel := @run_impl_validLabel
 have hf_impl_validShape := @run_impl_validShape
 have hf_impl_within := @run_impl_within
 generalize hLEN : @len = LEN at *
 generalize hGD : @gd = GD at *
 generalize hA : std = A at *
 generalize hP : Try.prog = P at *
 cbv
 replace h := of_bind h
 obtain ⟨y1, hy2, h⟩ := h
 obtain ⟨S5, hS6⟩ : ∃ S, S = (sparse 98 [(1, .c (.ptr 64 0)), (13, .c (.v (.bool y1)))] [(64, .var [.v (.int .i64 a0.fKind), .v (.int .i64 a0.fCell), .v (.int .i64 a0.fIndex), .v (.string a0.fName), .v (.int .i64 a0.fShape.fLayer), .v (.int .i64 a0.fShape.fBox.fX0), .v (.int .i64 a0.fShape.fBox.fY0), .v (.int .i64 a0.fShape.fBox.fX1), .v (.int .i64 a0.fShape.fBox.fY1), .v (.int .i64 a0.fLabel.fLayer), .v (.int .i64 a0.fLabel.fAt.fX), .v (.int .i64 a0.fLabel.fAt.fY), .v (.string a0.fLabel.fName), .v (.int .i64 a0.fInstance.fCell), .v (.int .i64 a0.fInstance.fPlace.fOrientation), .v (.int .i64 a0.fInstance.fPlace.fX), .v (.int .i64 a0.fInstance.fPlace.fY), .v (.int .i64 a0.fInstance.fColumns), .v (.int .i64 a0.fInstance.fRows), .v (.int .i64 a0.fInstance.fStepX), .v (.int .i64 a0.fInstance.fStepY)])]) := ⟨_, rfl⟩
 refine ⟨S5, ?_, ?_⟩
 ·clear h
  have h := hy2
  clear hy2
  cbv
  replace h := of_bind h
  obtain ⟨y8, hy9, h⟩ := h
  refine ⟨{ args := [.c (.v (.int .i64 a0.fCell)), .c (.v (.int .i64 0)), .c (.v (.int .i64 8))], o0 := [], r := .c (.v (.bool y8)), o1 := [], fl := true, σ := [], τ := [] }, hf_impl_within _ _ _ _ hy9, ⟨les_cons (lR _) (les_cons (lR _) (les_cons (lR _) (les_nil))), trivial, rfl, rfl, rfl, rfl, trivial, rfl⟩, ?_⟩
  cbv
  refine fork (fun b12 => ?_) (fun b12 => ?_)
  ·replace h := of_br_t b12 h
   cbv
   injection h with h
   subst h
   subst hS6
   show St.le _ _
   exact le_sparse rfl ⟨lR _, lR _, trivial⟩ ⟨rfl, trivial⟩ rfl
  ·replace h := of_br_f b12 h
   cbv
   replace h := of_bind h
   obtain ⟨y10, hy11, h⟩ := h
   refine ⟨{ args := [.c (.v (.int .i64 a0.fIndex)), .c (.v (.int .i64 0)), .c (.v (.int .i64 24))], o0 := [], r := .c (.v (.bool y10)), o1 := [], fl := true, σ := [], τ := [] }, hf_impl_within _ _ _ _ hy11, ⟨les_cons (lR _) (les_cons (lR _) (les_cons (lR _) (les_nil))), trivial, rfl, rfl, rfl, rfl, trivial, rfl⟩, ?_⟩
   cbv
   injection h with h
   subst h
   subst hS6
   show St.le _ _
   exact le_sparse rfl ⟨lR _, lR _, trivial⟩ ⟨rfl, trivial⟩ rfl
 ·clear hy2
  subst hS6
  replace h := of_let h
  obtain ⟨w7, hw7, h⟩ := h
  have hw7 : w7 = y1 := hw7
  subst hw7
  cbv
  refine fork (fun b110 => ?_) (fun b110 => ?_)
  ·replace h := of_br_t b110 h
   cbv
   injection h with h
   subst h
   refine ⟨(sparse 98 [(2, .c (.v (.bool false)))] []), ?_, ?_⟩
   ·exact le_sparse rfl ⟨lR _, trivial⟩ trivial rfl
   ·exact ⟨lR _, trivial, rfl⟩
  ·replace h := of_br_f b110 h
   cbv
   refine fork (fun b109 => ?_) (fun b109 => ?_)
   ·replace h := of_br_t b109 h
    cbv
    replace h := of_bind h
    obtain ⟨y13, hy14, h⟩ := h
    obtain ⟨S17, hS18⟩ : ∃ S, S = (sparse 98 [(2, .c (.v (.bool y13)))] []) := ⟨_, rfl⟩
    refine ⟨S17, ?_, ?_⟩
    ·clear h
     have h := hy14
     clear hy14
     cbv
     refine fork (fun b22 => ?_) (fun b22 => ?_)
     ·replace h := of_br_t b22 h
      cbv
      replace h := of_bind h
      obtain ⟨y20, hy21, h⟩ := h
      refine ⟨{ args := [.agg [.v (.int .i64 a0.fShape.fLayer), .v (.int .i64 a0.fShape.fBox.fX0), .v (.int .i64 a0.fShape.fBox.fY0), .v (.int .i64 a0.fShape.fBox.fX1), .v (.int .i64 a0.fShape.fBox.fY1)]], o0 := [], r := .c (.v (.bool y20)), o1 := [], fl := true, σ := [], τ := [] }, hf_impl_validShape _ _ hy21, ⟨les_cons (lR _) (les_nil), trivial, rfl, rfl, rfl, rfl, trivial, rfl⟩, ?_⟩
      cbv
      injection h with h
      subst h
      subst hS18
      show St.le _ _
      exact le_sparse rfl ⟨lR _, trivial⟩ trivial rfl
     ·replace h := of_br_f b22 h
      cbv
      injection h with h
      subst h
      subst hS18
      show St.le _ _
      exact le_sparse rfl ⟨lR _, trivial⟩ trivial rfl
    ·clear hy14
     subst hS18
     replace h := of_let h
     obtain ⟨w19, hw19, h⟩ := h
     have hw19 : w19 = y13 := hw19
     subst hw19
     cbv
     injection h with h
     subst h
     refine ⟨(sparse 98 [(2, .c (.v (.bool w19)))] []), ?_, ?_⟩
     ·exact le_sparse rfl ⟨lR _, trivial⟩ trivial rfl
     ·exact ⟨lR _, trivial, rfl⟩
   ·replace h := of_br_f b109 h
    cbv
    refine fork (fun b108 => ?_) (fun b108 => ?_)
    ·replace h := of_br_t b108 h
     cbv
     replace h := of_bind h
     obtain ⟨y23, hy24, h⟩ := h
     obtain ⟨S27, hS28⟩ : ∃ S, S = (sparse 98 [(2, .c (.v (.bool y23)))] []) := ⟨_, rfl⟩
     refine ⟨S27, ?_, ?_⟩
     ·clear h
      have h := hy24
      clear hy24
      cbv
      refine fork (fun b32 => ?_) (fun b32 => ?_)
      ·replace h := of_br_t b32 h
       cbv
       replace h := of_bind h
       obtain ⟨y30, hy31, h⟩ := h
       refine ⟨{ args := [.agg [.v (.int .i64 a0.fLabel.fLayer), .v (.int .i64 a0.fLabel.fAt.fX), .v (.int .i64 a0.fLabel.fAt.fY), .v (.string a0.fLabel.fName)]], o0 := [], r := .c (.v (.bool y30)), o1 := [], fl := true, σ := [], τ := [] }, hf_impl_validLabel _ _ hy31, ⟨les_cons (lR _) (les_nil), trivial, rfl, rfl, rfl, rfl, trivial, rfl⟩, ?_⟩
       cbv
       injection h with h
       subst h
       subst hS28
       show St.le _ _
       exact le_sparse rfl ⟨lR _, trivial⟩ trivial rfl
      ·replace h := of_br_f b32 h
       cbv
       injection h with h
       subst h
       subst hS28
       show St.le _ _
       exact le_sparse rfl ⟨lR _, trivial⟩ trivial rfl
     ·clear hy24
      subst hS28
      replace h := of_let h
      obtain ⟨w29, hw29, h⟩ := h
      have hw29 : w29 = y23 := hw29
      subst hw29
      cbv
      injection h with h
      subst h
      refine ⟨(sparse 98 [(2, .c (.v (.bool w29)))] []), ?_, ?_⟩
      ·exact le_sparse rfl ⟨lR _, trivial⟩ trivial rfl
      ·exact ⟨lR _, trivial, rfl⟩
    ·replace h := of_br_f b108 h
     cbv
     refine fork (fun b107 => ?_) (fun b107 => ?_)
     ·replace h := of_br_t b107 h
      cbv
      replace h := of_bind h
      obtain ⟨y33, hy34, h⟩ := h
      obtain ⟨S37, hS38⟩ : ∃ S, S = (sparse 98 [(2, .c (.v (.bool y33)))] []) := ⟨_, rfl⟩
      refine ⟨S37, ?_, ?_⟩
      ·clear h
       have h := hy34
       clear hy34
       cbv
       refine fork (fun b42 => ?_) (fun b42 => ?_)
       ·replace h := of_br_t b42 h
        cbv
        replace h := of_bind h
        obtain ⟨y40, hy41, h⟩ := h
        refine ⟨{ args := [.agg [.v (.int .i64 a0.fInstance.fCell), .v (.int .i64 a0.fInstance.fPlace.fOrientation), .v (.int .i64 a0.fInstance.fPlace.fX), .v (.int .i64 a0.fInstance.fPlace.fY), .v (.int .i64 a0.fInstance.fColumns), .v (.int .i64 a0.fInstance.fRows), .v (.int .i64 a0.fInstance.fStepX), .v (.int .i64 a0.fInstance.fStepY)], .c (.v (.int .i64 8))], o0 := [], r := .c (.v (.bool y40)), o1 := [], fl := true, σ := [], τ := [] }, hf_impl_validInstance _ _ _ hy41, ⟨les_cons (lR _) (les_cons (lR _) (les_nil)), trivial, rfl, rfl, rfl, rfl, trivial, rfl⟩, ?_⟩
        cbv
        injection h with h
        subst h
        subst hS38
        show St.le _ _
        exact le_sparse rfl ⟨lR _, trivial⟩ trivial rfl
       ·replace h := of_br_f b42 h
        cbv
        injection h with h
        subst h
        subst hS38
        show St.le _ _
        exact le_sparse rfl ⟨lR _, trivial⟩ trivial rfl
      ·clear hy34
       subst hS38
       replace h := of_let h
       obtain ⟨w39, hw39, h⟩ := h
       have hw39 : w39 = y33 := hw39
       subst hw39
       cbv
       injection h with h
       subst h
       refine ⟨(sparse 98 [(2, .c (.v (.bool w39)))] []), ?_, ?_⟩
       ·exact le_sparse rfl ⟨lR _, trivial⟩ trivial rfl
       ·exact ⟨lR _, trivial, rfl⟩
     ·replace h := of_br_f b107 h
      cbv
      replace h := of_bind h
      obtain ⟨y43, hy44, h⟩ := h
      obtain ⟨S47, hS48⟩ : ∃ S, S = some (sparse 98 [(1, .c (.ptr 64 0)), (3, .c (.ptr 192 0)), (20, .c (.v (.int .i64 a0.fKind))), (69, .c (.v (.bool y43)))] [(64, .var [.v (.int .i64 a0.fKind), .v (.int .i64 a0.fCell), .v (.int .i64 a0.fIndex), .v (.string a0.fName), .v (.int .i64 a0.fShape.fLayer), .v (.int .i64 a0.fShape.fBox.fX0), .v (.int .i64 a0.fShape.fBox.fY0), .v (.int .i64 a0.fShape.fBox.fX1), .v (.int .i64 a0.fShape.fBox.fY1), .v (.int .i64 a0.fLabel.fLayer), .v (.int .i64 a0.fLabel.fAt.fX), .v (.int .i64 a0.fLabel.fAt.fY), .v (.string a0.fLabel.fName), .v (.int .i64 a0.fInstance.fCell), .v (.int .i64 a0.fInstance.fPlace.fOrientation), .v (.int .i64 a0.fInstance.fPlace.fX), .v (.int .i64 a0.fInstance.fPlace.fY), .v (.int .i64 a0.fInstance.fColumns), .v (.int .i64 a0.fInstance.fRows), .v (.int .i64 a0.fInstance.fStepX), .v (.int .i64 a0.fInstance.fStepY)]), (192, .var [.v (.int .i64 a0.fKind), .v (.int .i64 a0.fCell), .v (.int .i64 0), .v (.string (ByteArray.mk #[])), .v (.int .i64 0), .v (.int .i64 0), .v (.int .i64 0), .v (.int .i64 0), .v (.int .i64 0), .v (.int .i64 0), .v (.int .i64 0), .v (.int .i64 0), .v (.string (ByteArray.mk #[])), .v (.int .i64 0), .v (.int .i64 0), .v (.int .i64 0), .v (.int .i64 0), .v (.int .i64 0), .v (.int .i64 0), .v (.int .i64 0), .v (.int .i64 0)])]) := ⟨_, rfl⟩
      refine ⟨S47, ?_, ?_⟩
      ·clear h
       have h := hy44
       clear hy44
       cbv
       refine fork (fun b58 => ?_) (fun b58 => ?_)
       ·replace h := of_br_t b58 h
        cbv
        injection h with h
        subst h
        subst hS48
        show St.le _ _
        exact le_sparse rfl ⟨lR _, lR _, lR _, lR _, trivial⟩ ⟨rfl, rfl, trivial⟩ rfl
       ·replace h := of_br_f b58 h
        cbv
        replace h := of_bind h
        obtain ⟨y50, hy51, h⟩ := h
        obtain ⟨S54, hS55⟩ : ∃ S, S = some (sparse 98 [(1, .c (.ptr 64 0)), (3, .c (.ptr 192 0)), (20, .c (.v (.int .i64 a0.fKind))), (69, .c (.v (.bool y50)))] [(64, .var [.v (.int .i64 a0.fKind), .v (.int .i64 a0.fCell), .v (.int .i64 a0.fIndex), .v (.string a0.fName), .v (.int .i64 a0.fShape.fLayer), .v (.int .i64 a0.fShape.fBox.fX0), .v (.int .i64 a0.fShape.fBox.fY0), .v (.int .i64 a0.fShape.fBox.fX1), .v (.int .i64 a0.fShape.fBox.fY1), .v (.int .i64 a0.fLabel.fLayer), .v (.int .i64 a0.fLabel.fAt.fX), .v (.int .i64 a0.fLabel.fAt.fY), .v (.string a0.fLabel.fName), .v (.int .i64 a0.fInstance.fCell), .v (.int .i64 a0.fInstance.fPlace.fOrientation), .v (.int .i64 a0.fInstance.fPlace.fX), .v (.int .i64 a0.fInstance.fPlace.fY), .v (.int .i64 a0.fInstance.fColumns), .v (.int .i64 a0.fInstance.fRows), .v (.int .i64 a0.fInstance.fStepX), .v (.int .i64 a0.fInstance.fStepY)]), (192, .var [.v (.int .i64 a0.fKind), .v (.int .i64 a0.fCell), .v (.int .i64 0), .v (.string (ByteArray.mk #[])), .v (.int .i64 0), .v (.int .i64 0), .v (.int .i64 0), .v (.int .i64 0), .v (.int .i64 0), .v (.int .i64 0), .v (.int .i64 0), .v (.int .i64 0), .v (.string (ByteArray.mk #[])), .v (.int .i64 0), .v (.int .i64 0), .v (.int .i64 0), .v (.int .i64 0), .v (.int .i64 0), .v (.int .i64 0), .v (.int .i64 0), .v (.int .i64 0)])]) := ⟨_, rfl⟩
        refine ⟨S54, ?_, ?_⟩
        ·clear h
         have h := hy51
         clear hy51
         cbv
         refine fork (fun b57 => ?_) (fun b57 => ?_)
         ·replace h := of_br_t b57 h
          cbv
          injection h with h
          subst h
          subst hS55
          show St.le _ _
          exact le_sparse rfl ⟨lR _, lR _, lR _, lR _, trivial⟩ ⟨rfl, rfl, trivial⟩ rfl
         ·replace h := of_br_f b57 h
          cbv
          injection h with h
          subst h
          subst hS55
          show St.le _ _
          exact le_sparse rfl ⟨lR _, lR _, lR _, lR _, trivial⟩ ⟨rfl, rfl, trivial⟩ rfl
        ·clear hy51
         subst hS55
         replace h := of_let h
         obtain ⟨w56, hw56, h⟩ := h
         have hw56 : w56 = y50 := hw56
         subst hw56
         cbv
         injection h with h
         subst h
         subst hS48
         show St.le _ _
         exact le_sparse rfl ⟨lR _, lR _, lR _, lR _, trivial⟩ ⟨rfl, rfl, trivial⟩ rfl
      ·clear hy44
       subst hS48
       replace h := of_let h
       obtain ⟨w49, hw49, h⟩ := h
       have hw49 : w49 = y43 := hw49
       subst hw49
       cbv
       replace h := of_bind h
       obtain ⟨z61, hy60, hz62⟩ := h
       obtain ⟨S63, hS64⟩ : ∃ S, S = (match z61 with | .inl _ => none | .inr y59 => some (sparse 98 [] [])) := ⟨_, rfl⟩
       refine ⟨S63, ?_, ?_⟩
       ·have h := hy60
        clear hy60
        cbv
        refine fork (fun b106 => ?_) (fun b106 => ?_)
        ·replace h := of_br_t b106 h
         cbv
         replace h := of_bind h
         obtain ⟨r65, h66, he67⟩ := h
         injection he67 with he67
         subst he67
         injection hz62 with hz62
         subst hz62
         have h := h66
         injection h with h
         subst h
         refine ⟨(sparse 98 [(2, .c (.v (.bool (A.band (A.eq a0.fKind a0.fKind) (A.band (A.eq a0.fCell a0.fCell) (A.band (A.eq a0.fIndex a0.fIndex) (A.band (A.seq (ByteArray.mk #[]) a0.fName) (A.band (A.band (A.eq 0 a0.fShape.fLayer) (A.band (A.band (A.eq 0 a0.fShape.fBox.fX0) (A.band (A.eq 0 a0.fShape.fBox.fY0) (A.band (A.eq 0 a0.fShape.fBox.fX1) (A.band (A.eq 0 a0.fShape.fBox.fY1) (true))))) (true))) (A.band (A.band (A.eq 0 a0.fLabel.fLayer) (A.band (A.band (A.eq 0 a0.fLabel.fAt.fX) (A.band (A.eq 0 a0.fLabel.fAt.fY) (true))) (A.band (A.seq (ByteArray.mk #[]) a0.fLabel.fName) (true)))) (A.band (A.band (A.eq 0 a0.fInstance.fCell) (A.band (A.band (A.eq 0 a0.fInstance.fPlace.fOrientation) (A.band (A.eq 0 a0.fInstance.fPlace.fX) (A.band (A.eq 0 a0.fInstance.fPlace.fY) (true)))) (A.band (A.eq 0 a0.fInstance.fColumns) (A.band (A.eq 0 a0.fInstance.fRows) (A.band (A.eq 0 a0.fInstance.fStepX) (A.band (A.eq 0 a0.fInstance.fStepY) (true))))))) (true)))))))))))] []), ?_, ?_⟩
         ·exact le_sparse rfl ⟨lR _, trivial⟩ trivial rfl
         ·exact ⟨lR _, trivial, rfl⟩
        ·replace h := of_br_f b106 h
         cbv
         replace h := of_bind h
         obtain ⟨y68, hy69, h⟩ := h
         obtain ⟨S72, hS73⟩ : ∃ S, S = some (sparse 98 [(1, .c (.ptr 64 0)), (3, .c (.ptr 192 0)), (20, .c (.v (.int .i64 a0.fKind))), (79, .c (.v (.bool y68)))] [(64, .var [.v (.int .i64 a0.fKind), .v (.int .i64 a0.fCell), .v (.int .i64 a0.fIndex), .v (.string a0.fName), .v (.int .i64 a0.fShape.fLayer), .v (.int .i64 a0.fShape.fBox.fX0), .v (.int .i64 a0.fShape.fBox.fY0), .v (.int .i64 a0.fShape.fBox.fX1), .v (.int .i64 a0.fShape.fBox.fY1), .v (.int .i64 a0.fLabel.fLayer), .v (.int .i64 a0.fLabel.fAt.fX), .v (.int .i64 a0.fLabel.fAt.fY), .v (.string a0.fLabel.fName), .v (.int .i64 a0.fInstance.fCell), .v (.int .i64 a0.fInstance.fPlace.fOrientation), .v (.int .i64 a0.fInstance.fPlace.fX), .v (.int .i64 a0.fInstance.fPlace.fY), .v (.int .i64 a0.fInstance.fColumns), .v (.int .i64 a0.fInstance.fRows), .v (.int .i64 a0.fInstance.fStepX), .v (.int .i64 a0.fInstance.fStepY)]), (192, .var [.v (.int .i64 a0.fKind), .v (.int .i64 a0.fCell), .v (.int .i64 0), .v (.string (ByteArray.mk #[])), .v (.int .i64 0), .v (.int .i64 0), .v (.int .i64 0), .v (.int .i64 0), .v (.int .i64 0), .v (.int .i64 0), .v (.int .i64 0), .v (.int .i64 0), .v (.string (ByteArray.mk #[])), .v (.int .i64 0), .v (.int .i64 0), .v (.int .i64 0), .v (.int .i64 0), .v (.int .i64 0), .v (.int .i64 0), .v (.int .i64 0), .v (.int .i64 0)])]) := ⟨_, rfl⟩
         refine ⟨S72, ?_, ?_⟩
         ·clear h
          have h := hy69
          clear hy69
          cbv
          refine fork (fun b75 => ?_) (fun b75 => ?_)
          ·replace h := of_br_t b75 h
           cbv
           injection h with h
           subst h
           subst hS73
           show St.le _ _
           exact le_sparse rfl ⟨lR _, lR _, lR _, lR _, trivial⟩ ⟨rfl, rfl, trivial⟩ rfl
          ·replace h := of_br_f b75 h
           cbv
           injection h with h
           subst h
           subst hS73
           show St.le _ _
           exact le_sparse rfl ⟨lR _, lR _, lR _, lR _, trivial⟩ ⟨rfl, rfl, trivial⟩ rfl
         ·clear hy69
          subst hS73
          replace h := of_let h
          obtain ⟨w74, hw74, h⟩ := h
          have hw74 : w74 = y68 := hw74
          subst hw74
          cbv
          replace h := of_bind h
          obtain ⟨z78, hy77, hz79⟩ := h
          obtain ⟨S80, hS81⟩ : ∃ S, S = (match z78 with | .inl _ => none | .inr y76 => some (sparse 98 [] [])) := ⟨_, rfl⟩
          refine ⟨S80, ?_, ?_⟩
          ·have h := hy77
           clear hy77
           cbv
           refine fork (fun b105 => ?_) (fun b105 => ?_)
           ·replace h := of_br_t b105 h
            cbv
            replace h := of_bind h
            obtain ⟨y82, hy83, h⟩ := h
            obtain ⟨S86, hS87⟩ : ∃ S, S = (sparse 98 [(2, .c (.v (.bool y82)))] []) := ⟨_, rfl⟩
            refine ⟨S86, ?_, ?_⟩
            ·clear h
             have h := hy83
             clear hy83
             cbv
             refine fork (fun b91 => ?_) (fun b91 => ?_)
             ·replace h := of_br_t b91 h
              cbv
              replace h := of_bind h
              obtain ⟨y89, hy90, h⟩ := h
              refine ⟨{ args := [.c (.v (.string a0.fName))], o0 := [], r := .c (.v (.bool y89)), o1 := [], fl := true, σ := [], τ := [] }, hf_impl_IsName _ _ hy90, ⟨les_cons (lR _) (les_nil), trivial, rfl, rfl, rfl, rfl, trivial, rfl⟩, ?_⟩
              cbv
              injection h with h
              subst h
              subst hS87
              show St.le _ _
              exact le_sparse rfl ⟨lR _, trivial⟩ trivial rfl
             ·replace h := of_br_f b91 h
              cbv
              injection h with h
              subst h
              subst hS87
              show St.le _ _
              exact le_sparse rfl ⟨lR _, trivial⟩ trivial rfl
            ·clear hy83
             subst hS87
             replace h := of_let h
             obtain ⟨w88, hw88, h⟩ := h
             have hw88 : w88 = y82 := hw88
             subst hw88
             cbv
             replace h := of_bind h
             obtain ⟨r95, h96, he97⟩ := h
             injection he97 with he97
             subst he97
             injection hz79 with hz79
             subst hz79
             have h := h96
             replace h := of_bind h
             obtain ⟨r92, h93, he94⟩ := h
             injection he94 with he94
             subst he94
             injection hz62 with hz62
             subst hz62
             have h := h93
             injection h with h
             subst h
             refine ⟨(sparse 98 [(2, .c (.v (.bool w88)))] []), ?_, ?_⟩
             ·exact le_sparse rfl ⟨lR _, trivial⟩ trivial rfl
             ·exact ⟨lR _, trivial, rfl⟩
           ·replace h := of_br_f b105 h
            cbv
            refine fork (fun b104 => ?_) (fun b104 => ?_)
            ·replace h := of_br_t b104 h
             cbv
             replace h := of_bind h
             obtain ⟨r101, h102, he103⟩ := h
             injection he103 with he103
             subst he103
             injection hz79 with hz79
             subst hz79
             have h := h102
             replace h := of_bind h
             obtain ⟨r98, h99, he100⟩ := h
             injection he100 with he100
             subst he100
             injection hz62 with hz62
             subst hz62
             have h := h99
             injection h with h
             subst h
             refine ⟨(sparse 98 [(2, .c (.v (.bool (A.band (A.eq a0.fKind a0.fKind) (A.band (A.eq a0.fCell a0.fCell) (A.band (A.eq 0 a0.fIndex) (A.band (A.seq (ByteArray.mk #[]) a0.fName) (A.band (A.band (A.eq 0 a0.fShape.fLayer) (A.band (A.band (A.eq 0 a0.fShape.fBox.fX0) (A.band (A.eq 0 a0.fShape.fBox.fY0) (A.band (A.eq 0 a0.fShape.fBox.fX1) (A.band (A.eq 0 a0.fShape.fBox.fY1) (true))))) (true))) (A.band (A.band (A.eq 0 a0.fLabel.fLayer) (A.band (A.band (A.eq 0 a0.fLabel.fAt.fX) (A.band (A.eq 0 a0.fLabel.fAt.fY) (true))) (A.band (A.seq (ByteArray.mk #[]) a0.fLabel.fName) (true)))) (A.band (A.band (A.eq 0 a0.fInstance.fCell) (A.band (A.band (A.eq 0 a0.fInstance.fPlace.fOrientation) (A.band (A.eq 0 a0.fInstance.fPlace.fX) (A.band (A.eq 0 a0.fInstance.fPlace.fY) (true)))) (A.band (A.eq 0 a0.fInstance.fColumns) (A.band (A.eq 0 a0.fInstance.fRows) (A.band (A.eq 0 a0.fInstance.fStepX) (A.band (A.eq 0 a0.fInstance.fStepY) (true))))))) (true)))))))))))] []), ?_, ?_⟩
             ·exact le_sparse rfl ⟨lR _, trivial⟩ trivial rfl
             ·exact ⟨lR _, trivial, rfl⟩
            ·replace h := of_br_f b104 h
             cbv
             injection h with h
             subst h
             subst hS81
             show St.le _ _
             exact le_sparse rfl trivial trivial rfl
          ·clear hy77
           subst hS81
           rcases z78 with _ | y76
           ·trivial
           ·have h := hz79
            clear hz79
            cbv
            injection h with h
            subst h
            subst hS64
            show St.le _ _
            exact le_sparse rfl trivial trivial rfl
       ·clear hy60
        subst hS64
        rcases z61 with _ | y59
        ·trivial
        ·have h := hz62
         clear hz62
         cbv
         injection h with h
         subst h
         refine ⟨(sparse 98 [(2, .c (.v (.bool false)))] []), ?_, ?_⟩
         ·exact le_sparse rfl ⟨lR _, trivial⟩ trivial rfl
         ·exact ⟨lR _, trivial, rfl⟩

/-- impl.insertCode -/
noncomputable def F_impl_insertCode (a0 : Int) (a1 : Int) (a2 : Int) : Option (Int) :=
 br (std.lt a1 a0)
 (some 2)
 (br (std.eq a1 a2)
 (some 3)
 (some 0))
theorem run_impl_insertCode (a0 : Int) (a1 : Int) (a2 : Int) (r : Int) (h : F_impl_insertCode a0 a1 a2 = some r) : Fun Try.prog 119 [.c (.v (.int .i64 a0)), .c (.v (.int .i64 a1)), .c (.v (.int .i64 a2))] [] (.c (.v (.int .i64 r))) [] true := by
 refine Fun.of_wp (oneOf []) tok mixed Try.func119 (by kernel_rfl) rfl Try.ntmps119 rfl trivial (fun _ => ⟨trivial, trivial⟩) ?_
 unfold F_impl_insertCode at h
 generalize hLEN : @len = LEN at *
 generalize hGD : @gd = GD at *
 generalize hA : std = A at *
 generalize hP : Try.prog = P at *
 cbv
 refine fork (fun b2 => ?_) (fun b2 => ?_)
 ·replace h := of_br_t b2 h
  cbv
  injection h with h
  subst h
  refine ⟨(sparse 15 [(6, .c (.v (.int .i64 2)))] []), ?_, ?_⟩
  ·exact le_sparse rfl ⟨lR _, trivial⟩ trivial rfl
  ·exact ⟨lR _, trivial, rfl⟩
 ·replace h := of_br_f b2 h
  cbv
  refine fork (fun b1 => ?_) (fun b1 => ?_)
  ·replace h := of_br_t b1 h
   cbv
   injection h with h
   subst h
   refine ⟨(sparse 15 [(6, .c (.v (.int .i64 3)))] []), ?_, ?_⟩
   ·exact le_sparse rfl ⟨lR _, trivial⟩ trivial rfl
   ·exact ⟨lR _, trivial, rfl⟩
  ·replace h := of_br_f b1 h
   cbv
   injection h with h
   subst h
   refine ⟨(sparse 15 [(6, .c (.v (.int .i64 0)))] []), ?_, ?_⟩
   ·exact le_sparse rfl ⟨lR _, trivial⟩ trivial rfl
   ·exact ⟨lR _, trivial, rfl⟩

/-- impl.deleteCode -/
noncomputable def F_impl_deleteCode (a0 : Int) (a1 : Int) : Option (Int) :=
 br (std.le a1 a0)
 (some 5)
 (some 0)
theorem run_impl_deleteCode (a0 : Int) (a1 : Int) (r : Int) (h : F_impl_deleteCode a0 a1 = some r) : Fun Try.prog 120 [.c (.v (.int .i64 a0)), .c (.v (.int .i64 a1))] [] (.c (.v (.int .i64 r))) [] true := by
 refine Fun.of_wp (oneOf []) tok mixed Try.func120 (by kernel_rfl) rfl Try.ntmps120 rfl trivial (fun _ => ⟨trivial, trivial⟩) ?_
 unfold F_impl_deleteCode at h
 generalize hLEN : @len = LEN at *
 generalize hGD : @gd = GD at *
 generalize hA : std = A at *
 generalize hP : Try.prog = P at *
 cbv
 refine fork (fun b1 => ?_) (fun b1 => ?_)
 ·replace h := of_br_t b1 h
  cbv
  injection h with h
  subst h
  refine ⟨(sparse 8 [(4, .c (.v (.int .i64 5)))] []), ?_, ?_⟩
  ·exact le_sparse rfl ⟨lR _, trivial⟩ trivial rfl
  ·exact ⟨lR _, trivial, rfl⟩
 ·replace h := of_br_f b1 h
  cbv
  injection h with h
  subst h
  refine ⟨(sparse 8 [(4, .c (.v (.int .i64 0)))] []), ?_, ?_⟩
  ·exact le_sparse rfl ⟨lR _, trivial⟩ trivial rfl
  ·exact ⟨lR _, trivial, rfl⟩

/-- impl.hasCell -/
noncomputable def F_impl_hasCell (a0 : TLibrary) (a1 : Int) : Option (Bool) :=
 ((
    (F_impl_IsValidLibrary a0).bind fun y8 =>
    br y8
    ((F_impl_within a1 0 (std.sub .i64 (std.ofN (len a0.fCells)) 1)).bind fun y10 =>
    some y10)
    (some false)
  ) : Option (Bool)).bind fun y1 =>
 letO y1 fun w7 =>
 some w7
theorem run_impl_hasCell (a0 : TLibrary) (a1 : Int) (r : Bool) (h : F_impl_hasCell a0 a1 = some r) : Fun Try.prog 49 [.agg [.bs (len a0.fCells) 4 (row gd (encCell len gd) a0.fCells)], .c (.v (.int .i64 a1))] [] (.c (.v (.bool r))) [] true := by
 refine Fun.of_wp (oneOf [1]) tok mixed Try.func49 (by kernel_rfl) rfl Try.ntmps49 rfl trivial (fun _ => ⟨trivial, trivial⟩) ?_
 unfold F_impl_hasCell at h
 have hf_impl_IsValidLibrary := @run_impl_IsValidLibrary
 have hf_impl_within := @run_impl_within
 generalize hLEN : @len = LEN at *
 generalize hGD : @gd = GD at *
 generalize hA : std = A at *
 generalize hP : Try.prog = P at *
 cbv
 replace h := of_bind h
 obtain ⟨y1, hy2, h⟩ := h
 obtain ⟨S5, hS6⟩ : ∃ S, S = (sparse 15 [(4, .c (.v (.bool y1)))] []) := ⟨_, rfl⟩
 refine ⟨S5, ?_, ?_⟩
 ·clear h
  have h := hy2
  clear hy2
  cbv
  replace h := of_bind h
  obtain ⟨y8, hy9, h⟩ := h
  refine ⟨{ args := [.agg [.bs (LEN a0.fCells) 4 (row GD (encCell LEN GD) a0.fCells)]], o0 := [], r := .c (.v (.bool y8)), o1 := [], fl := true, σ := [], τ := [] }, hf_impl_IsValidLibrary _ _ hy9, ⟨les_cons (lR _) (les_nil), trivial, rfl, rfl, rfl, rfl, trivial, rfl⟩, ?_⟩
  cbv
  refine fork (fun b12 => ?_) (fun b12 => ?_)
  ·replace h := of_br_t b12 h
   cbv
   replace h := of_bind h
   obtain ⟨y10, hy11, h⟩ := h
   refine ⟨{ args := [.c (.v (.int .i64 a1)), .c (.v (.int .i64 0)), .c (.v (.int .i64 (A.sub .i64 (A.ofN (LEN a0.fCells)) 1)))], o0 := [], r := .c (.v (.bool y10)), o1 := [], fl := true, σ := [], τ := [] }, hf_impl_within _ _ _ _ hy11, ⟨les_cons (lR _) (les_cons (lR _) (les_cons (lR _) (les_nil))), trivial, rfl, rfl, rfl, rfl, trivial, rfl⟩, ?_⟩
   cbv
   injection h with h
   subst h
   subst hS6
   show St.le _ _
   exact le_sparse rfl ⟨lR _, trivial⟩ trivial rfl
  ·replace h := of_br_f b12 h
   cbv
   injection h with h
   subst h
   subst hS6
   show St.le _ _
   exact le_sparse rfl ⟨lR _, trivial⟩ trivial rfl
 ·clear hy2
  subst hS6
  replace h := of_let h
  obtain ⟨w7, hw7, h⟩ := h
  have hw7 : w7 = y1 := hw7
  subst hw7
  cbv
  injection h with h
  subst h
  refine ⟨(sparse 15 [(4, .c (.v (.bool w7)))] []), ?_, ?_⟩
  ·exact le_sparse rfl ⟨lR _, trivial⟩ trivial rfl
  ·exact ⟨lR _, trivial, rfl⟩

/-- impl.UsersOf$1 -/
noncomputable def F_impl_UsersOf_1_mbp (a0 : TInstance) (a1 : Int) : Option (Bool) :=
 some (std.eq a0.fCell a1)
theorem run_impl_UsersOf_1_mbp (a0 : TInstance) (a1 : Int) (r : Bool) (h : F_impl_UsersOf_1_mbp a0 a1 = some r) : Fun Try.prog 172 [.agg [.v (.int .i64 a0.fCell), .v (.int .i64 a0.fPlace.fOrientation), .v (.int .i64 a0.fPlace.fX), .v (.int .i64 a0.fPlace.fY), .v (.int .i64 a0.fColumns), .v (.int .i64 a0.fRows), .v (.int .i64 a0.fStepX), .v (.int .i64 a0.fStepY)], .c (.bp 1 (encI .i64 a1))] [] (.c (.v (.bool r))) [] true := by
 refine Fun.of_wp (oneOf []) tok mixed Try.func172 (by kernel_rfl) rfl Try.ntmps172 rfl trivial (fun _ => ⟨trivial, trivial⟩) ?_
 unfold F_impl_UsersOf_1_mbp at h
 generalize hLEN : @len = LEN at *
 generalize hGD : @gd = GD at *
 generalize hA : std = A at *
 generalize hP : Try.prog = P at *
 cbv
 injection h with h
 subst h
 refine ⟨(sparse 8 [(3, .c (.v (.bool (A.eq a0.fCell a1))))] []), ?_, ?_⟩
 ·exact le_sparse rfl ⟨lR _, trivial⟩ trivial rfl
 ·exact ⟨lR _, trivial, rfl⟩

noncomputable def L_slices_IndexFunc_Limpl_Instance_impl_Instance_mbFimpl_UsersOf_1p_x2 (a0 : List TInstance) (a1_0 : Int) : (Int) → Option ((Int) ⊕ ((Int) ⊕ (Unit))) := fun x2 =>
 letO x2 fun v1 =>
 br (std.lt v1 (std.ofN (len a0)))
 (req (std.inR v1 (len a0)) <|
 (F_impl_UsersOf_1_mbp (gd a0 (std.toN v1)) a1_0).bind fun y15 =>
 br y15
 (some (.inr (.inl v1)))
 (some (.inl (std.add .i64 v1 1))))
 (some (.inr (.inr ())))
/-- impl.Instance] -/
noncomputable def F_slices_IndexFunc_Limpl_Instance_impl_Instance_mbFimpl_UsersOf_1p (a0 : List TInstance) (a1_0 : Int) : Option (Int) :=
 (whileP (σ := Int) (ρ := (Int) ⊕ (Unit)) (L_slices_IndexFunc_Limpl_Instance_impl_Instance_mbFimpl_UsersOf_1p_x2 a0 a1_0) 0).bind fun y3 =>
 (match y3 with
  | .inl y3k0 => (
    letO y3k0 fun w19 =>
    some w19)
  | .inr y3m0 =>
    some (-1))
theorem run_slices_IndexFunc_Limpl_Instance_impl_Instance_mbFimpl_UsersOf_1p (a0 : List TInstance) (a1_0 : Int) (r : Int) (h : F_slices_IndexFunc_Limpl_Instance_impl_Instance_mbFimpl_UsersOf_1p a0 a1_0 = some r) : Fun Try.prog 214 [.c (.bs (len a0) 8 (row gd (encInstance) a0)), .c (.fn 172 1 fun j => ([.bp 1 (encI .i64 a1_0)] : List AC).getD j .junk)] [] (.c (.v (.int .i64 r))) [] true := by
 refine Fun.of_wp (oneOf []) tok mixed Try.func214 (by kernel_rfl) rfl Try.ntmps214 rfl trivial (fun _ => ⟨trivial, trivial⟩) ?_
 unfold F_slices_IndexFunc_Limpl_Instance_impl_Instance_mbFimpl_UsersOf_1p at h
 unfold L_slices_IndexFunc_Limpl_Instance_impl_Instance_mbFimpl_UsersOf_1p_x2 at h
 have hf_impl_UsersOf_1_mbp := @run_impl_UsersOf_1_mbp
 generalize hLEN : @len = LEN at *
 generalize hGD : @gd = GD at *
 generalize hA : std = A at *
 generalize hP : Try.prog = P at *
 cbv
 replace h := of_bind h
 obtain ⟨y3, hr4, hN5⟩ := h
 refine loop_cut hr4 (fun x => (sparse 19 [(0, .c (.bs (LEN a0) 8 (row GD (encInstance) a0))), (1, .c (.fn 172 1 fun j => ([.bp 1 (encI .i64 a1_0)] : List AC).getD j .junk)), (7, .c (.v (.int .i64 (A.ofN (LEN a0))))), (8, .c (.v (.int .i64 x)))] [])) ?_ (fun y e s => (match y with | .inl w => e = .ret ∧ s.le (sparse 19 [(4, .c (.v (.int .i64 w)))] []) | .inr w0 => (fun (w : Unit) => e = .exit 0 ∧ s.le (sparse 19 [] [])) w0)) ?_ ?_
 ·clear hr4 hN5
  show St.le _ _
  exact le_sparse rfl ⟨lR _, lR _, lR _, lR _, trivial⟩ trivial rfl
 ·clear hr4 hN5
  intro x z9 h K7 hK8 hY6
  replace h := of_let h
  obtain ⟨v1, hv1, h⟩ := h
  have hv1 : v1 = x := hv1
  subst hv1
  cbv
  refine fork (fun b18 => ?_) (fun b18 => ?_)
  ·replace h := of_br_t b18 h
   cbv
   replace h := of_req h
   obtain ⟨c14, h⟩ := h
   refine ⟨⟨c14, trivial⟩, ?_⟩
   replace h := of_bind h
   obtain ⟨y15, hy16, h⟩ := h
   refine ⟨{ args := [.agg [.v (.int .i64 (GD a0 (A.toN v1)).fCell), .v (.int .i64 (GD a0 (A.toN v1)).fPlace.fOrientation), .v (.int .i64 (GD a0 (A.toN v1)).fPlace.fX), .v (.int .i64 (GD a0 (A.toN v1)).fPlace.fY), .v (.int .i64 (GD a0 (A.toN v1)).fColumns), .v (.int .i64 (GD a0 (A.toN v1)).fRows), .v (.int .i64 (GD a0 (A.toN v1)).fStepX), .v (.int .i64 (GD a0 (A.toN v1)).fStepY)], .c (.bp 1 (encI .i64 a1_0))], o0 := [], r := .c (.v (.bool y15)), o1 := [], fl := true, σ := [], τ := [] }, hf_impl_UsersOf_1_mbp _ _ _ hy16, ⟨les_cons (lR _) (les_cons (le_bp (show 1 ≤ 1 from by decide) (by intro j hj; match j, hj with | 0, _ => exact rle_refl _ | (j_ + 1), h_ => exact absurd h_ (by omega))) (les_nil)), trivial, rfl, rfl, rfl, rfl, trivial, rfl⟩, ?_⟩
   cbv
   refine fork (fun b17 => ?_) (fun b17 => ?_)
   ·replace h := of_br_t b17 h
    cbv
    injection h with h
    refine hY6 _ h.symm _ _ (And.intro rfl ?_) (by intro hh; cases hh)
    exact le_sparse rfl ⟨lR _, trivial⟩ trivial rfl
   ·replace h := of_br_f b17 h
    cbv
    injection h with h
    refine hK8 _ h.symm _ ?_
    exact le_sparse rfl ⟨lR _, lR _, lR _, lR _, trivial⟩ trivial rfl
  ·replace h := of_br_f b18 h
   cbv
   injection h with h
   refine hY6 _ h.symm _ _ (And.intro rfl ?_) (by intro hh; cases hh)
   exact le_sparse rfl trivial trivial rfl
 ·clear hr4
  have h := hN5
  clear hN5
  intro e12 s13 q11 hne
  rcases y3 with y3k0 | y3m0
  ·replace h := h
   obtain ⟨rfl, q11⟩ := q11
   replace h := of_let h
   obtain ⟨w19, hw19, h⟩ := h
   have hw19 : w19 = y3k0 := hw19
   subst hw19
   cbv
   injection h with h
   subst h
   refine ⟨(sparse 19 [(4, .c (.v (.int .i64 w19)))] []), ?_, ?_⟩
   ·refine St.le_trans q11 ?_
    exact le_sparse rfl ⟨lR _, trivial⟩ trivial rfl
   ·exact ⟨lR _, trivial, rfl⟩
  ·obtain ⟨rfl, q11⟩ := q11
   cbv
   refine ⟨_, q11, ?_⟩
   cbv
   injection h with h
   subst h
   refine ⟨(sparse 19 [(4, .c (.v (.int .i64 (-1))))] []), ?_, ?_⟩
   ·exact le_sparse rfl ⟨lR _, trivial⟩ trivial rfl
   ·exact ⟨lR _, trivial, rfl⟩
/-- impl.Instance] -/
noncomputable def F_slices_ContainsFunc_Limpl_Instance_impl_Instance_mbFimpl_UsersOf_1p (a0 : List TInstance) (a1_0 : Int) : Option (Bool) :=
 (F_slices_IndexFunc_Limpl_Instance_impl_Instance_mbFimpl_UsersOf_1p a0 a1_0).bind fun y1 =>
 some (std.le 0 y1)
theorem run_slices_ContainsFunc_Limpl_Instance_impl_Instance_mbFimpl_UsersOf_1p (a0 : List TInstance) (a1_0 : Int) (r : Bool) (h : F_slices_ContainsFunc_Limpl_Instance_impl_Instance_mbFimpl_UsersOf_1p a0 a1_0 = some r) : Fun Try.prog 171 [.c (.bs (len a0) 8 (row gd (encInstance) a0)), .c (.fn 172 1 fun j => ([.bp 1 (encI .i64 a1_0)] : List AC).getD j .junk)] [] (.c (.v (.bool r))) [] true := by
 refine Fun.of_wp (oneOf []) tok mixed Try.func171 (by kernel_rfl) rfl Try.ntmps171 rfl trivial (fun _ => ⟨trivial, trivial⟩) ?_
 unfold F_slices_ContainsFunc_Limpl_Instance_impl_Instance_mbFimpl_UsersOf_1p at h
 have hf_slices_IndexFunc_Limpl_Instance_impl_Instance_mbFimpl_UsersOf_1p := @run_slices_IndexFunc_Limpl_Instance_impl_Instance_mbFimpl_UsersOf_1p
 generalize hLEN : @len = LEN at *
 generalize hGD : @gd = GD at *
 generalize hA : std = A at *
 generalize hP : Try.prog = P at *
 cbv
 replace h := of_bind h
 obtain ⟨y1, hy2, h⟩ := h
 refine ⟨{ args := [.c (.bs (LEN a0) 8 (row GD (encInstance) a0)), .c (.fn 172 1 fun j => ([.bp 1 (encI .i64 a1_0)] : List AC).getD j .junk)], o0 := [], r := .c (.v (.int .i64 y1)), o1 := [], fl := true, σ := [], τ := [] }, hf_slices_IndexFunc_Limpl_Instance_impl_Instance_mbFimpl_UsersOf_1p _ _ _ hy2, ⟨les_cons (lR _) (les_cons (le_fn (by intro j hj; match j, hj with | 0, _ => exact le_bp (show 1 ≤ 1 from by decide) (by intro j hj; match j, hj with | 0, _ => exact rle_refl _ | (j_ + 1), h_ => exact absurd h_ (by omega)) | (j_ + 1), h_ => exact absurd h_ (by omega))) (les_nil)), trivial, rfl, rfl, rfl, rfl, trivial, rfl⟩, ?_⟩
 cbv
 injection h with h
 subst h
 refine ⟨(sparse 9 [(4, .c (.v (.bool (A.le 0 y1))))] []), ?_, ?_⟩
 ·exact le_sparse rfl ⟨lR _, trivial⟩ trivial rfl
 ·exact ⟨lR _, trivial, rfl⟩

noncomputable def L_impl_UsersOf_x7 (a0 : TLibrary) (a1 : Int) : (Int × (List Int)) → Option ((Int × (List Int)) ⊕ (((List Int)))) := fun x7 =>
 letO x7.1 fun v5 =>
 letO x7.2 fun v6 =>
 br (std.lt v5 (std.ofN (len a0.fCells)))
 (req (std.inR v5 (len a0.fCells)) <|
 (F_slices_ContainsFunc_Limpl_Instance_impl_Instance_mbFimpl_UsersOf_1p (gd a0.fCells (std.toN v5)).fInstances a1).bind fun y20 =>
 ((
    br y20
    (letO ([v5] : List Int) fun l29 =>
    req (std.room (std.nadd (len v6) (len l29)) 8) <|
    letO (v6 ++ l29) fun l31 =>
    some l31)
    (some v6)
  ) : Option ((List Int))).bind fun y22 =>
 letO y22 fun w28 =>
 some (.inl (std.add .i64 v5 1, w28)))
 (some (.inr v6))
/-- impl.UsersOf -/
noncomputable def F_impl_UsersOf (a0 : TLibrary) (a1 : Int) : Option (List Int) :=
 (F_impl_hasCell (TLibrary.mk a0.fCells) a1).bind fun y1 =>
 br (!(y1))
 (some ([] : List Int))
 (letO ([] : List Int) fun l3 =>
 (whileP (σ := Int × (List Int)) (ρ := ((List Int))) (L_impl_UsersOf_x7 a0 a1) (0, l3)).bind fun y8 =>
 letO y8 fun y8k0 =>
 letO y8k0 fun w36 =>
 some w36)
theorem run_impl_UsersOf (a0 : TLibrary) (a1 : Int) (r : List Int) (h : F_impl_UsersOf a0 a1 = some r) : Fun Try.prog 121 [.agg [.bs (len a0.fCells) 4 (row gd (encCell len gd) a0.fCells)], .c (.v (.int .i64 a1))] [] (.c (.os 64000 0 (len r))) [(64000, .arr .rw [] (len r) 1 (row gd (encI .i64) r))] true := by
 refine Fun.of_wp (oneOf [100024]) tok mixed Try.func121 (by kernel_rfl) rfl Try.ntmps121 rfl trivial (fun _ => ⟨trivial, ⟨fun i _ j _ => val_flat (rfl), trivial⟩⟩) ?_
 unfold F_impl_UsersOf at h
 unfold L_impl_UsersOf_x7 at h
 have hf_impl_hasCell := @run_impl_hasCell
 have hf_slices_ContainsFunc_Limpl_Instance_impl_Instance_mbFimpl_UsersOf_1p := @run_slices_ContainsFunc_Limpl_Instance_impl_Instance_mbFimpl_UsersOf_1p
 generalize hLEN : @len = LEN at *
 generalize hGD : @gd = GD at *
 generalize hA : std = A at *
 generalize hP : Try.prog = P at *
 cbv
 replace h := of_bind h
 obtain ⟨y1, hy2, h⟩ := h
 refine ⟨{ args := [.agg [.bs (LEN a0.fCells) 4 (row GD (encCell LEN GD) a0.fCells)], .c (.v (.int .i64 a1))], o0 := [], r := .c (.v (.bool y1)), o1 := [], fl := true, σ := [], τ := [] }, hf_impl_hasCell _ _ _ hy2, ⟨les_cons (lR _) (les_cons (lR _) (les_nil)), trivial, rfl, rfl, rfl, rfl, trivial, rfl⟩, ?_⟩
 cbv
 refine fork (fun b37 => ?_) (fun b37 => ?_)
 ·replace h := of_br_t b37 h
  cbv
  injection h with h
  subst h
  refine ⟨(sparse 31 [(4, .c (.os 64000 0 (LEN ([] : List Int))))] [(64000, .arr .rw [] (LEN ([] : List Int)) 1 (row GD (encI .i64) ([] : List Int)))]), ?_, ?_⟩
  ·refine St.le_trans (le_nilT 4 64000 1 (row GD (encI .i64) ([] : List Int)) (by decide) rfl) ?_
   subst hLEN
   exact le_sparse rfl ⟨lR _, trivial⟩ ⟨oS, trivial⟩ rfl
  ·subst hLEN
   exact ⟨lR _, ⟨oS, trivial⟩, rfl⟩
 ·replace h := of_br_f b37 h
  cbv
  replace h := of_let h
  obtain ⟨l3, hl3, h⟩ := h
  have e4 : 0 = LEN l3 := by subst hl3 hLEN; rfl
  refine ⟨_, congrArg (fun n => AV.c (AC.os 768 0 n)) e4, _, row GD (encI .i64) l3, e4, ?_, ?_⟩
  ·intro i hi j hj
   rw [← e4] at hi
   subst hl3
   subst hGD
   omega
  cbv
  replace h := of_bind h
  obtain ⟨y8, hr9, hN10⟩ := h
  refine loop_cut hr9 (fun x => (sparse 31 [(3, .c (.ptr 192 0)), (5, .c (.os 768 0 (LEN x.2))), (14, .c (.bs (LEN a0.fCells) 4 (row GD (encCell LEN GD) a0.fCells))), (15, .c (.v (.int .i64 (A.ofN (LEN a0.fCells))))), (16, .c (.v (.int .i64 x.1)))] [(192, .var [.v (.int .i64 a1)]), (768, .arr .rw [] (LEN x.2) 1 (row GD (encI .i64) x.2))])) ?_ (fun y e s => (fun (w : (List Int)) => e = .exit 0 ∧ s.le (sparse 31 [(5, .c (.os 768 0 (LEN w)))] [(768, .arr .rw [] (LEN w) 1 (row GD (encI .i64) w))])) y) ?_ ?_
  ·clear hr9 hN10
   show St.le _ _
   exact le_sparse rfl ⟨lR _, lR _, lR _, lR _, lR _, trivial⟩ ⟨rfl, oS, trivial⟩ rfl
  ·clear hr9 hN10
   intro x z14 h K12 hK13 hY11
   obtain ⟨x0_, x1_⟩ := x
   replace h := of_let h
   obtain ⟨v5, hv5, h⟩ := h
   have hv5 : v5 = x0_ := hv5
   subst hv5
   replace h := of_let h
   obtain ⟨v6, hv6, h⟩ := h
   have hv6 : v6 = x1_ := hv6
   subst hv6
   cbv
   refine fork (fun b35 => ?_) (fun b35 => ?_)
   ·replace h := of_br_t b35 h
    cbv
    replace h := of_req h
    obtain ⟨c19, h⟩ := h
    refine ⟨⟨c19, trivial⟩, ?_⟩
    replace h := of_bind h
    obtain ⟨y20, hy21, h⟩ := h
    refine ⟨{ args := [.c (.bs (LEN (GD a0.fCells (A.toN v5)).fInstances) 8 (row GD (encInstance) (GD a0.fCells (A.toN v5)).fInstances)), .c (.fn 172 1 fun j => ([.bp 1 (encI .i64 a1)] : List AC).getD j .junk)], o0 := [], r := .c (.v (.bool y20)), o1 := [], fl := true, σ := [], τ := [] }, hf_slices_ContainsFunc_Limpl_Instance_impl_Instance_mbFimpl_UsersOf_1p _ _ _ hy21, ⟨les_cons (lR _) (les_cons (le_fn (by intro j hj; match j, hj with | 0, _ => exact le_bp (show 1 ≤ 1 from by decide) (by intro j hj; match j, hj with | 0, _ => exact rle_refl _ | (j_ + 1), h_ => exact absurd h_ (by omega)) | (j_ + 1), h_ => exact absurd h_ (by omega))) (les_nil)), trivial, rfl, rfl, rfl, rfl, trivial, rfl⟩, ?_⟩
    cbv
    replace h := of_bind h
    obtain ⟨y22, hy23, h⟩ := h
    obtain ⟨S26, hS27⟩ : ∃ S, S = some (sparse 31 [(3, .c (.ptr 192 0)), (5, .c (.os 768 0 (LEN y22))), (14, .c (.bs (LEN a0.fCells) 4 (row GD (encCell LEN GD) a0.fCells))), (15, .c (.v (.int .i64 (A.ofN (LEN a0.fCells))))), (16, .c (.v (.int .i64 v5)))] [(192, .var [.v (.int .i64 a1)]), (768, .arr .rw [] (LEN y22) 1 (row GD (encI .i64) y22))]) := ⟨_, rfl⟩
    refine ⟨S26, ?_, ?_⟩
    ·clear h
     have h := hy23
     clear hy23
     cbv
     refine fork (fun b34 => ?_) (fun b34 => ?_)
     ·replace h := of_br_t b34 h
      cbv
      replace h := of_let h
      obtain ⟨l29, hl29, h⟩ := h
      have e30 : 1 = LEN l29 := by subst hl29 hLEN; rfl
      refine ⟨_, congrArg (fun n => AV.c (AC.os 1728 0 n)) e30, _, row GD (encI .i64) l29, e30, ?_, ?_⟩
      ·intro i hi j hj
       rw [← e30] at hi
       subst hl29
       subst hGD
       obtain rfl : i = 0 := (by omega)
       all_goals obtain rfl : j = 0 := by omega
       all_goals rfl
      cbv
      replace h := of_req h
      obtain ⟨c33, h⟩ := h
      replace h := of_let h
      obtain ⟨l31, hl31, h⟩ := h
      have e32 : A.nadd (LEN v6) (LEN l29) = LEN l31 := by subst hl31 hLEN hA; simp [std, len]
      refine ⟨c33, _, congrArg (fun n => AV.c (AC.os 768 0 n)) e32, _, row GD (encI .i64) l31, e32, ?_, ?_⟩
      ·subst hGD hLEN hA
       exact app_os (off := 0) (fun _ _ => rfl) hl31 (Nat.le_refl _)
      cbv
      injection h with h
      subst h
      subst hS27
      show St.le _ _
      exact le_sparse rfl ⟨lR _, lR _, lR _, lR _, lR _, trivial⟩ ⟨rfl, oS, trivial⟩ rfl
     ·replace h := of_br_f b34 h
      cbv
      injection h with h
      subst h
      subst hS27
      show St.le _ _
      exact le_sparse rfl ⟨lR _, lR _, lR _, lR _, lR _, trivial⟩ ⟨rfl, oS, trivial⟩ rfl
    ·clear hy23
     subst hS27
     replace h := of_let h
     obtain ⟨w28, hw28, h⟩ := h
     have hw28 : w28 = y22 := hw28
     subst hw28
     cbv
     injection h with h
     refine hK13 _ h.symm _ ?_
     exact le_sparse rfl ⟨lR _, lR _, lR _, lR _, lR _, trivial⟩ ⟨rfl, oS, trivial⟩ rfl
   ·replace h := of_br_f b35 h
    cbv
    injection h with h
    refine hY11 _ h.symm _ _ (And.intro rfl ?_) (by intro hh; cases hh)
    exact le_sparse rfl ⟨lR _, trivial⟩ ⟨oS, trivial⟩ rfl
  ·clear hr9
   have h := hN10
   clear hN10
   intro e17 s18 q16 hne
   replace h := of_let h
   obtain ⟨y8k0, hyk, h⟩ := h
   have hyk : y8k0 = y8 := hyk
   subst hyk
   obtain ⟨rfl, q16⟩ := q16
   replace h := of_let h
   obtain ⟨w36, hw36, h⟩ := h
   have hw36 : w36 = y8k0 := hw36
   subst hw36
   cbv
   refine ⟨_, q16, ?_⟩
   cbv
   injection h with h
   subst h
   refine ⟨(sparse 31 [(4, .c (.os 64000 0 (LEN w36)))] [(64000, .arr .rw [] (LEN w36) 1 (row GD (encI .i64) w36))]), ?_, ?_⟩
   ·refine St.le_trans (le_ren 768 64000 (by decide) rfl) ?_
    exact le_sparse rfl ⟨lR _, trivial⟩ ⟨oS, trivial⟩ rfl
   ·exact ⟨lR _, ⟨oS, trivial⟩, rfl⟩

/-- impl.editCode -/
noncomputable def F_impl_editCode (a0 : TLibrary) (a1 : TEdit) : Option (Int) :=
 ((
    (F_impl_IsValidLibrary (TLibrary.mk a0.fCells)).bind fun y8 =>
    br (!(y8))
    (some true)
    ((F_impl_IsValidEdit a1).bind fun y10 =>
    some (!(y10)))
  ) : Option (Bool)).bind fun y1 =>
 letO y1 fun w7 =>
 br w7
 (some 1)
 (br (std.eq a1.fKind 8)
 (br (std.lt (std.ofN (len a0.fCells)) a1.fCell)
 (some 5)
 (br (std.eq (std.ofN (len a0.fCells)) 8)
 (some 3)
 ((F_impl_named (TLibrary.mk a0.fCells) a1.fName).bind fun y13 =>
 br (std.le 0 y13)
 (some 6)
 (some 0))))
 (br (std.le (std.ofN (len a0.fCells)) a1.fCell)
 (some 5)
 (req (std.inR a1.fCell (len a0.fCells)) <|
 br (std.eq a1.fKind 1)
 ((F_impl_insertCode a1.fIndex (std.ofN (len (gd a0.fCells (std.toN a1.fCell)).fShapes)) 24).bind fun y19 =>
 some y19)
 (br (std.eq a1.fKind 2)
 ((F_impl_deleteCode a1.fIndex (std.ofN (len (gd a0.fCells (std.toN a1.fCell)).fShapes))).bind fun y21 =>
 some y21)
 (br (std.eq a1.fKind 3)
 ((F_impl_insertCode a1.fIndex (std.ofN (len (gd a0.fCells (std.toN a1.fCell)).fLabels)) 8).bind fun y23 =>
 some y23)
 (br (std.eq a1.fKind 4)
 ((F_impl_deleteCode a1.fIndex (std.ofN (len (gd a0.fCells (std.toN a1.fCell)).fLabels))).bind fun y25 =>
 some y25)
 (br (std.eq a1.fKind 5)
 ((F_impl_insertCode a1.fIndex (std.ofN (len (gd a0.fCells (std.toN a1.fCell)).fInstances)) 8).bind fun y27 =>
 ((
    br (std.eq y27 0)
    (some (std.le a1.fCell a1.fInstance.fCell))
    (some false)
  ) : Option (Bool)).bind fun y29 =>
 letO y29 fun w35 =>
 ((
    br w35
    (some 6)
    (some y27)
  ) : Option (Int)).bind fun y37 =>
 letO y37 fun w43 =>
 some w43)
 (br (std.eq a1.fKind 6)
 ((F_impl_deleteCode a1.fIndex (std.ofN (len (gd a0.fCells (std.toN a1.fCell)).fInstances))).bind fun y45 =>
 some y45)
 (((
    br (std.eq a1.fKind 7)
    ((F_impl_named (TLibrary.mk a0.fCells) a1.fName).bind fun y53 =>
    ((
       br (std.le 0 y53)
       (some (std.not (std.eq y53 a1.fCell)))
       (some false)
     ) : Option (Bool)).bind fun y55 =>
    letO y55 fun w61 =>
    br w61
    ((some 6).bind fun r63 => some (.inl r63))
    (some (.inr ())))
    (((
       br (std.eq a1.fKind 9)
       (((
          br (std.eq (std.ofN (len a0.fCells)) 1)
          (some true)
          (br (std.lt 0 (std.add .i64 (std.add .i64 (std.ofN (len (gd a0.fCells (std.toN a1.fCell)).fShapes)) (std.ofN (len (gd a0.fCells (std.toN a1.fCell)).fLabels))) (std.ofN (len (gd a0.fCells (std.toN a1.fCell)).fInstances))))
          (some true)
          ((F_impl_UsersOf (TLibrary.mk a0.fCells) a1.fCell).bind fun y80 =>
          some (std.lt 0 (std.ofN (len y80)))))
        ) : Option (Bool)).bind fun y73 =>
       letO y73 fun w79 =>
       br w79
       (((some 6).bind fun r84 => some (.inl r84)).bind fun r87 => some (.inl r87))
       (some (.inr ())))
       (some (.inr ()))
     ) : Option (_ ⊕ Unit)).bind fun z69 => (match z69 with
     | .inl r => some r
     | .inr y67 =>
       some (.inr ())))
  ) : Option (_ ⊕ Unit)).bind fun z49 => (match z49 with
  | .inl r => some r
  | .inr y47 =>
    some 0))))))))))
theorem run_impl_editCode (a0 : TLibrary) (a1 : TEdit) (r : Int) (h : F_impl_editCode a0 a1 = some r) : Fun Try.prog 75 [.agg [.bs (len a0.fCells) 4 (row gd (encCell len gd) a0.fCells)], .agg [.v (.int .i64 a1.fKind), .v (.int .i64 a1.fCell), .v (.int .i64 a1.fIndex), .v (.string a1.fName), .v (.int .i64 a1.fShape.fLayer), .v (.int .i64 a1.fShape.fBox.fX0), .v (.int .i64 a1.fShape.fBox.fY0), .v (.int .i64 a1.fShape.fBox.fX1), .v (.int .i64 a1.fShape.fBox.fY1), .v (.int .i64 a1.fLabel.fLayer), .v (.int .i64 a1.fLabel.fAt.fX), .v (.int .i64 a1.fLabel.fAt.fY), .v (.string a1.fLabel.fName), .v (.int .i64 a1.fInstance.fCell), .v (.int .i64 a1.fInstance.fPlace.fOrientation), .v (.int .i64 a1.fInstance.fPlace.fX), .v (.int .i64 a1.fInstance.fPlace.fY), .v (.int .i64 a1.fInstance.fColumns), .v (.int .i64 a1.fInstance.fRows), .v (.int .i64 a1.fInstance.fStepX), .v (.int .i64 a1.fInstance.fStepY)]] [] (.c (.v (.int .i64 r))) [] true := by
 refine Fun.of_wp (oneOf [1, 27, 34, 37, 100100, 100108, 100122]) tok mixed Try.func75 (by kernel_rfl) rfl Try.ntmps75 rfl trivial (fun _ => ⟨trivial, trivial⟩) ?_
 unfold F_impl_editCode at h
 have hf_impl_IsValidEdit := @run_impl_IsValidEdit
 have hf_impl_IsValidLibrary := @run_impl_IsValidLibrary
 have hf_impl_UsersOf := @run_impl_UsersOf
 have hf_impl_deleteCode := @run_impl_deleteCode
 have hf_impl_insertCode := @run_impl_insertCode
 have hf_impl_named := @run_impl_named
 generalize hLEN : @len = LEN at *
 generalize hGD : @gd = GD at *
 generalize hA : std = A at *
 generalize hP : Try.prog = P at *
 cbv
 replace h := of_bind h
 obtain ⟨y1, hy2, h⟩ := h
 obtain ⟨S5, hS6⟩ : ∃ S, S = (sparse 142 [(2, .c (.ptr 128 0)), (3, .c (.ptr 192 0)), (19, .c (.v (.bool y1)))] [(128, .var [.bs (LEN a0.fCells) 4 (row GD (encCell LEN GD) a0.fCells)]), (192, .var [.v (.int .i64 a1.fKind), .v (.int .i64 a1.fCell), .v (.int .i64 a1.fIndex), .v (.string a1.fName), .v (.int .i64 a1.fShape.fLayer), .v (.int .i64 a1.fShape.fBox.fX0), .v (.int .i64 a1.fShape.fBox.fY0), .v (.int .i64 a1.fShape.fBox.fX1), .v (.int .i64 a1.fShape.fBox.fY1), .v (.int .i64 a1.fLabel.fLayer), .v (.int .i64 a1.fLabel.fAt.fX), .v (.int .i64 a1.fLabel.fAt.fY), .v (.string a1.fLabel.fName), .v (.int .i64 a1.fInstance.fCell), .v (.int .i64 a1.fInstance.fPlace.fOrientation), .v (.int .i64 a1.fInstance.fPlace.fX), .v (.int .i64 a1.fInstance.fPlace.fY), .v (.int .i64 a1.fInstance.fColumns), .v (.int .i64 a1.fInstance.fRows), .v (.int .i64 a1.fInstance.fStepX), .v (.int .i64 a1.fInstance.fStepY)])]) := ⟨_, rfl⟩
 refine ⟨S5, ?_, ?_⟩
 ·clear h
  have h := hy2
  clear hy2
  cbv
  replace h := of_bind h
  obtain ⟨y8, hy9, h⟩ := h
  refine ⟨{ args := [.agg [.bs (LEN a0.fCells) 4 (row GD (encCell LEN GD) a0.fCells)]], o0 := [], r := .c (.v (.bool y8)), o1 := [], fl := true, σ := [], τ := [] }, hf_impl_IsValidLibrary _ _ hy9, ⟨les_cons (lR _) (les_nil), trivial, rfl, rfl, rfl, rfl, trivial, rfl⟩, ?_⟩
  cbv
  refine fork (fun b12 => ?_) (fun b12 => ?_)
  ·replace h := of_br_t b12 h
   cbv
   injection h with h
   subst h
   subst hS6
   show St.le _ _
   exact le_sparse rfl ⟨lR _, lR _, lR _, trivial⟩ ⟨rfl, rfl, trivial⟩ rfl
  ·replace h := of_br_f b12 h
   cbv
   replace h := of_bind h
   obtain ⟨y10, hy11, h⟩ := h
   refine ⟨{ args := [.agg [.v (.int .i64 a1.fKind), .v (.int .i64 a1.fCell), .v (.int .i64 a1.fIndex), .v (.string a1.fName), .v (.int .i64 a1.fShape.fLayer), .v (.int .i64 a1.fShape.fBox.fX0), .v (.int .i64 a1.fShape.fBox.fY0), .v (.int .i64 a1.fShape.fBox.fX1), .v (.int .i64 a1.fShape.fBox.fY1), .v (.int .i64 a1.fLabel.fLayer), .v (.int .i64 a1.fLabel.fAt.fX), .v (.int .i64 a1.fLabel.fAt.fY), .v (.string a1.fLabel.fName), .v (.int .i64 a1.fInstance.fCell), .v (.int .i64 a1.fInstance.fPlace.fOrientation), .v (.int .i64 a1.fInstance.fPlace.fX), .v (.int .i64 a1.fInstance.fPlace.fY), .v (.int .i64 a1.fInstance.fColumns), .v (.int .i64 a1.fInstance.fRows), .v (.int .i64 a1.fInstance.fStepX), .v (.int .i64 a1.fInstance.fStepY)]], o0 := [], r := .c (.v (.bool y10)), o1 := [], fl := true, σ := [], τ := [] }, hf_impl_IsValidEdit _ _ hy11, ⟨les_cons (lR _) (les_nil), trivial, rfl, rfl, rfl, rfl, trivial, rfl⟩, ?_⟩
   cbv
   injection h with h
   subst h
   subst hS6
   show St.le _ _
   exact le_sparse rfl ⟨lR _, lR _, lR _, trivial⟩ ⟨rfl, rfl, trivial⟩ rfl
 ·clear hy2
  subst hS6
  replace h := of_let h
  obtain ⟨w7, hw7, h⟩ := h
  have hw7 : w7 = y1 := hw7
  subst hw7
  cbv
  refine fork (fun b101 => ?_) (fun b101 => ?_)
  ·replace h := of_br_t b101 h
   cbv
   injection h with h
   subst h
   refine ⟨(sparse 142 [(4, .c (.v (.int .i64 1)))] []), ?_, ?_⟩
   ·exact le_sparse rfl ⟨lR _, trivial⟩ trivial rfl
   ·exact ⟨lR _, trivial, rfl⟩
  ·replace h := of_br_f b101 h
   cbv
   refine fork (fun b100 => ?_) (fun b100 => ?_)
   ·replace h := of_br_t b100 h
    cbv
    refine fork (fun b17 => ?_) (fun b17 => ?_)
    ·replace h := of_br_t b17 h
     cbv
     injection h with h
     subst h
     refine ⟨(sparse 142 [(4, .c (.v (.int .i64 5)))] []), ?_, ?_⟩
     ·exact le_sparse rfl ⟨lR _, trivial⟩ trivial rfl
     ·exact ⟨lR _, trivial, rfl⟩
    ·replace h := of_br_f b17 h
     cbv
     refine fork (fun b16 => ?_) (fun b16 => ?_)
     ·replace h := of_br_t b16 h
      cbv
      injection h with h
      subst h
      refine ⟨(sparse 142 [(4, .c (.v (.int .i64 3)))] []), ?_, ?_⟩
      ·exact le_sparse rfl ⟨lR _, trivial⟩ trivial rfl
      ·exact ⟨lR _, trivial, rfl⟩
     ·replace h := of_br_f b16 h
      cbv
      replace h := of_bind h
      obtain ⟨y13, hy14, h⟩ := h
      refine ⟨{ args := [.agg [.bs (LEN a0.fCells) 4 (row GD (encCell LEN GD) a0.fCells)], .c (.v (.string a1.fName))], o0 := [], r := .c (.v (.int .i64 y13)), o1 := [], fl := true, σ := [], τ := [] }, hf_impl_named _ _ _ hy14, ⟨les_cons (lR _) (les_cons (lR _) (les_nil)), trivial, rfl, rfl, rfl, rfl, trivial, rfl⟩, ?_⟩
      cbv
      refine fork (fun b15 => ?_) (fun b15 => ?_)
      ·replace h := of_br_t b15 h
       cbv
       injection h with h
       subst h
       refine ⟨(sparse 142 [(4, .c (.v (.int .i64 6)))] []), ?_, ?_⟩
       ·exact le_sparse rfl ⟨lR _, trivial⟩ trivial rfl
       ·exact ⟨lR _, trivial, rfl⟩
      ·replace h := of_br_f b15 h
       cbv
       injection h with h
       subst h
       refine ⟨(sparse 142 [(4, .c (.v (.int .i64 0)))] []), ?_, ?_⟩
       ·exact le_sparse rfl ⟨lR _, trivial⟩ trivial rfl
       ·exact ⟨lR _, trivial, rfl⟩
   ·replace h := of_br_f b100 h
    cbv
    refine fork (fun b99 => ?_) (fun b99 => ?_)
    ·replace h := of_br_t b99 h
     cbv
     injection h with h
     subst h
     refine ⟨(sparse 142 [(4, .c (.v (.int .i64 5)))] []), ?_, ?_⟩
     ·exact le_sparse rfl ⟨lR _, trivial⟩ trivial rfl
     ·exact ⟨lR _, trivial, rfl⟩
    ·replace h := of_br_f b99 h
     cbv
     replace h := of_req h
     obtain ⟨c18, h⟩ := h
     refine ⟨⟨c18, trivial⟩, ?_⟩
     refine fork (fun b98 => ?_) (fun b98 => ?_)
     ·replace h := of_br_t b98 h
      cbv
      replace h := of_bind h
      obtain ⟨y19, hy20, h⟩ := h
      refine ⟨{ args := [.c (.v (.int .i64 a1.fIndex)), .c (.v (.int .i64 (A.ofN (LEN (GD a0.fCells (A.toN a1.fCell)).fShapes)))), .c (.v (.int .i64 24))], o0 := [], r := .c (.v (.int .i64 y19)), o1 := [], fl := true, σ := [], τ := [] }, hf_impl_insertCode _ _ _ _ hy20, ⟨les_cons (lR _) (les_cons (lR _) (les_cons (lR _) (les_nil))), trivial, rfl, rfl, rfl, rfl, trivial, rfl⟩, ?_⟩
      cbv
      injection h with h
      subst h
      refine ⟨(sparse 142 [(4, .c (.v (.int .i64 y19)))] []), ?_, ?_⟩
      ·exact le_sparse rfl ⟨lR _, trivial⟩ trivial rfl
      ·exact ⟨lR _, trivial, rfl⟩
     ·replace h := of_br_f b98 h
      cbv
      refine fork (fun b97 => ?_) (fun b97 => ?_)
      ·replace h := of_br_t b97 h
       cbv
       replace h := of_bind h
       obtain ⟨y21, hy22, h⟩ := h
       refine ⟨{ args := [.c (.v (.int .i64 a1.fIndex)), .c (.v (.int .i64 (A.ofN (LEN (GD a0.fCells (A.toN a1.fCell)).fShapes))))], o0 := [], r := .c (.v (.int .i64 y21)), o1 := [], fl := true, σ := [], τ := [] }, hf_impl_deleteCode _ _ _ hy22, ⟨les_cons (lR _) (les_cons (lR _) (les_nil)), trivial, rfl, rfl, rfl, rfl, trivial, rfl⟩, ?_⟩
       cbv
       injection h with h
       subst h
       refine ⟨(sparse 142 [(4, .c (.v (.int .i64 y21)))] []), ?_, ?_⟩
       ·exact le_sparse rfl ⟨lR _, trivial⟩ trivial rfl
       ·exact ⟨lR _, trivial, rfl⟩
      ·replace h := of_br_f b97 h
       cbv
       refine fork (fun b96 => ?_) (fun b96 => ?_)
       ·replace h := of_br_t b96 h
        cbv
        replace h := of_bind h
        obtain ⟨y23, hy24, h⟩ := h
        refine ⟨{ args := [.c (.v (.int .i64 a1.fIndex)), .c (.v (.int .i64 (A.ofN (LEN (GD a0.fCells (A.toN a1.fCell)).fLabels)))), .c (.v (.int .i64 8))], o0 := [], r := .c (.v (.int .i64 y23)), o1 := [], fl := true, σ := [], τ := [] }, hf_impl_insertCode _ _ _ _ hy24, ⟨les_cons (lR _) (les_cons (lR _) (les_cons (lR _) (les_nil))), trivial, rfl, rfl, rfl, rfl, trivial, rfl⟩, ?_⟩
        cbv
        injection h with h
        subst h
        refine ⟨(sparse 142 [(4, .c (.v (.int .i64 y23)))] []), ?_, ?_⟩
        ·exact le_sparse rfl ⟨lR _, trivial⟩ trivial rfl
        ·exact ⟨lR _, trivial, rfl⟩
       ·replace h := of_br_f b96 h
        cbv
        refine fork (fun b95 => ?_) (fun b95 => ?_)
        ·replace h := of_br_t b95 h
         cbv
         replace h := of_bind h
         obtain ⟨y25, hy26, h⟩ := h
         refine ⟨{ args := [.c (.v (.int .i64 a1.fIndex)), .c (.v (.int .i64 (A.ofN (LEN (GD a0.fCells (A.toN a1.fCell)).fLabels))))], o0 := [], r := .c (.v (.int .i64 y25)), o1 := [], fl := true, σ := [], τ := [] }, hf_impl_deleteCode _ _ _ hy26, ⟨les_cons (lR _) (les_cons (lR _) (les_nil)), trivial, rfl, rfl, rfl, rfl, trivial, rfl⟩, ?_⟩
         cbv
         injection h with h
         subst h
         refine ⟨(sparse 142 [(4, .c (.v (.int .i64 y25)))] []), ?_, ?_⟩
         ·exact le_sparse rfl ⟨lR _, trivial⟩ trivial rfl
         ·exact ⟨lR _, trivial, rfl⟩
        ·replace h := of_br_f b95 h
         cbv
         refine fork (fun b94 => ?_) (fun b94 => ?_)
         ·replace h := of_br_t b94 h
          cbv
          replace h := of_bind h
          obtain ⟨y27, hy28, h⟩ := h
          refine ⟨{ args := [.c (.v (.int .i64 a1.fIndex)), .c (.v (.int .i64 (A.ofN (LEN (GD a0.fCells (A.toN a1.fCell)).fInstances)))), .c (.v (.int .i64 8))], o0 := [], r := .c (.v (.int .i64 y27)), o1 := [], fl := true, σ := [], τ := [] }, hf_impl_insertCode _ _ _ _ hy28, ⟨les_cons (lR _) (les_cons (lR _) (les_cons (lR _) (les_nil))), trivial, rfl, rfl, rfl, rfl, trivial, rfl⟩, ?_⟩
          cbv
          replace h := of_bind h
          obtain ⟨y29, hy30, h⟩ := h
          obtain ⟨S33, hS34⟩ : ∃ S, S = (sparse 142 [(10, .c (.v (.int .i64 y27))), (100, .c (.v (.bool y29)))] []) := ⟨_, rfl⟩
          refine ⟨S33, ?_, ?_⟩
          ·clear h
           have h := hy30
           clear hy30
           cbv
           refine fork (fun b36 => ?_) (fun b36 => ?_)
           ·replace h := of_br_t b36 h
            cbv
            injection h with h
            subst h
            subst hS34
            show St.le _ _
            exact le_sparse rfl ⟨lR _, lR _, trivial⟩ trivial rfl
           ·replace h := of_br_f b36 h
            cbv
            injection h with h
            subst h
            subst hS34
            show St.le _ _
            exact le_sparse rfl ⟨lR _, lR _, trivial⟩ trivial rfl
          ·clear hy30
           subst hS34
           replace h := of_let h
           obtain ⟨w35, hw35, h⟩ := h
           have hw35 : w35 = y29 := hw35
           subst hw35
           cbv
           replace h := of_bind h
           obtain ⟨y37, hy38, h⟩ := h
           obtain ⟨S41, hS42⟩ : ∃ S, S = some (sparse 142 [(10, .c (.v (.int .i64 y37)))] []) := ⟨_, rfl⟩
           refine ⟨S41, ?_, ?_⟩
           ·clear h
            have h := hy38
            clear hy38
            cbv
            refine fork (fun b44 => ?_) (fun b44 => ?_)
            ·replace h := of_br_t b44 h
             cbv
             injection h with h
             subst h
             subst hS42
             show St.le _ _
             exact le_sparse rfl ⟨lR _, trivial⟩ trivial rfl
            ·replace h := of_br_f b44 h
             cbv
             injection h with h
             subst h
             subst hS42
             show St.le _ _
             exact le_sparse rfl ⟨lR _, trivial⟩ trivial rfl
           ·clear hy38
            subst hS42
            replace h := of_let h
            obtain ⟨w43, hw43, h⟩ := h
            have hw43 : w43 = y37 := hw43
            subst hw43
            cbv
            injection h with h
            subst h
            refine ⟨(sparse 142 [(4, .c (.v (.int .i64 w43)))] []), ?_, ?_⟩
            ·exact le_sparse rfl ⟨lR _, trivial⟩ trivial rfl
            ·exact ⟨lR _, trivial, rfl⟩
         ·replace h := of_br_f b94 h
          cbv
          refine fork (fun b93 => ?_) (fun b93 => ?_)
          ·replace h := of_br_t b93 h
           cbv
           replace h := of_bind h
           obtain ⟨y45, hy46, h⟩ := h
           refine ⟨{ args := [.c (.v (.int .i64 a1.fIndex)), .c (.v (.int .i64 (A.ofN (LEN (GD a0.fCells (A.toN a1.fCell)).fInstances))))], o0 := [], r := .c (.v (.int .i64 y45)), o1 := [], fl := true, σ := [], τ := [] }, hf_impl_deleteCode _ _ _ hy46, ⟨les_cons (lR _) (les_cons (lR _) (les_nil)), trivial, rfl, rfl, rfl, rfl, trivial, rfl⟩, ?_⟩
           cbv
           injection h with h
           subst h
           refine ⟨(sparse 142 [(4, .c (.v (.int .i64 y45)))] []), ?_, ?_⟩
           ·exact le_sparse rfl ⟨lR _, trivial⟩ trivial rfl
           ·exact ⟨lR _, trivial, rfl⟩
          ·replace h := of_br_f b93 h
           cbv
           replace h := of_bind h
           obtain ⟨z49, hy48, hz50⟩ := h
           obtain ⟨S51, hS52⟩ : ∃ S, S = (match z49 with | .inl _ => none | .inr y47 => some (sparse 142 [] [])) := ⟨_, rfl⟩
           refine ⟨S51, ?_, ?_⟩
           ·have h := hy48
            clear hy48
            cbv
            refine fork (fun b92 => ?_) (fun b92 => ?_)
            ·replace h := of_br_t b92 h
             cbv
             replace h := of_bind h
             obtain ⟨y53, hy54, h⟩ := h
             refine ⟨{ args := [.agg [.bs (LEN a0.fCells) 4 (row GD (encCell LEN GD) a0.fCells)], .c (.v (.string a1.fName))], o0 := [], r := .c (.v (.int .i64 y53)), o1 := [], fl := true, σ := [], τ := [] }, hf_impl_named _ _ _ hy54, ⟨les_cons (lR _) (les_cons (lR _) (les_nil)), trivial, rfl, rfl, rfl, rfl, trivial, rfl⟩, ?_⟩
             cbv
             replace h := of_bind h
             obtain ⟨y55, hy56, h⟩ := h
             obtain ⟨S59, hS60⟩ : ∃ S, S = (sparse 142 [(121, .c (.v (.bool y55)))] []) := ⟨_, rfl⟩
             refine ⟨S59, ?_, ?_⟩
             ·clear h
              have h := hy56
              clear hy56
              cbv
              refine fork (fun b62 => ?_) (fun b62 => ?_)
              ·replace h := of_br_t b62 h
               cbv
               injection h with h
               subst h
               subst hS60
               show St.le _ _
               exact le_sparse rfl ⟨lR _, trivial⟩ trivial rfl
              ·replace h := of_br_f b62 h
               cbv
               injection h with h
               subst h
               subst hS60
               show St.le _ _
               exact le_sparse rfl ⟨lR _, trivial⟩ trivial rfl
             ·clear hy56
              subst hS60
              replace h := of_let h
              obtain ⟨w61, hw61, h⟩ := h
              have hw61 : w61 = y55 := hw61
              subst hw61
              cbv
              refine fork (fun b66 => ?_) (fun b66 => ?_)
              ·replace h := of_br_t b66 h
               cbv
               replace h := of_bind h
               obtain ⟨r63, h64, he65⟩ := h
               injection he65 with he65
               subst he65
               injection hz50 with hz50
               subst hz50
               have h := h64
               injection h with h
               subst h
               refine ⟨(sparse 142 [(4, .c (.v (.int .i64 6)))] []), ?_, ?_⟩
               ·exact le_sparse rfl ⟨lR _, trivial⟩ trivial rfl
               ·exact ⟨lR _, trivial, rfl⟩
              ·replace h := of_br_f b66 h
               cbv
               injection h with h
               subst h
               subst hS52
               show St.le _ _
               exact le_sparse rfl trivial trivial rfl
            ·replace h := of_br_f b92 h
             cbv
             replace h := of_bind h
             obtain ⟨z69, hy68, hz70⟩ := h
             obtain ⟨S71, hS72⟩ : ∃ S, S = (match z69 with | .inl _ => none | .inr y67 => some (sparse 142 [] [])) := ⟨_, rfl⟩
             refine ⟨S71, ?_, ?_⟩
             ·have h := hy68
              clear hy68
              cbv
              refine fork (fun b91 => ?_) (fun b91 => ?_)
              ·replace h := of_br_t b91 h
               cbv
               replace h := of_bind h
               obtain ⟨y73, hy74, h⟩ := h
               obtain ⟨S77, hS78⟩ : ∃ S, S = (sparse 142 [(141, .c (.v (.bool y73)))] []) := ⟨_, rfl⟩
               refine ⟨S77, ?_, ?_⟩
               ·clear h
                have h := hy74
                clear hy74
                cbv
                refine fork (fun b83 => ?_) (fun b83 => ?_)
                ·replace h := of_br_t b83 h
                 cbv
                 injection h with h
                 subst h
                 subst hS78
                 show St.le _ _
                 exact le_sparse rfl ⟨lR _, trivial⟩ trivial rfl
                ·replace h := of_br_f b83 h
                 cbv
                 refine fork (fun b82 => ?_) (fun b82 => ?_)
                 ·replace h := of_br_t b82 h
                  cbv
                  injection h with h
                  subst h
                  subst hS78
                  show St.le _ _
                  exact le_sparse rfl ⟨lR _, trivial⟩ trivial rfl
                 ·replace h := of_br_f b82 h
                  cbv
                  replace h := of_bind h
                  obtain ⟨y80, hy81, h⟩ := h
                  refine ⟨{ args := [.agg [.bs (LEN a0.fCells) 4 (row GD (encCell LEN GD) a0.fCells)], .c (.v (.int .i64 a1.fCell))], o0 := [], r := .c (.os 64000 0 (LEN y80)), o1 := [(64000, .arr .rw [] (LEN y80) 1 (row GD (encI .i64) y80))], fl := true, σ := [], τ := [(64000, 8832)] }, hf_impl_UsersOf _ _ _ hy81, ⟨les_cons (lR _) (les_cons (lR _) (les_nil)), trivial, rfl, rfl, rfl, rfl, ⟨fun h => absurd (show (64000 : Nat) % 2 = 1 from h) (by decide), trivial⟩, rfl⟩, _, rfl, _, _, rfl, fun _ _ _ _ => rfl, ?_⟩
                  cbv
                  injection h with h
                  subst h
                  subst hS78
                  show St.le _ _
                  exact le_sparse rfl ⟨lR _, trivial⟩ trivial rfl
               ·clear hy74
                subst hS78
                replace h := of_let h
                obtain ⟨w79, hw79, h⟩ := h
                have hw79 : w79 = y73 := hw79
                subst hw79
                cbv
                refine fork (fun b90 => ?_) (fun b90 => ?_)
                ·replace h := of_br_t b90 h
                 cbv
                 replace h := of_bind h
                 obtain ⟨r87, h88, he89⟩ := h
                 injection he89 with he89
                 subst he89
                 injection hz70 with hz70
                 subst hz70
                 have h := h88
                 replace h := of_bind h
                 obtain ⟨r84, h85, he86⟩ := h
                 injection he86 with he86
                 subst he86
                 injection hz50 with hz50
                 subst hz50
                 have h := h85
                 injection h with h
                 subst h
                 refine ⟨(sparse 142 [(4, .c (.v (.int .i64 6)))] []), ?_, ?_⟩
                 ·exact le_sparse rfl ⟨lR _, trivial⟩ trivial rfl
                 ·exact ⟨lR _, trivial, rfl⟩
                ·replace h := of_br_f b90 h
                 cbv
                 injection h with h
                 subst h
                 subst hS72
                 show St.le _ _
                 exact le_sparse rfl trivial trivial rfl
              ·replace h := of_br_f b91 h
               cbv
               injection h with h
               subst h
               subst hS72
               show St.le _ _
               exact le_sparse rfl trivial trivial rfl
             ·clear hy68
              subst hS72
              rcases z69 with _ | y67
              ·trivial
              ·have h := hz70
               clear hz70
               cbv
               injection h with h
               subst h
               subst hS52
               show St.le _ _
               exact le_sparse rfl trivial trivial rfl
           ·clear hy48
            subst hS52
            rcases z49 with _ | y47
            ·trivial
            ·have h := hz50
             clear hz50
             cbv
             injection h with h
             subst h
             refine ⟨(sparse 142 [(4, .c (.v (.int .i64 0)))] []), ?_, ?_⟩
             ·exact le_sparse rfl ⟨lR _, trivial⟩ trivial rfl
             ·exact ⟨lR _, trivial, rfl⟩

/-- impl.inverse -/
noncomputable def F_impl_inverse (a0 : TLibrary) (a1 : TEdit) : Option (TEdit) :=
 ((
    br (std.eq a1.fKind 1)
    (some (2, (ByteArray.mk #[]), 0, 0, 0, 0, 0, 0, 0, 0, (ByteArray.mk #[]), 0, 0, 0, 0, 0, 0, 0, 0))
    (((
       br (std.eq a1.fKind 2)
       (req (std.inR a1.fCell (len a0.fCells)) <|
       req (std.inR a1.fIndex (len (gd a0.fCells (std.toN a1.fCell)).fShapes)) <|
       some (1, (gd (gd a0.fCells (std.toN a1.fCell)).fShapes (std.toN a1.fIndex)).fLayer, (gd (gd a0.fCells (std.toN a1.fCell)).fShapes (std.toN a1.fIndex)).fBox.fX0, (gd (gd a0.fCells (std.toN a1.fCell)).fShapes (std.toN a1.fIndex)).fBox.fY0, (gd (gd a0.fCells (std.toN a1.fCell)).fShapes (std.toN a1.fIndex)).fBox.fX1, (gd (gd a0.fCells (std.toN a1.fCell)).fShapes (std.toN a1.fIndex)).fBox.fY1, (ByteArray.mk #[]), 0, 0, 0, (ByteArray.mk #[]), 0, 0, 0, 0, 0, 0, 0, 0))
       (((
          br (std.eq a1.fKind 3)
          (some (4, (ByteArray.mk #[]), 0, 0, 0, (ByteArray.mk #[]), 0, 0, 0, 0, 0, 0, 0, 0))
          (((
             br (std.eq a1.fKind 4)
             (req (std.inR a1.fCell (len a0.fCells)) <|
             req (std.inR a1.fIndex (len (gd a0.fCells (std.toN a1.fCell)).fLabels)) <|
             some (3, (gd (gd a0.fCells (std.toN a1.fCell)).fLabels (std.toN a1.fIndex)).fLayer, (gd (gd a0.fCells (std.toN a1.fCell)).fLabels (std.toN a1.fIndex)).fAt.fX, (gd (gd a0.fCells (std.toN a1.fCell)).fLabels (std.toN a1.fIndex)).fAt.fY, (gd (gd a0.fCells (std.toN a1.fCell)).fLabels (std.toN a1.fIndex)).fName, (ByteArray.mk #[]), 0, 0, 0, 0, 0, 0, 0, 0))
             (((
                br (std.eq a1.fKind 5)
                (some (6, (ByteArray.mk #[]), 0, 0, 0, 0, 0, 0, 0, 0))
                (((
                   br (std.eq a1.fKind 6)
                   (req (std.inR a1.fCell (len a0.fCells)) <|
                   req (std.inR a1.fIndex (len (gd a0.fCells (std.toN a1.fCell)).fInstances)) <|
                   some (5, (gd (gd a0.fCells (std.toN a1.fCell)).fInstances (std.toN a1.fIndex)).fCell, (gd (gd a0.fCells (std.toN a1.fCell)).fInstances (std.toN a1.fIndex)).fPlace.fOrientation, (gd (gd a0.fCells (std.toN a1.fCell)).fInstances (std.toN a1.fIndex)).fPlace.fX, (gd (gd a0.fCells (std.toN a1.fCell)).fInstances (std.toN a1.fIndex)).fPlace.fY, (gd (gd a0.fCells (std.toN a1.fCell)).fInstances (std.toN a1.fIndex)).fColumns, (gd (gd a0.fCells (std.toN a1.fCell)).fInstances (std.toN a1.fIndex)).fRows, (gd (gd a0.fCells (std.toN a1.fCell)).fInstances (std.toN a1.fIndex)).fStepX, (gd (gd a0.fCells (std.toN a1.fCell)).fInstances (std.toN a1.fIndex)).fStepY, (ByteArray.mk #[])))
                   (((
                      br (std.eq a1.fKind 7)
                      (req (std.inR a1.fCell (len a0.fCells)) <|
                      some (7, (gd a0.fCells (std.toN a1.fCell)).fName))
                      (((
                         br (std.eq a1.fKind 8)
                         (some (9, (ByteArray.mk #[])))
                         (((
                            br (std.eq a1.fKind 9)
                            (req (std.inR a1.fCell (len a0.fCells)) <|
                            some (8, (gd a0.fCells (std.toN a1.fCell)).fName))
                            (some (0, (ByteArray.mk #[])))
                          ) : Option (Int × ByteArray)).bind fun y146 =>
                         letO y146.1 fun w152 =>
                         letO y146.2 fun w153 =>
                         some (w152, w153))
                       ) : Option (Int × ByteArray)).bind fun y138 =>
                      letO y138.1 fun w144 =>
                      letO y138.2 fun w145 =>
                      some (w144, w145))
                    ) : Option (Int × ByteArray)).bind fun y129 =>
                   letO y129.1 fun w135 =>
                   letO y129.2 fun w136 =>
                   some (w135, 0, 0, 0, 0, 0, 0, 0, 0, w136))
                 ) : Option (Int × Int × Int × Int × Int × Int × Int × Int × Int × ByteArray)).bind fun y111 =>
                letO y111.1 fun w117 =>
                letO y111.2.1 fun w118 =>
                letO y111.2.2.1 fun w119 =>
                letO y111.2.2.2.1 fun w120 =>
                letO y111.2.2.2.2.1 fun w121 =>
                letO y111.2.2.2.2.2.1 fun w122 =>
                letO y111.2.2.2.2.2.2.1 fun w123 =>
                letO y111.2.2.2.2.2.2.2.1 fun w124 =>
                letO y111.2.2.2.2.2.2.2.2.1 fun w125 =>
                letO y111.2.2.2.2.2.2.2.2.2 fun w126 =>
                some (w117, w126, w118, w119, w120, w121, w122, w123, w124, w125))
              ) : Option (Int × ByteArray × Int × Int × Int × Int × Int × Int × Int × Int)).bind fun y95 =>
             letO y95.1 fun w101 =>
             letO y95.2.1 fun w102 =>
             letO y95.2.2.1 fun w103 =>
             letO y95.2.2.2.1 fun w104 =>
             letO y95.2.2.2.2.1 fun w105 =>
             letO y95.2.2.2.2.2.1 fun w106 =>
             letO y95.2.2.2.2.2.2.1 fun w107 =>
             letO y95.2.2.2.2.2.2.2.1 fun w108 =>
             letO y95.2.2.2.2.2.2.2.2.1 fun w109 =>
             letO y95.2.2.2.2.2.2.2.2.2 fun w110 =>
             some (w101, 0, 0, 0, (ByteArray.mk #[]), w102, w103, w104, w105, w106, w107, w108, w109, w110))
           ) : Option (Int × Int × Int × Int × ByteArray × ByteArray × Int × Int × Int × Int × Int × Int × Int × Int)).bind fun y73 =>
          letO y73.1 fun w79 =>
          letO y73.2.1 fun w80 =>
          letO y73.2.2.1 fun w81 =>
          letO y73.2.2.2.1 fun w82 =>
          letO y73.2.2.2.2.1 fun w83 =>
          letO y73.2.2.2.2.2.1 fun w84 =>
          letO y73.2.2.2.2.2.2.1 fun w85 =>
          letO y73.2.2.2.2.2.2.2.1 fun w86 =>
          letO y73.2.2.2.2.2.2.2.2.1 fun w87 =>
          letO y73.2.2.2.2.2.2.2.2.2.1 fun w88 =>
          letO y73.2.2.2.2.2.2.2.2.2.2.1 fun w89 =>
          letO y73.2.2.2.2.2.2.2.2.2.2.2.1 fun w90 =>
          letO y73.2.2.2.2.2.2.2.2.2.2.2.2.1 fun w91 =>
          letO y73.2.2.2.2.2.2.2.2.2.2.2.2.2 fun w92 =>
          some (w79, w84, w80, w81, w82, w83, w85, w86, w87, w88, w89, w90, w91, w92))
        ) : Option (Int × ByteArray × Int × Int × Int × ByteArray × Int × Int × Int × Int × Int × Int × Int × Int)).bind fun y53 =>
       letO y53.1 fun w59 =>
       letO y53.2.1 fun w60 =>
       letO y53.2.2.1 fun w61 =>
       letO y53.2.2.2.1 fun w62 =>
       letO y53.2.2.2.2.1 fun w63 =>
       letO y53.2.2.2.2.2.1 fun w64 =>
       letO y53.2.2.2.2.2.2.1 fun w65 =>
       letO y53.2.2.2.2.2.2.2.1 fun w66 =>
       letO y53.2.2.2.2.2.2.2.2.1 fun w67 =>
       letO y53.2.2.2.2.2.2.2.2.2.1 fun w68 =>
       letO y53.2.2.2.2.2.2.2.2.2.2.1 fun w69 =>
       letO y53.2.2.2.2.2.2.2.2.2.2.2.1 fun w70 =>
       letO y53.2.2.2.2.2.2.2.2.2.2.2.2.1 fun w71 =>
       letO y53.2.2.2.2.2.2.2.2.2.2.2.2.2 fun w72 =>
       some (w59, 0, 0, 0, 0, 0, w60, w61, w62, w63, w64, w65, w66, w67, w68, w69, w70, w71, w72))
     ) : Option (Int × Int × Int × Int × Int × Int × ByteArray × Int × Int × Int × ByteArray × Int × Int × Int × Int × Int × Int × Int × Int)).bind fun y26 =>
    letO y26.1 fun w32 =>
    letO y26.2.1 fun w33 =>
    letO y26.2.2.1 fun w34 =>
    letO y26.2.2.2.1 fun w35 =>
    letO y26.2.2.2.2.1 fun w36 =>
    letO y26.2.2.2.2.2.1 fun w37 =>
    letO y26.2.2.2.2.2.2.1 fun w38 =>
    letO y26.2.2.2.2.2.2.2.1 fun w39 =>
    letO y26.2.2.2.2.2.2.2.2.1 fun w40 =>
    letO y26.2.2.2.2.2.2.2.2.2.1 fun w41 =>
    letO y26.2.2.2.2.2.2.2.2.2.2.1 fun w42 =>
    letO y26.2.2.2.2.2.2.2.2.2.2.2.1 fun w43 =>
    letO y26.2.2.2.2.2.2.2.2.2.2.2.2.1 fun w44 =>
    letO y26.2.2.2.2.2.2.2.2.2.2.2.2.2.1 fun w45 =>
    letO y26.2.2.2.2.2.2.2.2.2.2.2.2.2.2.1 fun w46 =>
    letO y26.2.2.2.2.2.2.2.2.2.2.2.2.2.2.2.1 fun w47 =>
    letO y26.2.2.2.2.2.2.2.2.2.2.2.2.2.2.2.2.1 fun w48 =>
    letO y26.2.2.2.2.2.2.2.2.2.2.2.2.2.2.2.2.2.1 fun w49 =>
    letO y26.2.2.2.2.2.2.2.2.2.2.2.2.2.2.2.2.2.2 fun w50 =>
    some (w32, w38, w33, w34, w35, w36, w37, w39, w40, w41, w42, w43, w44, w45, w46, w47, w48, w49, w50))
  ) : Option (Int × ByteArray × Int × Int × Int × Int × Int × Int × Int × Int × ByteArray × Int × Int × Int × Int × Int × Int × Int × Int)).bind fun y1 =>
 letO y1.1 fun w7 =>
 letO y1.2.1 fun w8 =>
 letO y1.2.2.1 fun w9 =>
 letO y1.2.2.2.1 fun w10 =>
 letO y1.2.2.2.2.1 fun w11 =>
 letO y1.2.2.2.2.2.1 fun w12 =>
 letO y1.2.2.2.2.2.2.1 fun w13 =>
 letO y1.2.2.2.2.2.2.2.1 fun w14 =>
 letO y1.2.2.2.2.2.2.2.2.1 fun w15 =>
 letO y1.2.2.2.2.2.2.2.2.2.1 fun w16 =>
 letO y1.2.2.2.2.2.2.2.2.2.2.1 fun w17 =>
 letO y1.2.2.2.2.2.2.2.2.2.2.2.1 fun w18 =>
 letO y1.2.2.2.2.2.2.2.2.2.2.2.2.1 fun w19 =>
 letO y1.2.2.2.2.2.2.2.2.2.2.2.2.2.1 fun w20 =>
 letO y1.2.2.2.2.2.2.2.2.2.2.2.2.2.2.1 fun w21 =>
 letO y1.2.2.2.2.2.2.2.2.2.2.2.2.2.2.2.1 fun w22 =>
 letO y1.2.2.2.2.2.2.2.2.2.2.2.2.2.2.2.2.1 fun w23 =>
 letO y1.2.2.2.2.2.2.2.2.2.2.2.2.2.2.2.2.2.1 fun w24 =>
 letO y1.2.2.2.2.2.2.2.2.2.2.2.2.2.2.2.2.2.2 fun w25 =>
 some (TEdit.mk w7 a1.fCell a1.fIndex w8 (TShape.mk w9 (TRect.mk w10 w11 w12 w13)) (TLabel.mk w14 (TPoint.mk w15 w16) w17) (TInstance.mk w18 (TTransform.mk w19 w20 w21) w22 w23 w24 w25))
theorem run_impl_inverse (a0 : TLibrary) (a1 : TEdit) (r : TEdit) (h : F_impl_inverse a0 a1 = some r) : Fun Try.prog 76 [.agg [.bs (len a0.fCells) 4 (row gd (encCell len gd) a0.fCells)], .agg [.v (.int .i64 a1.fKind), .v (.int .i64 a1.fCell), .v (.int .i64 a1.fIndex), .v (.string a1.fName), .v (.int .i64 a1.fShape.fLayer), .v (.int .i64 a1.fShape.fBox.fX0), .v (.int .i64 a1.fShape.fBox.fY0), .v (.int .i64 a1.fShape.fBox.fX1), .v (.int .i64 a1.fShape.fBox.fY1), .v (.int .i64 a1.fLabel.fLayer), .v (.int .i64 a1.fLabel.fAt.fX), .v (.int .i64 a1.fLabel.fAt.fY), .v (.string a1.fLabel.fName), .v (.int .i64 a1.fInstance.fCell), .v (.int .i64 a1.fInstance.fPlace.fOrientation), .v (.int .i64 a1.fInstance.fPlace.fX), .v (.int .i64 a1.fInstance.fPlace.fY), .v (.int .i64 a1.fInstance.fColumns), .v (.int .i64 a1.fInstance.fRows), .v (.int .i64 a1.fInstance.fStepX), .v (.int .i64 a1.fInstance.fStepY)]] [] (.agg [.v (.int .i64 r.fKind), .v (.int .i64 r.fCell), .v (.int .i64 r.fIndex), .v (.string r.fName), .v (.int .i64 r.fShape.fLayer), .v (.int .i64 r.fShape.fBox.fX0), .v (.int .i64 r.fShape.fBox.fY0), .v (.int .i64 r.fShape.fBox.fX1), .v (.int .i64 r.fShape.fBox.fY1), .v (.int .i64 r.fLabel.fLayer), .v (.int .i64 r.fLabel.fAt.fX), .v (.int .i64 r.fLabel.fAt.fY), .v (.string r.fLabel.fName), .v (.int .i64 r.fInstance.fCell), .v (.int .i64 r.fInstance.fPlace.fOrientation), .v (.int .i64 r.fInstance.fPlace.fX), .v (.int .i64 r.fInstance.fPlace.fY), .v (.int .i64 r.fInstance.fColumns), .v (.int .i64 r.fInstance.fRows), .v (.int .i64 r.fInstance.fStepX), .v (.int .i64 r.fInstance.fStepY)]) [] true := by
 refine Fun.of_wp (oneOf [100013, 100016, 100031, 100034, 100049, 100052, 100067, 100078, 100081]) tok mixed Try.func76 (by kernel_rfl) rfl Try.ntmps76 rfl trivial (fun _ => ⟨(by simp [AV.flat, AV.flat1, AC.flat]), trivial⟩) ?_
 unfold F_impl_inverse at h
 generalize hLEN : @len = LEN at *
 generalize hGD : @gd = GD at *
 generalize hA : std = A at *
 generalize hP : Try.prog = P at *
 cbv
 replace h := of_bind h
 obtain ⟨y1, hy2, h⟩ := h
 obtain ⟨S5, hS6⟩ : ∃ S, S = some (sparse 93 [(4, .c (.ptr 256 0)), (5, .c (.ptr 320 0))] [(256, .var [.v (.int .i64 0), .v (.int .i64 0), .v (.int .i64 0), .v (.string (ByteArray.mk #[])), .v (.int .i64 0), .v (.int .i64 0), .v (.int .i64 0), .v (.int .i64 0), .v (.int .i64 0), .v (.int .i64 0), .v (.int .i64 0), .v (.int .i64 0), .v (.string (ByteArray.mk #[])), .v (.int .i64 0), .v (.int .i64 0), .v (.int .i64 0), .v (.int .i64 0), .v (.int .i64 0), .v (.int .i64 0), .v (.int .i64 0), .v (.int .i64 0)]), (320, .var [.v (.int .i64 y1.1), .v (.int .i64 a1.fCell), .v (.int .i64 a1.fIndex), .v (.string y1.2.1), .v (.int .i64 y1.2.2.1), .v (.int .i64 y1.2.2.2.1), .v (.int .i64 y1.2.2.2.2.1), .v (.int .i64 y1.2.2.2.2.2.1), .v (.int .i64 y1.2.2.2.2.2.2.1), .v (.int .i64 y1.2.2.2.2.2.2.2.1), .v (.int .i64 y1.2.2.2.2.2.2.2.2.1), .v (.int .i64 y1.2.2.2.2.2.2.2.2.2.1), .v (.string y1.2.2.2.2.2.2.2.2.2.2.1), .v (.int .i64 y1.2.2.2.2.2.2.2.2.2.2.2.1), .v (.int .i64 y1.2.2.2.2.2.2.2.2.2.2.2.2.1), .v (.int .i64 y1.2.2.2.2.2.2.2.2.2.2.2.2.2.1), .v (.int .i64 y1.2.2.2.2.2.2.2.2.2.2.2.2.2.2.1), .v (.int .i64 y1.2.2.2.2.2.2.2.2.2.2.2.2.2.2.2.1), .v (.int .i64 y1.2.2.2.2.2.2.2.2.2.2.2.2.2.2.2.2.1), .v (.int .i64 y1.2.2.2.2.2.2.2.2.2.2.2.2.2.2.2.2.2.1), .v (.int .i64 y1.2.2.2.2.2.2.2.2.2.2.2.2.2.2.2.2.2.2)])]) := ⟨_, rfl⟩
 refine ⟨S5, ?_, ?_⟩
 ·clear h
  have h := hy2
  clear hy2
  cbv
  refine fork (fun b163 => ?_) (fun b163 => ?_)
  ·replace h := of_br_t b163 h
   cbv
   injection h with h
   subst h
   subst hS6
   show St.le _ _
   exact le_sparse rfl ⟨lR _, lR _, trivial⟩ ⟨rfl, rfl, trivial⟩ rfl
  ·replace h := of_br_f b163 h
   cbv
   replace h := of_bind h
   obtain ⟨y26, hy27, h⟩ := h
   obtain ⟨S30, hS31⟩ : ∃ S, S = some (sparse 93 [(4, .c (.ptr 256 0)), (5, .c (.ptr 320 0))] [(256, .var [.v (.int .i64 0), .v (.int .i64 0), .v (.int .i64 0), .v (.string (ByteArray.mk #[])), .v (.int .i64 0), .v (.int .i64 0), .v (.int .i64 0), .v (.int .i64 0), .v (.int .i64 0), .v (.int .i64 0), .v (.int .i64 0), .v (.int .i64 0), .v (.string (ByteArray.mk #[])), .v (.int .i64 0), .v (.int .i64 0), .v (.int .i64 0), .v (.int .i64 0), .v (.int .i64 0), .v (.int .i64 0), .v (.int .i64 0), .v (.int .i64 0)]), (320, .var [.v (.int .i64 y26.1), .v (.int .i64 a1.fCell), .v (.int .i64 a1.fIndex), .v (.string y26.2.2.2.2.2.2.1), .v (.int .i64 y26.2.1), .v (.int .i64 y26.2.2.1), .v (.int .i64 y26.2.2.2.1), .v (.int .i64 y26.2.2.2.2.1), .v (.int .i64 y26.2.2.2.2.2.1), .v (.int .i64 y26.2.2.2.2.2.2.2.1), .v (.int .i64 y26.2.2.2.2.2.2.2.2.1), .v (.int .i64 y26.2.2.2.2.2.2.2.2.2.1), .v (.string y26.2.2.2.2.2.2.2.2.2.2.1), .v (.int .i64 y26.2.2.2.2.2.2.2.2.2.2.2.1), .v (.int .i64 y26.2.2.2.2.2.2.2.2.2.2.2.2.1), .v (.int .i64 y26.2.2.2.2.2.2.2.2.2.2.2.2.2.1), .v (.int .i64 y26.2.2.2.2.2.2.2.2.2.2.2.2.2.2.1), .v (.int .i64 y26.2.2.2.2.2.2.2.2.2.2.2.2.2.2.2.1), .v (.int .i64 y26.2.2.2.2.2.2.2.2.2.2.2.2.2.2.2.2.1), .v (.int .i64 y26.2.2.2.2.2.2.2.2.2.2.2.2.2.2.2.2.2.1), .v (.int .i64 y26.2.2.2.2.2.2.2.2.2.2.2.2.2.2.2.2.2.2)])]) := ⟨_, rfl⟩
   refine ⟨S30, ?_, ?_⟩
   ·clear h
    have h := hy27
    clear hy27
    cbv
    refine fork (fun b162 => ?_) (fun b162 => ?_)
    ·replace h := of_br_t b162 h
     cbv
     replace h := of_req h
     obtain ⟨c51, h⟩ := h
     refine ⟨⟨c51, trivial⟩, ?_⟩
     replace h := of_req h
     obtain ⟨c52, h⟩ := h
     refine ⟨⟨c52, trivial⟩, ?_⟩
     injection h with h
     subst h
     subst hS31
     show St.le _ _
     exact le_sparse rfl ⟨lR _, lR _, trivial⟩ ⟨rfl, rfl, trivial⟩ rfl
    ·replace h := of_br_f b162 h
     cbv
     replace h := of_bind h
     obtain ⟨y53, hy54, h⟩ := h
     obtain ⟨S57, hS58⟩ : ∃ S, S = some (sparse 93 [(4, .c (.ptr 256 0)), (5, .c (.ptr 320 0))] [(256, .var [.v (.int .i64 0), .v (.int .i64 0), .v (.int .i64 0), .v (.string (ByteArray.mk #[])), .v (.int .i64 0), .v (.int .i64 0), .v (.int .i64 0), .v (.int .i64 0), .v (.int .i64 0), .v (.int .i64 0), .v (.int .i64 0), .v (.int .i64 0), .v (.string (ByteArray.mk #[])), .v (.int .i64 0), .v (.int .i64 0), .v (.int .i64 0), .v (.int .i64 0), .v (.int .i64 0), .v (.int .i64 0), .v (.int .i64 0), .v (.int .i64 0)]), (320, .var [.v (.int .i64 y53.1), .v (.int .i64 a1.fCell), .v (.int .i64 a1.fIndex), .v (.string y53.2.1), .v (.int .i64 0), .v (.int .i64 0), .v (.int .i64 0), .v (.int .i64 0), .v (.int .i64 0), .v (.int .i64 y53.2.2.1), .v (.int .i64 y53.2.2.2.1), .v (.int .i64 y53.2.2.2.2.1), .v (.string y53.2.2.2.2.2.1), .v (.int .i64 y53.2.2.2.2.2.2.1), .v (.int .i64 y53.2.2.2.2.2.2.2.1), .v (.int .i64 y53.2.2.2.2.2.2.2.2.1), .v (.int .i64 y53.2.2.2.2.2.2.2.2.2.1), .v (.int .i64 y53.2.2.2.2.2.2.2.2.2.2.1), .v (.int .i64 y53.2.2.2.2.2.2.2.2.2.2.2.1), .v (.int .i64 y53.2.2.2.2.2.2.2.2.2.2.2.2.1), .v (.int .i64 y53.2.2.2.2.2.2.2.2.2.2.2.2.2)])]) := ⟨_, rfl⟩
     refine ⟨S57, ?_, ?_⟩
     ·clear h
      have h := hy54
      clear hy54
      cbv
      refine fork (fun b161 => ?_) (fun b161 => ?_)
      ·replace h := of_br_t b161 h
       cbv
       injection h with h
       subst h
       subst hS58
       show St.le _ _
       exact le_sparse rfl ⟨lR _, lR _, trivial⟩ ⟨rfl, rfl, trivial⟩ rfl
      ·replace h := of_br_f b161 h
       cbv
       replace h := of_bind h
       obtain ⟨y73, hy74, h⟩ := h
       obtain ⟨S77, hS78⟩ : ∃ S, S = some (sparse 93 [(4, .c (.ptr 256 0)), (5, .c (.ptr 320 0))] [(256, .var [.v (.int .i64 0), .v (.int .i64 0), .v (.int .i64 0), .v (.string (ByteArray.mk #[])), .v (.int .i64 0), .v (.int .i64 0), .v (.int .i64 0), .v (.int .i64 0), .v (.int .i64 0), .v (.int .i64 0), .v (.int .i64 0), .v (.int .i64 0), .v (.string (ByteArray.mk #[])), .v (.int .i64 0), .v (.int .i64 0), .v (.int .i64 0), .v (.int .i64 0), .v (.int .i64 0), .v (.int .i64 0), .v (.int .i64 0), .v (.int .i64 0)]), (320, .var [.v (.int .i64 y73.1), .v (.int .i64 a1.fCell), .v (.int .i64 a1.fIndex), .v (.string y73.2.2.2.2.2.1), .v (.int .i64 0), .v (.int .i64 0), .v (.int .i64 0), .v (.int .i64 0), .v (.int .i64 0), .v (.int .i64 y73.2.1), .v (.int .i64 y73.2.2.1), .v (.int .i64 y73.2.2.2.1), .v (.string y73.2.2.2.2.1), .v (.int .i64 y73.2.2.2.2.2.2.1), .v (.int .i64 y73.2.2.2.2.2.2.2.1), .v (.int .i64 y73.2.2.2.2.2.2.2.2.1), .v (.int .i64 y73.2.2.2.2.2.2.2.2.2.1), .v (.int .i64 y73.2.2.2.2.2.2.2.2.2.2.1), .v (.int .i64 y73.2.2.2.2.2.2.2.2.2.2.2.1), .v (.int .i64 y73.2.2.2.2.2.2.2.2.2.2.2.2.1), .v (.int .i64 y73.2.2.2.2.2.2.2.2.2.2.2.2.2)])]) := ⟨_, rfl⟩
       refine ⟨S77, ?_, ?_⟩
       ·clear h
        have h := hy74
        clear hy74
        cbv
        refine fork (fun b160 => ?_) (fun b160 => ?_)
        ·replace h := of_br_t b160 h
         cbv
         replace h := of_req h
         obtain ⟨c93, h⟩ := h
         refine ⟨⟨c93, trivial⟩, ?_⟩
         replace h := of_req h
         obtain ⟨c94, h⟩ := h
         refine ⟨⟨c94, trivial⟩, ?_⟩
         injection h with h
         subst h
         subst hS78
         show St.le _ _
         exact le_sparse rfl ⟨lR _, lR _, trivial⟩ ⟨rfl, rfl, trivial⟩ rfl
        ·replace h := of_br_f b160 h
         cbv
         replace h := of_bind h
         obtain ⟨y95, hy96, h⟩ := h
         obtain ⟨S99, hS100⟩ : ∃ S, S = some (sparse 93 [(4, .c (.ptr 256 0)), (5, .c (.ptr 320 0))] [(256, .var [.v (.int .i64 0), .v (.int .i64 0), .v (.int .i64 0), .v (.string (ByteArray.mk #[])), .v (.int .i64 0), .v (.int .i64 0), .v (.int .i64 0), .v (.int .i64 0), .v (.int .i64 0), .v (.int .i64 0), .v (.int .i64 0), .v (.int .i64 0), .v (.string (ByteArray.mk #[])), .v (.int .i64 0), .v (.int .i64 0), .v (.int .i64 0), .v (.int .i64 0), .v (.int .i64 0), .v (.int .i64 0), .v (.int .i64 0), .v (.int .i64 0)]), (320, .var [.v (.int .i64 y95.1), .v (.int .i64 a1.fCell), .v (.int .i64 a1.fIndex), .v (.string y95.2.1), .v (.int .i64 0), .v (.int .i64 0), .v (.int .i64 0), .v (.int .i64 0), .v (.int .i64 0), .v (.int .i64 0), .v (.int .i64 0), .v (.int .i64 0), .v (.string (ByteArray.mk #[])), .v (.int .i64 y95.2.2.1), .v (.int .i64 y95.2.2.2.1), .v (.int .i64 y95.2.2.2.2.1), .v (.int .i64 y95.2.2.2.2.2.1), .v (.int .i64 y95.2.2.2.2.2.2.1), .v (.int .i64 y95.2.2.2.2.2.2.2.1), .v (.int .i64 y95.2.2.2.2.2.2.2.2.1), .v (.int .i64 y95.2.2.2.2.2.2.2.2.2)])]) := ⟨_, rfl⟩
         refine ⟨S99, ?_, ?_⟩
         ·clear h
          have h := hy96
          clear hy96
          cbv
          refine fork (fun b159 => ?_) (fun b159 => ?_)
          ·replace h := of_br_t b159 h
           cbv
           injection h with h
           subst h
           subst hS100
           show St.le _ _
           exact le_sparse rfl ⟨lR _, lR _, trivial⟩ ⟨rfl, rfl, trivial⟩ rfl
          ·replace h := of_br_f b159 h
           cbv
           replace h := of_bind h
           obtain ⟨y111, hy112, h⟩ := h
           obtain ⟨S115, hS116⟩ : ∃ S, S = some (sparse 93 [(4, .c (.ptr 256 0)), (5, .c (.ptr 320 0))] [(256, .var [.v (.int .i64 0), .v (.int .i64 0), .v (.int .i64 0), .v (.string (ByteArray.mk #[])), .v (.int .i64 0), .v (.int .i64 0), .v (.int .i64 0), .v (.int .i64 0), .v (.int .i64 0), .v (.int .i64 0), .v (.int .i64 0), .v (.int .i64 0), .v (.string (ByteArray.mk #[])), .v (.int .i64 0), .v (.int .i64 0), .v (.int .i64 0), .v (.int .i64 0), .v (.int .i64 0), .v (.int .i64 0), .v (.int .i64 0), .v (.int .i64 0)]), (320, .var [.v (.int .i64 y111.1), .v (.int .i64 a1.fCell), .v (.int .i64 a1.fIndex), .v (.string y111.2.2.2.2.2.2.2.2.2), .v (.int .i64 0), .v (.int .i64 0), .v (.int .i64 0), .v (.int .i64 0), .v (.int .i64 0), .v (.int .i64 0), .v (.int .i64 0), .v (.int .i64 0), .v (.string (ByteArray.mk #[])), .v (.int .i64 y111.2.1), .v (.int .i64 y111.2.2.1), .v (.int .i64 y111.2.2.2.1), .v (.int .i64 y111.2.2.2.2.1), .v (.int .i64 y111.2.2.2.2.2.1), .v (.int .i64 y111.2.2.2.2.2.2.1), .v (.int .i64 y111.2.2.2.2.2.2.2.1), .v (.int .i64 y111.2.2.2.2.2.2.2.2.1)])]) := ⟨_, rfl⟩
           refine ⟨S115, ?_, ?_⟩
           ·clear h
            have h := hy112
            clear hy112
            cbv
            refine fork (fun b158 => ?_) (fun b158 => ?_)
            ·replace h := of_br_t b158 h
             cbv
             replace h := of_req h
             obtain ⟨c127, h⟩ := h
             refine ⟨⟨c127, trivial⟩, ?_⟩
             replace h := of_req h
             obtain ⟨c128, h⟩ := h
             refine ⟨⟨c128, trivial⟩, ?_⟩
             injection h with h
             subst h
             subst hS116
             show St.le _ _
             exact le_sparse rfl ⟨lR _, lR _, trivial⟩ ⟨rfl, rfl, trivial⟩ rfl
            ·replace h := of_br_f b158 h
             cbv
             replace h := of_bind h
             obtain ⟨y129, hy130, h⟩ := h
             obtain ⟨S133, hS134⟩ : ∃ S, S = some (sparse 93 [(4, .c (.ptr 256 0)), (5, .c (.ptr 320 0))] [(256, .var [.v (.int .i64 0), .v (.int .i64 0), .v (.int .i64 0), .v (.string (ByteArray.mk #[])), .v (.int .i64 0), .v (.int .i64 0), .v (.int .i64 0), .v (.int .i64 0), .v (.int .i64 0), .v (.int .i64 0), .v (.int .i64 0), .v (.int .i64 0), .v (.string (ByteArray.mk #[])), .v (.int .i64 0), .v (.int .i64 0), .v (.int .i64 0), .v (.int .i64 0), .v (.int .i64 0), .v (.int .i64 0), .v (.int .i64 0), .v (.int .i64 0)]), (320, .var [.v (.int .i64 y129.1), .v (.int .i64 a1.fCell), .v (.int .i64 a1.fIndex), .v (.string y129.2), .v (.int .i64 0), .v (.int .i64 0), .v (.int .i64 0), .v (.int .i64 0), .v (.int .i64 0), .v (.int .i64 0), .v (.int .i64 0), .v (.int .i64 0), .v (.string (ByteArray.mk #[])), .v (.int .i64 0), .v (.int .i64 0), .v (.int .i64 0), .v (.int .i64 0), .v (.int .i64 0), .v (.int .i64 0), .v (.int .i64 0), .v (.int .i64 0)])]) := ⟨_, rfl⟩
             refine ⟨S133, ?_, ?_⟩
             ·clear h
              have h := hy130
              clear hy130
              cbv
              refine fork (fun b157 => ?_) (fun b157 => ?_)
              ·replace h := of_br_t b157 h
               cbv
               replace h := of_req h
               obtain ⟨c137, h⟩ := h
               refine ⟨⟨c137, trivial⟩, ?_⟩
               injection h with h
               subst h
               subst hS134
               show St.le _ _
               exact le_sparse rfl ⟨lR _, lR _, trivial⟩ ⟨rfl, rfl, trivial⟩ rfl
              ·replace h := of_br_f b157 h
               cbv
               replace h := of_bind h
               obtain ⟨y138, hy139, h⟩ := h
               obtain ⟨S142, hS143⟩ : ∃ S, S = some (sparse 93 [(4, .c (.ptr 256 0)), (5, .c (.ptr 320 0))] [(256, .var [.v (.int .i64 0), .v (.int .i64 0), .v (.int .i64 0), .v (.string (ByteArray.mk #[])), .v (.int .i64 0), .v (.int .i64 0), .v (.int .i64 0), .v (.int .i64 0), .v (.int .i64 0), .v (.int .i64 0), .v (.int .i64 0), .v (.int .i64 0), .v (.string (ByteArray.mk #[])), .v (.int .i64 0), .v (.int .i64 0), .v (.int .i64 0), .v (.int .i64 0), .v (.int .i64 0), .v (.int .i64 0), .v (.int .i64 0), .v (.int .i64 0)]), (320, .var [.v (.int .i64 y138.1), .v (.int .i64 a1.fCell), .v (.int .i64 a1.fIndex), .v (.string y138.2), .v (.int .i64 0), .v (.int .i64 0), .v (.int .i64 0), .v (.int .i64 0), .v (.int .i64 0), .v (.int .i64 0), .v (.int .i64 0), .v (.int .i64 0), .v (.string (ByteArray.mk #[])), .v (.int .i64 0), .v (.int .i64 0), .v (.int .i64 0), .v (.int .i64 0), .v (.int .i64 0), .v (.int .i64 0), .v (.int .i64 0), .v (.int .i64 0)])]) := ⟨_, rfl⟩
               refine ⟨S142, ?_, ?_⟩
               ·clear h
                have h := hy139
                clear hy139
                cbv
                refine fork (fun b156 => ?_) (fun b156 => ?_)
                ·replace h := of_br_t b156 h
                 cbv
                 injection h with h
                 subst h
                 subst hS143
                 show St.le _ _
                 exact le_sparse rfl ⟨lR _, lR _, trivial⟩ ⟨rfl, rfl, trivial⟩ rfl
                ·replace h := of_br_f b156 h
                 cbv
                 replace h := of_bind h
                 obtain ⟨y146, hy147, h⟩ := h
                 obtain ⟨S150, hS151⟩ : ∃ S, S = some (sparse 93 [(4, .c (.ptr 256 0)), (5, .c (.ptr 320 0))] [(256, .var [.v (.int .i64 0), .v (.int .i64 0), .v (.int .i64 0), .v (.string (ByteArray.mk #[])), .v (.int .i64 0), .v (.int .i64 0), .v (.int .i64 0), .v (.int .i64 0), .v (.int .i64 0), .v (.int .i64 0), .v (.int .i64 0), .v (.int .i64 0), .v (.string (ByteArray.mk #[])), .v (.int .i64 0), .v (.int .i64 0), .v (.int .i64 0), .v (.int .i64 0), .v (.int .i64 0), .v (.int .i64 0), .v (.int .i64 0), .v (.int .i64 0)]), (320, .var [.v (.int .i64 y146.1), .v (.int .i64 a1.fCell), .v (.int .i64 a1.fIndex), .v (.string y146.2), .v (.int .i64 0), .v (.int .i64 0), .v (.int .i64 0), .v (.int .i64 0), .v (.int .i64 0), .v (.int .i64 0), .v (.int .i64 0), .v (.int .i64 0), .v (.string (ByteArray.mk #[])), .v (.int .i64 0), .v (.int .i64 0), .v (.int .i64 0), .v (.int .i64 0), .v (.int .i64 0), .v (.int .i64 0), .v (.int .i64 0), .v (.int .i64 0)])]) := ⟨_, rfl⟩
                 refine ⟨S150, ?_, ?_⟩
                 ·clear h
                  have h := hy147
                  clear hy147
                  cbv
                  refine fork (fun b155 => ?_) (fun b155 => ?_)
                  ·replace h := of_br_t b155 h
                   cbv
                   replace h := of_req h
                   obtain ⟨c154, h⟩ := h
                   refine ⟨⟨c154, trivial⟩, ?_⟩
                   injection h with h
                   subst h
                   subst hS151
                   show St.le _ _
                   exact le_sparse rfl ⟨lR _, lR _, trivial⟩ ⟨rfl, rfl, trivial⟩ rfl
                  ·replace h := of_br_f b155 h
                   cbv
                   injection h with h
                   subst h
                   subst hS151
                   show St.le _ _
                   exact le_sparse rfl ⟨lR _, lR _, trivial⟩ ⟨rfl, rfl, trivial⟩ rfl
                 ·clear hy147
                  subst hS151
                  obtain ⟨y146_0, y146_1⟩ := y146
                  replace h := of_let h
                  obtain ⟨w152, hw152, h⟩ := h
                  have hw152 : w152 = y146_0 := hw152
                  subst hw152
                  replace h := of_let h
                  obtain ⟨w153, hw153, h⟩ := h
                  have hw153 : w153 = y146_1 := hw153
                  subst hw153
                  cbv
                  injection h with h
                  subst h
                  subst hS143
                  show St.le _ _
                  exact le_sparse rfl ⟨lR _, lR _, trivial⟩ ⟨rfl, rfl, trivial⟩ rfl
               ·clear hy139
                subst hS143
                obtain ⟨y138_0, y138_1⟩ := y138
                replace h := of_let h
                obtain ⟨w144, hw144, h⟩ := h
                have hw144 : w144 = y138_0 := hw144
                subst hw144
                replace h := of_let h
                obtain ⟨w145, hw145, h⟩ := h
                have hw145 : w145 = y138_1 := hw145
                subst hw145
                cbv
                injection h with h
                subst h
                subst hS134
                show St.le _ _
                exact le_sparse rfl ⟨lR _, lR _, trivial⟩ ⟨rfl, rfl, trivial⟩ rfl
             ·clear hy130
              subst hS134
              obtain ⟨y129_0, y129_1⟩ := y129
              replace h := of_let h
              obtain ⟨w135, hw135, h⟩ := h
              have hw135 : w135 = y129_0 := hw135
              subst hw135
              replace h := of_let h
              obtain ⟨w136, hw136, h⟩ := h
              have hw136 : w136 = y129_1 := hw136
              subst hw136
              cbv
              injection h with h
              subst h
              subst hS116
              show St.le _ _
              exact le_sparse rfl ⟨lR _, lR _, trivial⟩ ⟨rfl, rfl, trivial⟩ rfl
           ·clear hy112
            subst hS116
            obtain ⟨y111_0, y111_1, y111_2, y111_3, y111_4, y111_5, y111_6, y111_7, y111_8, y111_9⟩ := y111
            replace h := of_let h
            obtain ⟨w117, hw117, h⟩ := h
            have hw117 : w117 = y111_0 := hw117
            subst hw117
            replace h := of_let h
            obtain ⟨w118, hw118, h⟩ := h
            have hw118 : w118 = y111_1 := hw118
            subst hw118
            replace h := of_let h
            obtain ⟨w119, hw119, h⟩ := h
            have hw119 : w119 = y111_2 := hw119
            subst hw119
            replace h := of_let h
            obtain ⟨w120, hw120, h⟩ := h
            have hw120 : w120 = y111_3 := hw120
            subst hw120
            replace h := of_let h
            obtain ⟨w121, hw121, h⟩ := h
            have hw121 : w121 = y111_4 := hw121
            subst hw121
            replace h := of_let h
            obtain ⟨w122, hw122, h⟩ := h
            have hw122 : w122 = y111_5 := hw122
            subst hw122
            replace h := of_let h
            obtain ⟨w123, hw123, h⟩ := h
            have hw123 : w123 = y111_6 := hw123
            subst hw123
            replace h := of_let h
            obtain ⟨w124, hw124, h⟩ := h
            have hw124 : w124 = y111_7 := hw124
            subst hw124
            replace h := of_let h
            obtain ⟨w125, hw125, h⟩ := h
            have hw125 : w125 = y111_8 := hw125
            subst hw125
            replace h := of_let h
            obtain ⟨w126, hw126, h⟩ := h
            have hw126 : w126 = y111_9 := hw126
            subst hw126
            cbv
            injection h with h
            subst h
            subst hS100
            show St.le _ _
            exact le_sparse rfl ⟨lR _, lR _, trivial⟩ ⟨rfl, rfl, trivial⟩ rfl
         ·clear hy96
          subst hS100
          obtain ⟨y95_0, y95_1, y95_2, y95_3, y95_4, y95_5, y95_6, y95_7, y95_8, y95_9⟩ := y95
          replace h := of_let h
          obtain ⟨w101, hw101, h⟩ := h
          have hw101 : w101 = y95_0 := hw101
          subst hw101
          replace h := of_let h
          obtain ⟨w102, hw102, h⟩ := h
          have hw102 : w102 = y95_1 := hw102
          subst hw102
          replace h := of_let h
          obtain ⟨w103, hw103, h⟩ := h
          have hw103 : w103 = y95_2 := hw103
          subst hw103
          replace h := of_let h
          obtain ⟨w104, hw104, h⟩ := h
          have hw104 : w104 = y95_3 := hw104
          subst hw104
          replace h := of_let h
          obtain ⟨w105, hw105, h⟩ := h
          have hw105 : w105 = y95_4 := hw105
          subst hw105
          replace h := of_let h
          obtain ⟨w106, hw106, h⟩ := h
          have hw106 : w106 = y95_5 := hw106
          subst hw106
          replace h := of_let h
          obtain ⟨w107, hw107, h⟩ := h
          have hw107 : w107 = y95_6 := hw107
          subst hw107
          replace h := of_let h
          obtain ⟨w108, hw108, h⟩ := h
          have hw108 : w108 = y95_7 := hw108
          subst hw108
          replace h := of_let h
          obtain ⟨w109, hw109, h⟩ := h
          have hw109 : w109 = y95_8 := hw109
          subst hw109
          replace h := of_let h
          obtain ⟨w110, hw110, h⟩ := h
          have hw110 : w110 = y95_9 := hw110
          subst hw110
          cbv
          injection h with h
          subst h
          subst hS78
          show St.le _ _
          exact le_sparse rfl ⟨lR _, lR _, trivial⟩ ⟨rfl, rfl, trivial⟩ rfl
       ·clear hy74
        subst hS78
        obtain ⟨y73_0, y73_1, y73_2, y73_3, y73_4, y73_5, y73_6, y73_7, y73_8, y73_9, y73_10, y73_11, y73_12, y73_13⟩ := y73
        replace h := of_let h
        obtain ⟨w79, hw79, h⟩ := h
        have hw79 : w79 = y73_0 := hw79
        subst hw79
        replace h := of_let h
        obtain ⟨w80, hw80, h⟩ := h
        have hw80 : w80 = y73_1 := hw80
        subst hw80
        replace h := of_let h
        obtain ⟨w81, hw81, h⟩ := h
        have hw81 : w81 = y73_2 := hw81
        subst hw81
        replace h := of_let h
        obtain ⟨w82, hw82, h⟩ := h
        have hw82 : w82 = y73_3 := hw82
        subst hw82
        replace h := of_let h
        obtain ⟨w83, hw83, h⟩ := h
        have hw83 : w83 = y73_4 := hw83
        subst hw83
        replace h := of_let h
        obtain ⟨w84, hw84, h⟩ := h
        have hw84 : w84 = y73_5 := hw84
        subst hw84
        replace h := of_let h
        obtain ⟨w85, hw85, h⟩ := h
        have hw85 : w85 = y73_6 := hw85
        subst hw85
        replace h := of_let h
        obtain ⟨w86, hw86, h⟩ := h
        have hw86 : w86 = y73_7 := hw86
        subst hw86
        replace h := of_let h
        obtain ⟨w87, hw87, h⟩ := h
        have hw87 : w87 = y73_8 := hw87
        subst hw87
        replace h := of_let h
        obtain ⟨w88, hw88, h⟩ := h
        have hw88 : w88 = y73_9 := hw88
        subst hw88
        replace h := of_let h
        obtain ⟨w89, hw89, h⟩ := h
        have hw89 : w89 = y73_10 := hw89
        subst hw89
        replace h := of_let h
        obtain ⟨w90, hw90, h⟩ := h
        have hw90 : w90 = y73_11 := hw90
        subst hw90
        replace h := of_let h
        obtain ⟨w91, hw91, h⟩ := h
        have hw91 : w91 = y73_12 := hw91
        subst hw91
        replace h := of_let h
        obtain ⟨w92, hw92, h⟩ := h
        have hw92 : w92 = y73_13 := hw92
        subst hw92
        cbv
        injection h with h
        subst h
        subst hS58
        show St.le _ _
        exact le_sparse rfl ⟨lR _, lR _, trivial⟩ ⟨rfl, rfl, trivial⟩ rfl
     ·clear hy54
      subst hS58
      obtain ⟨y53_0, y53_1, y53_2, y53_3, y53_4, y53_5, y53_6, y53_7, y53_8, y53_9, y53_10, y53_11, y53_12, y53_13⟩ := y53
      replace h := of_let h
      obtain ⟨w59, hw59, h⟩ := h
      have hw59 : w59 = y53_0 := hw59
      subst hw59
      replace h := of_let h
      obtain ⟨w60, hw60, h⟩ := h
      have hw60 : w60 = y53_1 := hw60
      subst hw60
      replace h := of_let h
      obtain ⟨w61, hw61, h⟩ := h
      have hw61 : w61 = y53_2 := hw61
      subst hw61
      replace h := of_let h
      obtain ⟨w62, hw62, h⟩ := h
      have hw62 : w62 = y53_3 := hw62
      subst hw62
      replace h := of_let h
      obtain ⟨w63, hw63, h⟩ := h
      have hw63 : w63 = y53_4 := hw63
      subst hw63
      replace h := of_let h
      obtain ⟨w64, hw64, h⟩ := h
      have hw64 : w64 = y53_5 := hw64
      subst hw64
      replace h := of_let h
      obtain ⟨w65, hw65, h⟩ := h
      have hw65 : w65 = y53_6 := hw65
      subst hw65
      replace h := of_let h
      obtain ⟨w66, hw66, h⟩ := h
      have hw66 : w66 = y53_7 := hw66
      subst hw66
      replace h := of_let h
      obtain ⟨w67, hw67, h⟩ := h
      have hw67 : w67 = y53_8 := hw67
      subst hw67
      replace h := of_let h
      obtain ⟨w68, hw68, h⟩ := h
      have hw68 : w68 = y53_9 := hw68
      subst hw68
      replace h := of_let h
      obtain ⟨w69, hw69, h⟩ := h
      have hw69 : w69 = y53_10 := hw69
      subst hw69
      replace h := of_let h
      obtain ⟨w70, hw70, h⟩ := h
      have hw70 : w70 = y53_11 := hw70
      subst hw70
      replace h := of_let h
      obtain ⟨w71, hw71, h⟩ := h
      have hw71 : w71 = y53_12 := hw71
      subst hw71
      replace h := of_let h
      obtain ⟨w72, hw72, h⟩ := h
      have hw72 : w72 = y53_13 := hw72
      subst hw72
      cbv
      injection h with h
      subst h
      subst hS31
      show St.le _ _
      exact le_sparse rfl ⟨lR _, lR _, trivial⟩ ⟨rfl, rfl, trivial⟩ rfl
   ·clear hy27
    subst hS31
    obtain ⟨y26_0, y26_1, y26_2, y26_3, y26_4, y26_5, y26_6, y26_7, y26_8, y26_9, y26_10, y26_11, y26_12, y26_13, y26_14, y26_15, y26_16, y26_17, y26_18⟩ := y26
    replace h := of_let h
    obtain ⟨w32, hw32, h⟩ := h
    have hw32 : w32 = y26_0 := hw32
    subst hw32
    replace h := of_let h
    obtain ⟨w33, hw33, h⟩ := h
    have hw33 : w33 = y26_1 := hw33
    subst hw33
    replace h := of_let h
    obtain ⟨w34, hw34, h⟩ := h
    have hw34 : w34 = y26_2 := hw34
    subst hw34
    replace h := of_let h
    obtain ⟨w35, hw35, h⟩ := h
    have hw35 : w35 = y26_3 := hw35
    subst hw35
    replace h := of_let h
    obtain ⟨w36, hw36, h⟩ := h
    have hw36 : w36 = y26_4 := hw36
    subst hw36
    replace h := of_let h
    obtain ⟨w37, hw37, h⟩ := h
    have hw37 : w37 = y26_5 := hw37
    subst hw37
    replace h := of_let h
    obtain ⟨w38, hw38, h⟩ := h
    have hw38 : w38 = y26_6 := hw38
    subst hw38
    replace h := of_let h
    obtain ⟨w39, hw39, h⟩ := h
    have hw39 : w39 = y26_7 := hw39
    subst hw39
    replace h := of_let h
    obtain ⟨w40, hw40, h⟩ := h
    have hw40 : w40 = y26_8 := hw40
    subst hw40
    replace h := of_let h
    obtain ⟨w41, hw41, h⟩ := h
    have hw41 : w41 = y26_9 := hw41
    subst hw41
    replace h := of_let h
    obtain ⟨w42, hw42, h⟩ := h
    have hw42 : w42 = y26_10 := hw42
    subst hw42
    replace h := of_let h
    obtain ⟨w43, hw43, h⟩ := h
    have hw43 : w43 = y26_11 := hw43
    subst hw43
    replace h := of_let h
    obtain ⟨w44, hw44, h⟩ := h
    have hw44 : w44 = y26_12 := hw44
    subst hw44
    replace h := of_let h
    obtain ⟨w45, hw45, h⟩ := h
    have hw45 : w45 = y26_13 := hw45
    subst hw45
    replace h := of_let h
    obtain ⟨w46, hw46, h⟩ := h
    have hw46 : w46 = y26_14 := hw46
    subst hw46
    replace h := of_let h
    obtain ⟨w47, hw47, h⟩ := h
    have hw47 : w47 = y26_15 := hw47
    subst hw47
    replace h := of_let h
    obtain ⟨w48, hw48, h⟩ := h
    have hw48 : w48 = y26_16 := hw48
    subst hw48
    replace h := of_let h
    obtain ⟨w49, hw49, h⟩ := h
    have hw49 : w49 = y26_17 := hw49
    subst hw49
    replace h := of_let h
    obtain ⟨w50, hw50, h⟩ := h
    have hw50 : w50 = y26_18 := hw50
    subst hw50
    cbv
    injection h with h
    subst h
    subst hS6
    show St.le _ _
    exact le_sparse rfl ⟨lR _, lR _, trivial⟩ ⟨rfl, rfl, trivial⟩ rfl
 ·clear hy2
  subst hS6
  obtain ⟨y1_0, y1_1, y1_2, y1_3, y1_4, y1_5, y1_6, y1_7, y1_8, y1_9, y1_10, y1_11, y1_12, y1_13, y1_14, y1_15, y1_16, y1_17, y1_18⟩ := y1
  replace h := of_let h
  obtain ⟨w7, hw7, h⟩ := h
  have hw7 : w7 = y1_0 := hw7
  subst hw7
  replace h := of_let h
  obtain ⟨w8, hw8, h⟩ := h
  have hw8 : w8 = y1_1 := hw8
  subst hw8
  replace h := of_let h
  obtain ⟨w9, hw9, h⟩ := h
  have hw9 : w9 = y1_2 := hw9
  subst hw9
  replace h := of_let h
  obtain ⟨w10, hw10, h⟩ := h
  have hw10 : w10 = y1_3 := hw10
  subst hw10
  replace h := of_let h
  obtain ⟨w11, hw11, h⟩ := h
  have hw11 : w11 = y1_4 := hw11
  subst hw11
  replace h := of_let h
  obtain ⟨w12, hw12, h⟩ := h
  have hw12 : w12 = y1_5 := hw12
  subst hw12
  replace h := of_let h
  obtain ⟨w13, hw13, h⟩ := h
  have hw13 : w13 = y1_6 := hw13
  subst hw13
  replace h := of_let h
  obtain ⟨w14, hw14, h⟩ := h
  have hw14 : w14 = y1_7 := hw14
  subst hw14
  replace h := of_let h
  obtain ⟨w15, hw15, h⟩ := h
  have hw15 : w15 = y1_8 := hw15
  subst hw15
  replace h := of_let h
  obtain ⟨w16, hw16, h⟩ := h
  have hw16 : w16 = y1_9 := hw16
  subst hw16
  replace h := of_let h
  obtain ⟨w17, hw17, h⟩ := h
  have hw17 : w17 = y1_10 := hw17
  subst hw17
  replace h := of_let h
  obtain ⟨w18, hw18, h⟩ := h
  have hw18 : w18 = y1_11 := hw18
  subst hw18
  replace h := of_let h
  obtain ⟨w19, hw19, h⟩ := h
  have hw19 : w19 = y1_12 := hw19
  subst hw19
  replace h := of_let h
  obtain ⟨w20, hw20, h⟩ := h
  have hw20 : w20 = y1_13 := hw20
  subst hw20
  replace h := of_let h
  obtain ⟨w21, hw21, h⟩ := h
  have hw21 : w21 = y1_14 := hw21
  subst hw21
  replace h := of_let h
  obtain ⟨w22, hw22, h⟩ := h
  have hw22 : w22 = y1_15 := hw22
  subst hw22
  replace h := of_let h
  obtain ⟨w23, hw23, h⟩ := h
  have hw23 : w23 = y1_16 := hw23
  subst hw23
  replace h := of_let h
  obtain ⟨w24, hw24, h⟩ := h
  have hw24 : w24 = y1_17 := hw24
  subst hw24
  replace h := of_let h
  obtain ⟨w25, hw25, h⟩ := h
  have hw25 : w25 = y1_18 := hw25
  subst hw25
  cbv
  injection h with h
  subst h
  refine ⟨(sparse 93 [(4, .c (.ptr 256 0))] [(256, .var [.v (.int .i64 w7), .v (.int .i64 a1.fCell), .v (.int .i64 a1.fIndex), .v (.string w8), .v (.int .i64 w9), .v (.int .i64 w10), .v (.int .i64 w11), .v (.int .i64 w12), .v (.int .i64 w13), .v (.int .i64 w14), .v (.int .i64 w15), .v (.int .i64 w16), .v (.string w17), .v (.int .i64 w18), .v (.int .i64 w19), .v (.int .i64 w20), .v (.int .i64 w21), .v (.int .i64 w22), .v (.int .i64 w23), .v (.int .i64 w24), .v (.int .i64 w25)])]), ?_, ?_⟩
  ·exact le_sparse rfl ⟨lR _, trivial⟩ ⟨rfl, trivial⟩ rfl
  ·exact ⟨lR _, trivial, rfl⟩

/-- impl.InverseEdit -/
noncomputable def F_impl_InverseEdit (a0 : TLibrary) (a1 : TEdit) : Option (TEdit × Int) :=
 (F_impl_editCode a0 a1).bind fun y1 =>
 br (std.not (std.eq y1 0))
 (some ((TEdit.mk 0 0 0 (ByteArray.mk #[]) (TShape.mk 0 (TRect.mk 0 0 0 0)) (TLabel.mk 0 (TPoint.mk 0 0) (ByteArray.mk #[])) (TInstance.mk 0 (TTransform.mk 0 0 0) 0 0 0 0)), y1))
 ((F_impl_inverse a0 a1).bind fun y3 =>
 some (y3, (0 : Int)))
theorem run_impl_InverseEdit (a0 : TLibrary) (a1 : TEdit) (r : TEdit × Int) (h : F_impl_InverseEdit a0 a1 = some r) : Fun Try.prog 36 [.agg [.bs (len a0.fCells) 4 (row gd (encCell len gd) a0.fCells)], .agg [.v (.int .i64 a1.fKind), .v (.int .i64 a1.fCell), .v (.int .i64 a1.fIndex), .v (.string a1.fName), .v (.int .i64 a1.fShape.fLayer), .v (.int .i64 a1.fShape.fBox.fX0), .v (.int .i64 a1.fShape.fBox.fY0), .v (.int .i64 a1.fShape.fBox.fX1), .v (.int .i64 a1.fShape.fBox.fY1), .v (.int .i64 a1.fLabel.fLayer), .v (.int .i64 a1.fLabel.fAt.fX), .v (.int .i64 a1.fLabel.fAt.fY), .v (.string a1.fLabel.fName), .v (.int .i64 a1.fInstance.fCell), .v (.int .i64 a1.fInstance.fPlace.fOrientation), .v (.int .i64 a1.fInstance.fPlace.fX), .v (.int .i64 a1.fInstance.fPlace.fY), .v (.int .i64 a1.fInstance.fColumns), .v (.int .i64 a1.fInstance.fRows), .v (.int .i64 a1.fInstance.fStepX), .v (.int .i64 a1.fInstance.fStepY)]] [] (.tup [.agg [.v (.int .i64 r.1.fKind), .v (.int .i64 r.1.fCell), .v (.int .i64 r.1.fIndex), .v (.string r.1.fName), .v (.int .i64 r.1.fShape.fLayer), .v (.int .i64 r.1.fShape.fBox.fX0), .v (.int .i64 r.1.fShape.fBox.fY0), .v (.int .i64 r.1.fShape.fBox.fX1), .v (.int .i64 r.1.fShape.fBox.fY1), .v (.int .i64 r.1.fLabel.fLayer), .v (.int .i64 r.1.fLabel.fAt.fX), .v (.int .i64 r.1.fLabel.fAt.fY), .v (.string r.1.fLabel.fName), .v (.int .i64 r.1.fInstance.fCell), .v (.int .i64 r.1.fInstance.fPlace.fOrientation), .v (.int .i64 r.1.fInstance.fPlace.fX), .v (.int .i64 r.1.fInstance.fPlace.fY), .v (.int .i64 r.1.fInstance.fColumns), .v (.int .i64 r.1.fInstance.fRows), .v (.int .i64 r.1.fInstance.fStepX), .v (.int .i64 r.1.fInstance.fStepY)], .c (.v (.int .i64 r.2))]) [] true := by
 refine Fun.of_wp (oneOf []) tok mixed Try.func36 (by kernel_rfl) rfl Try.ntmps36 rfl trivial (fun _ => ⟨(by simp [AV.flat, AV.flat1, AC.flat]), trivial⟩) ?_
 unfold F_impl_InverseEdit at h
 have hf_impl_editCode := @run_impl_editCode
 have hf_impl_inverse := @run_impl_inverse
 generalize hLEN : @len = LEN at *
 generalize hGD : @gd = GD at *
 generalize hA : std = A at *
 generalize hP : Try.prog = P at *
 cbv
 replace h := of_bind h
 obtain ⟨y1, hy2, h⟩ := h
 refine ⟨{ args := [.agg [.bs (LEN a0.fCells) 4 (row GD (encCell LEN GD) a0.fCells)], .agg [.v (.int .i64 a1.fKind), .v (.int .i64 a1.fCell), .v (.int .i64 a1.fIndex), .v (.string a1.fName), .v (.int .i64 a1.fShape.fLayer), .v (.int .i64 a1.fShape.fBox.fX0), .v (.int .i64 a1.fShape.fBox.fY0), .v (.int .i64 a1.fShape.fBox.fX1), .v (.int .i64 a1.fShape.fBox.fY1), .v (.int .i64 a1.fLabel.fLayer), .v (.int .i64 a1.fLabel.fAt.fX), .v (.int .i64 a1.fLabel.fAt.fY), .v (.string a1.fLabel.fName), .v (.int .i64 a1.fInstance.fCell), .v (.int .i64 a1.fInstance.fPlace.fOrientation), .v (.int .i64 a1.fInstance.fPlace.fX), .v (.int .i64 a1.fInstance.fPlace.fY), .v (.int .i64 a1.fInstance.fColumns), .v (.int .i64 a1.fInstance.fRows), .v (.int .i64 a1.fInstance.fStepX), .v (.int .i64 a1.fInstance.fStepY)]], o0 := [], r := .c (.v (.int .i64 y1)), o1 := [], fl := true, σ := [], τ := [] }, hf_impl_editCode _ _ _ hy2, ⟨les_cons (lR _) (les_cons (lR _) (les_nil)), trivial, rfl, rfl, rfl, rfl, trivial, rfl⟩, ?_⟩
 cbv
 refine fork (fun b5 => ?_) (fun b5 => ?_)
 ·replace h := of_br_t b5 h
  cbv
  injection h with h
  subst h
  refine ⟨(sparse 17 [(4, .c (.ptr 256 0)), (5, .c (.v (.int .i64 y1)))] [(256, .var [.v (.int .i64 0), .v (.int .i64 0), .v (.int .i64 0), .v (.string (ByteArray.mk #[])), .v (.int .i64 0), .v (.int .i64 0), .v (.int .i64 0), .v (.int .i64 0), .v (.int .i64 0), .v (.int .i64 0), .v (.int .i64 0), .v (.int .i64 0), .v (.string (ByteArray.mk #[])), .v (.int .i64 0), .v (.int .i64 0), .v (.int .i64 0), .v (.int .i64 0), .v (.int .i64 0), .v (.int .i64 0), .v (.int .i64 0), .v (.int .i64 0)])]), ?_, ?_⟩
  ·exact le_sparse rfl ⟨lR _, lR _, trivial⟩ ⟨rfl, trivial⟩ rfl
  ·exact ⟨lR _, trivial, rfl⟩
 ·replace h := of_br_f b5 h
  cbv
  replace h := of_bind h
  obtain ⟨y3, hy4, h⟩ := h
  refine ⟨{ args := [.agg [.bs (LEN a0.fCells) 4 (row GD (encCell LEN GD) a0.fCells)], .agg [.v (.int .i64 a1.fKind), .v (.int .i64 a1.fCell), .v (.int .i64 a1.fIndex), .v (.string a1.fName), .v (.int .i64 a1.fShape.fLayer), .v (.int .i64 a1.fShape.fBox.fX0), .v (.int .i64 a1.fShape.fBox.fY0), .v (.int .i64 a1.fShape.fBox.fX1), .v (.int .i64 a1.fShape.fBox.fY1), .v (.int .i64 a1.fLabel.fLayer), .v (.int .i64 a1.fLabel.fAt.fX), .v (.int .i64 a1.fLabel.fAt.fY), .v (.string a1.fLabel.fName), .v (.int .i64 a1.fInstance.fCell), .v (.int .i64 a1.fInstance.fPlace.fOrientation), .v (.int .i64 a1.fInstance.fPlace.fX), .v (.int .i64 a1.fInstance.fPlace.fY), .v (.int .i64 a1.fInstance.fColumns), .v (.int .i64 a1.fInstance.fRows), .v (.int .i64 a1.fInstance.fStepX), .v (.int .i64 a1.fInstance.fStepY)]], o0 := [], r := .agg [.v (.int .i64 y3.fKind), .v (.int .i64 y3.fCell), .v (.int .i64 y3.fIndex), .v (.string y3.fName), .v (.int .i64 y3.fShape.fLayer), .v (.int .i64 y3.fShape.fBox.fX0), .v (.int .i64 y3.fShape.fBox.fY0), .v (.int .i64 y3.fShape.fBox.fX1), .v (.int .i64 y3.fShape.fBox.fY1), .v (.int .i64 y3.fLabel.fLayer), .v (.int .i64 y3.fLabel.fAt.fX), .v (.int .i64 y3.fLabel.fAt.fY), .v (.string y3.fLabel.fName), .v (.int .i64 y3.fInstance.fCell), .v (.int .i64 y3.fInstance.fPlace.fOrientation), .v (.int .i64 y3.fInstance.fPlace.fX), .v (.int .i64 y3.fInstance.fPlace.fY), .v (.int .i64 y3.fInstance.fColumns), .v (.int .i64 y3.fInstance.fRows), .v (.int .i64 y3.fInstance.fStepX), .v (.int .i64 y3.fInstance.fStepY)], o1 := [], fl := true, σ := [], τ := [] }, hf_impl_inverse _ _ _ hy4, ⟨les_cons (lR _) (les_cons (lR _) (les_nil)), trivial, rfl, rfl, rfl, rfl, trivial, rfl⟩, ?_⟩
  cbv
  injection h with h
  subst h
  refine ⟨(sparse 17 [(4, .c (.ptr 256 0)), (5, .c (.v (.int .i64 0)))] [(256, .var [.v (.int .i64 y3.fKind), .v (.int .i64 y3.fCell), .v (.int .i64 y3.fIndex), .v (.string y3.fName), .v (.int .i64 y3.fShape.fLayer), .v (.int .i64 y3.fShape.fBox.fX0), .v (.int .i64 y3.fShape.fBox.fY0), .v (.int .i64 y3.fShape.fBox.fX1), .v (.int .i64 y3.fShape.fBox.fY1), .v (.int .i64 y3.fLabel.fLayer), .v (.int .i64 y3.fLabel.fAt.fX), .v (.int .i64 y3.fLabel.fAt.fY), .v (.string y3.fLabel.fName), .v (.int .i64 y3.fInstance.fCell), .v (.int .i64 y3.fInstance.fPlace.fOrientation), .v (.int .i64 y3.fInstance.fPlace.fX), .v (.int .i64 y3.fInstance.fPlace.fY), .v (.int .i64 y3.fInstance.fColumns), .v (.int .i64 y3.fInstance.fRows), .v (.int .i64 y3.fInstance.fStepX), .v (.int .i64 y3.fInstance.fStepY)])]), ?_, ?_⟩
  ·exact le_sparse rfl ⟨lR _, lR _, trivial⟩ ⟨rfl, trivial⟩ rfl
  ·exact ⟨lR _, trivial, rfl⟩

/-- laws.eqRect -/
noncomputable def F_laws_eqRect (a0 : TRect) (a1 : TRect) : Option (Bool) :=
 br (std.not (std.eq a0.fX0 a1.fX0))
 (some false)
 (br (std.not (std.eq a0.fY0 a1.fY0))
 (some false)
 (br (std.not (std.eq a0.fX1 a1.fX1))
 (some false)
 (br (std.not (std.eq a0.fY1 a1.fY1))
 (some false)
 (some true))))
theorem run_laws_eqRect (a0 : TRect) (a1 : TRect) (r : Bool) (h : F_laws_eqRect a0 a1 = some r) : Fun Try.prog 21 [.agg [.v (.int .i64 a0.fX0), .v (.int .i64 a0.fY0), .v (.int .i64 a0.fX1), .v (.int .i64 a0.fY1)], .agg [.v (.int .i64 a1.fX0), .v (.int .i64 a1.fY0), .v (.int .i64 a1.fX1), .v (.int .i64 a1.fY1)]] [] (.c (.v (.bool r))) [] true := by
 refine Fun.of_wp (oneOf []) tok mixed Try.func21 (by kernel_rfl) rfl Try.ntmps21 rfl trivial (fun _ => ⟨trivial, trivial⟩) ?_
 unfold F_laws_eqRect at h
 generalize hLEN : @len = LEN at *
 generalize hGD : @gd = GD at *
 generalize hA : std = A at *
 generalize hP : Try.prog = P at *
 cbv
 refine fork (fun b4 => ?_) (fun b4 => ?_)
 ·replace h := of_br_t b4 h
  cbv
  injection h with h
  subst h
  refine ⟨(sparse 25 [(4, .c (.v (.bool false)))] []), ?_, ?_⟩
  ·exact le_sparse rfl ⟨lR _, trivial⟩ trivial rfl
  ·exact ⟨lR _, trivial, rfl⟩
 ·replace h := of_br_f b4 h
  cbv
  refine fork (fun b3 => ?_) (fun b3 => ?_)
  ·replace h := of_br_t b3 h
   cbv
   injection h with h
   subst h
   refine ⟨(sparse 25 [(4, .c (.v (.bool false)))] []), ?_, ?_⟩
   ·exact le_sparse rfl ⟨lR _, trivial⟩ trivial rfl
   ·exact ⟨lR _, trivial, rfl⟩
  ·replace h := of_br_f b3 h
   cbv
   refine fork (fun b2 => ?_) (fun b2 => ?_)
   ·replace h := of_br_t b2 h
    cbv
    injection h with h
    subst h
    refine ⟨(sparse 25 [(4, .c (.v (.bool false)))] []), ?_, ?_⟩
    ·exact le_sparse rfl ⟨lR _, trivial⟩ trivial rfl
    ·exact ⟨lR _, trivial, rfl⟩
   ·replace h := of_br_f b2 h
    cbv
    refine fork (fun b1 => ?_) (fun b1 => ?_)
    ·replace h := of_br_t b1 h
     cbv
     injection h with h
     subst h
     refine ⟨(sparse 25 [(4, .c (.v (.bool false)))] []), ?_, ?_⟩
     ·exact le_sparse rfl ⟨lR _, trivial⟩ trivial rfl
     ·exact ⟨lR _, trivial, rfl⟩
    ·replace h := of_br_f b1 h
     cbv
     injection h with h
     subst h
     refine ⟨(sparse 25 [(4, .c (.v (.bool true)))] []), ?_, ?_⟩
     ·exact le_sparse rfl ⟨lR _, trivial⟩ trivial rfl
     ·exact ⟨lR _, trivial, rfl⟩
/-- laws.eqShape -/
noncomputable def F_laws_eqShape (a0 : TShape) (a1 : TShape) : Option (Bool) :=
 br (std.not (std.eq a0.fLayer a1.fLayer))
 (some false)
 ((F_laws_eqRect a0.fBox a1.fBox).bind fun y1 =>
 br (!(y1))
 (some false)
 (some true))
theorem run_laws_eqShape (a0 : TShape) (a1 : TShape) (r : Bool) (h : F_laws_eqShape a0 a1 = some r) : Fun Try.prog 77 [.agg [.v (.int .i64 a0.fLayer), .v (.int .i64 a0.fBox.fX0), .v (.int .i64 a0.fBox.fY0), .v (.int .i64 a0.fBox.fX1), .v (.int .i64 a0.fBox.fY1)], .agg [.v (.int .i64 a1.fLayer), .v (.int .i64 a1.fBox.fX0), .v (.int .i64 a1.fBox.fY0), .v (.int .i64 a1.fBox.fX1), .v (.int .i64 a1.fBox.fY1)]] [] (.c (.v (.bool r))) [] true := by
 refine Fun.of_wp (oneOf []) tok mixed Try.func77 (by kernel_rfl) rfl Try.ntmps77 rfl trivial (fun _ => ⟨trivial, trivial⟩) ?_
 unfold F_laws_eqShape at h
 have hf_laws_eqRect := @run_laws_eqRect
 generalize hLEN : @len = LEN at *
 generalize hGD : @gd = GD at *
 generalize hA : std = A at *
 generalize hP : Try.prog = P at *
 cbv
 refine fork (fun b4 => ?_) (fun b4 => ?_)
 ·replace h := of_br_t b4 h
  cbv
  injection h with h
  subst h
  refine ⟨(sparse 16 [(4, .c (.v (.bool false)))] []), ?_, ?_⟩
  ·exact le_sparse rfl ⟨lR _, trivial⟩ trivial rfl
  ·exact ⟨lR _, trivial, rfl⟩
 ·replace h := of_br_f b4 h
  cbv
  replace h := of_bind h
  obtain ⟨y1, hy2, h⟩ := h
  refine ⟨{ args := [.agg [.v (.int .i64 a0.fBox.fX0), .v (.int .i64 a0.fBox.fY0), .v (.int .i64 a0.fBox.fX1), .v (.int .i64 a0.fBox.fY1)], .agg [.v (.int .i64 a1.fBox.fX0), .v (.int .i64 a1.fBox.fY0), .v (.int .i64 a1.fBox.fX1), .v (.int .i64 a1.fBox.fY1)]], o0 := [], r := .c (.v (.bool y1)), o1 := [], fl := true, σ := [], τ := [] }, hf_laws_eqRect _ _ _ hy2, ⟨les_cons (lR _) (les_cons (lR _) (les_nil)), trivial, rfl, rfl, rfl, rfl, trivial, rfl⟩, ?_⟩
  cbv
  refine fork (fun b3 => ?_) (fun b3 => ?_)
  ·replace h := of_br_t b3 h
   cbv
   injection h with h
   subst h
   refine ⟨(sparse 16 [(4, .c (.v (.bool false)))] []), ?_, ?_⟩
   ·exact le_sparse rfl ⟨lR _, trivial⟩ trivial rfl
   ·exact ⟨lR _, trivial, rfl⟩
  ·replace h := of_br_f b3 h
   cbv
   injection h with h
   subst h
   refine ⟨(sparse 16 [(4, .c (.v (.bool true)))] []), ?_, ?_⟩
   ·exact le_sparse rfl ⟨lR _, trivial⟩ trivial rfl
   ·exact ⟨lR _, trivial, rfl⟩

/-- laws.eqPoint -/
noncomputable def F_laws_eqPoint (a0 : TPoint) (a1 : TPoint) : Option (Bool) :=
 br (std.not (std.eq a0.fX a1.fX))
 (some false)
 (br (std.not (std.eq a0.fY a1.fY))
 (some false)
 (some true))
theorem run_laws_eqPoint (a0 : TPoint) (a1 : TPoint) (r : Bool) (h : F_laws_eqPoint a0 a1 = some r) : Fun Try.prog 122 [.agg [.v (.int .i64 a0.fX), .v (.int .i64 a0.fY)], .agg [.v (.int .i64 a1.fX), .v (.int .i64 a1.fY)]] [] (.c (.v (.bool r))) [] true := by
 refine Fun.of_wp (oneOf []) tok mixed Try.func122 (by kernel_rfl) rfl Try.ntmps122 rfl trivial (fun _ => ⟨trivial, trivial⟩) ?_
 unfold F_laws_eqPoint at h
 generalize hLEN : @len = LEN at *
 generalize hGD : @gd = GD at *
 generalize hA : std = A at *
 generalize hP : Try.prog = P at *
 cbv
 refine fork (fun b2 => ?_) (fun b2 => ?_)
 ·replace h := of_br_t b2 h
  cbv
  injection h with h
  subst h
  refine ⟨(sparse 15 [(4, .c (.v (.bool false)))] []), ?_, ?_⟩
  ·exact le_sparse rfl ⟨lR _, trivial⟩ trivial rfl
  ·exact ⟨lR _, trivial, rfl⟩
 ·replace h := of_br_f b2 h
  cbv
  refine fork (fun b1 => ?_) (fun b1 => ?_)
  ·replace h := of_br_t b1 h
   cbv
   injection h with h
   subst h
   refine ⟨(sparse 15 [(4, .c (.v (.bool false)))] []), ?_, ?_⟩
   ·exact le_sparse rfl ⟨lR _, trivial⟩ trivial rfl
   ·exact ⟨lR _, trivial, rfl⟩
  ·replace h := of_br_f b1 h
   cbv
   injection h with h
   subst h
   refine ⟨(sparse 15 [(4, .c (.v (.bool true)))] []), ?_, ?_⟩
   ·exact le_sparse rfl ⟨lR _, trivial⟩ trivial rfl
   ·exact ⟨lR _, trivial, rfl⟩

/-- laws.eqLabel -/
noncomputable def F_laws_eqLabel (a0 : TLabel) (a1 : TLabel) : Option (Bool) :=
 br (std.not (std.eq a0.fLayer a1.fLayer))
 (some false)
 ((F_laws_eqPoint a0.fAt a1.fAt).bind fun y1 =>
 br (!(y1))
 (some false)
 (br (std.not (std.seq a0.fName a1.fName))
 (some false)
 (some true)))
theorem run_laws_eqLabel (a0 : TLabel) (a1 : TLabel) (r : Bool) (h : F_laws_eqLabel a0 a1 = some r) : Fun Try.prog 78 [.agg [.v (.int .i64 a0.fLayer), .v (.int .i64 a0.fAt.fX), .v (.int .i64 a0.fAt.fY), .v (.string a0.fName)], .agg [.v (.int .i64 a1.fLayer), .v (.int .i64 a1.fAt.fX), .v (.int .i64 a1.fAt.fY), .v (.string a1.fName)]] [] (.c (.v (.bool r))) [] true := by
 refine Fun.of_wp (oneOf []) tok mixed Try.func78 (by kernel_rfl) rfl Try.ntmps78 rfl trivial (fun _ => ⟨trivial, trivial⟩) ?_
 unfold F_laws_eqLabel at h
 have hf_laws_eqPoint := @run_laws_eqPoint
 generalize hLEN : @len = LEN at *
 generalize hGD : @gd = GD at *
 generalize hA : std = A at *
 generalize hP : Try.prog = P at *
 cbv
 refine fork (fun b5 => ?_) (fun b5 => ?_)
 ·replace h := of_br_t b5 h
  cbv
  injection h with h
  subst h
  refine ⟨(sparse 21 [(4, .c (.v (.bool false)))] []), ?_, ?_⟩
  ·exact le_sparse rfl ⟨lR _, trivial⟩ trivial rfl
  ·exact ⟨lR _, trivial, rfl⟩
 ·replace h := of_br_f b5 h
  cbv
  replace h := of_bind h
  obtain ⟨y1, hy2, h⟩ := h
  refine ⟨{ args := [.agg [.v (.int .i64 a0.fAt.fX), .v (.int .i64 a0.fAt.fY)], .agg [.v (.int .i64 a1.fAt.fX), .v (.int .i64 a1.fAt.fY)]], o0 := [], r := .c (.v (.bool y1)), o1 := [], fl := true, σ := [], τ := [] }, hf_laws_eqPoint _ _ _ hy2, ⟨les_cons (lR _) (les_cons (lR _) (les_nil)), trivial, rfl, rfl, rfl, rfl, trivial, rfl⟩, ?_⟩
  cbv
  refine fork (fun b4 => ?_) (fun b4 => ?_)
  ·replace h := of_br_t b4 h
   cbv
   injection h with h
   subst h
   refine ⟨(sparse 21 [(4, .c (.v (.bool false)))] []), ?_, ?_⟩
   ·exact le_sparse rfl ⟨lR _, trivial⟩ trivial rfl
   ·exact ⟨lR _, trivial, rfl⟩
  ·replace h := of_br_f b4 h
   cbv
   refine fork (fun b3 => ?_) (fun b3 => ?_)
   ·replace h := of_br_t b3 h
    cbv
    injection h with h
    subst h
    refine ⟨(sparse 21 [(4, .c (.v (.bool false)))] []), ?_, ?_⟩
    ·exact le_sparse rfl ⟨lR _, trivial⟩ trivial rfl
    ·exact ⟨lR _, trivial, rfl⟩
   ·replace h := of_br_f b3 h
    cbv
    injection h with h
    subst h
    refine ⟨(sparse 21 [(4, .c (.v (.bool true)))] []), ?_, ?_⟩
    ·exact le_sparse rfl ⟨lR _, trivial⟩ trivial rfl
    ·exact ⟨lR _, trivial, rfl⟩

/-- laws.eqTransform -/
noncomputable def F_laws_eqTransform (a0 : TTransform) (a1 : TTransform) : Option (Bool) :=
 br (std.not (std.eq a0.fOrientation a1.fOrientation))
 (some false)
 (br (std.not (std.eq a0.fX a1.fX))
 (some false)
 (br (std.not (std.eq a0.fY a1.fY))
 (some false)
 (some true)))
theorem run_laws_eqTransform (a0 : TTransform) (a1 : TTransform) (r : Bool) (h : F_laws_eqTransform a0 a1 = some r) : Fun Try.prog 123 [.agg [.v (.int .i64 a0.fOrientation), .v (.int .i64 a0.fX), .v (.int .i64 a0.fY)], .agg [.v (.int .i64 a1.fOrientation), .v (.int .i64 a1.fX), .v (.int .i64 a1.fY)]] [] (.c (.v (.bool r))) [] true := by
 refine Fun.of_wp (oneOf []) tok mixed Try.func123 (by kernel_rfl) rfl Try.ntmps123 rfl trivial (fun _ => ⟨trivial, trivial⟩) ?_
 unfold F_laws_eqTransform at h
 generalize hLEN : @len = LEN at *
 generalize hGD : @gd = GD at *
 generalize hA : std = A at *
 generalize hP : Try.prog = P at *
 cbv
 refine fork (fun b3 => ?_) (fun b3 => ?_)
 ·replace h := of_br_t b3 h
  cbv
  injection h with h
  subst h
  refine ⟨(sparse 20 [(4, .c (.v (.bool false)))] []), ?_, ?_⟩
  ·exact le_sparse rfl ⟨lR _, trivial⟩ trivial rfl
  ·exact ⟨lR _, trivial, rfl⟩
 ·replace h := of_br_f b3 h
  cbv
  refine fork (fun b2 => ?_) (fun b2 => ?_)
  ·replace h := of_br_t b2 h
   cbv
   injection h with h
   subst h
   refine ⟨(sparse 20 [(4, .c (.v (.bool false)))] []), ?_, ?_⟩
   ·exact le_sparse rfl ⟨lR _, trivial⟩ trivial rfl
   ·exact ⟨lR _, trivial, rfl⟩
  ·replace h := of_br_f b2 h
   cbv
   refine fork (fun b1 => ?_) (fun b1 => ?_)
   ·replace h := of_br_t b1 h
    cbv
    injection h with h
    subst h
    refine ⟨(sparse 20 [(4, .c (.v (.bool false)))] []), ?_, ?_⟩
    ·exact le_sparse rfl ⟨lR _, trivial⟩ trivial rfl
    ·exact ⟨lR _, trivial, rfl⟩
   ·replace h := of_br_f b1 h
    cbv
    injection h with h
    subst h
    refine ⟨(sparse 20 [(4, .c (.v (.bool true)))] []), ?_, ?_⟩
    ·exact le_sparse rfl ⟨lR _, trivial⟩ trivial rfl
    ·exact ⟨lR _, trivial, rfl⟩

/-- laws.eqInstance -/
noncomputable def F_laws_eqInstance (a0 : TInstance) (a1 : TInstance) : Option (Bool) :=
 br (std.not (std.eq a0.fCell a1.fCell))
 (some false)
 ((F_laws_eqTransform a0.fPlace a1.fPlace).bind fun y1 =>
 br (!(y1))
 (some false)
 (br (std.not (std.eq a0.fColumns a1.fColumns))
 (some false)
 (br (std.not (std.eq a0.fRows a1.fRows))
 (some false)
 (br (std.not (std.eq a0.fStepX a1.fStepX))
 (some false)
 (br (std.not (std.eq a0.fStepY a1.fStepY))
 (some false)
 (some true))))))
theorem run_laws_eqInstance (a0 : TInstance) (a1 : TInstance) (r : Bool) (h : F_laws_eqInstance a0 a1 = some r) : Fun Try.prog 79 [.agg [.v (.int .i64 a0.fCell), .v (.int .i64 a0.fPlace.fOrientation), .v (.int .i64 a0.fPlace.fX), .v (.int .i64 a0.fPlace.fY), .v (.int .i64 a0.fColumns), .v (.int .i64 a0.fRows), .v (.int .i64 a0.fStepX), .v (.int .i64 a0.fStepY)], .agg [.v (.int .i64 a1.fCell), .v (.int .i64 a1.fPlace.fOrientation), .v (.int .i64 a1.fPlace.fX), .v (.int .i64 a1.fPlace.fY), .v (.int .i64 a1.fColumns), .v (.int .i64 a1.fRows), .v (.int .i64 a1.fStepX), .v (.int .i64 a1.fStepY)]] [] (.c (.v (.bool r))) [] true := by
 refine Fun.of_wp (oneOf []) tok mixed Try.func79 (by kernel_rfl) rfl Try.ntmps79 rfl trivial (fun _ => ⟨trivial, trivial⟩) ?_
 unfold F_laws_eqInstance at h
 have hf_laws_eqTransform := @run_laws_eqTransform
 generalize hLEN : @len = LEN at *
 generalize hGD : @gd = GD at *
 generalize hA : std = A at *
 generalize hP : Try.prog = P at *
 cbv
 refine fork (fun b8 => ?_) (fun b8 => ?_)
 ·replace h := of_br_t b8 h
  cbv
  injection h with h
  subst h
  refine ⟨(sparse 36 [(4, .c (.v (.bool false)))] []), ?_, ?_⟩
  ·exact le_sparse rfl ⟨lR _, trivial⟩ trivial rfl
  ·exact ⟨lR _, trivial, rfl⟩
 ·replace h := of_br_f b8 h
  cbv
  replace h := of_bind h
  obtain ⟨y1, hy2, h⟩ := h
  refine ⟨{ args := [.agg [.v (.int .i64 a0.fPlace.fOrientation), .v (.int .i64 a0.fPlace.fX), .v (.int .i64 a0.fPlace.fY)], .agg [.v (.int .i64 a1.fPlace.fOrientation), .v (.int .i64 a1.fPlace.fX), .v (.int .i64 a1.fPlace.fY)]], o0 := [], r := .c (.v (.bool y1)), o1 := [], fl := true, σ := [], τ := [] }, hf_laws_eqTransform _ _ _ hy2, ⟨les_cons (lR _) (les_cons (lR _) (les_nil)), trivial, rfl, rfl, rfl, rfl, trivial, rfl⟩, ?_⟩
  cbv
  refine fork (fun b7 => ?_) (fun b7 => ?_)
  ·replace h := of_br_t b7 h
   cbv
   injection h with h
   subst h
   refine ⟨(sparse 36 [(4, .c (.v (.bool false)))] []), ?_, ?_⟩
   ·exact le_sparse rfl ⟨lR _, trivial⟩ trivial rfl
   ·exact ⟨lR _, trivial, rfl⟩
  ·replace h := of_br_f b7 h
   cbv
   refine fork (fun b6 => ?_) (fun b6 => ?_)
   ·replace h := of_br_t b6 h
    cbv
    injection h with h
    subst h
    refine ⟨(sparse 36 [(4, .c (.v (.bool false)))] []), ?_, ?_⟩
    ·exact le_sparse rfl ⟨lR _, trivial⟩ trivial rfl
    ·exact ⟨lR _, trivial, rfl⟩
   ·replace h := of_br_f b6 h
    cbv
    refine fork (fun b5 => ?_) (fun b5 => ?_)
    ·replace h := of_br_t b5 h
     cbv
     injection h with h
     subst h
     refine ⟨(sparse 36 [(4, .c (.v (.bool false)))] []), ?_, ?_⟩
     ·exact le_sparse rfl ⟨lR _, trivial⟩ trivial rfl
     ·exact ⟨lR _, trivial, rfl⟩
    ·replace h := of_br_f b5 h
     cbv
     refine fork (fun b4 => ?_) (fun b4 => ?_)
     ·replace h := of_br_t b4 h
      cbv
      injection h with h
      subst h
      refine ⟨(sparse 36 [(4, .c (.v (.bool false)))] []), ?_, ?_⟩
      ·exact le_sparse rfl ⟨lR _, trivial⟩ trivial rfl
      ·exact ⟨lR _, trivial, rfl⟩
     ·replace h := of_br_f b4 h
      cbv
      refine fork (fun b3 => ?_) (fun b3 => ?_)
      ·replace h := of_br_t b3 h
       cbv
       injection h with h
       subst h
       refine ⟨(sparse 36 [(4, .c (.v (.bool false)))] []), ?_, ?_⟩
       ·exact le_sparse rfl ⟨lR _, trivial⟩ trivial rfl
       ·exact ⟨lR _, trivial, rfl⟩
      ·replace h := of_br_f b3 h
       cbv
       injection h with h
       subst h
       refine ⟨(sparse 36 [(4, .c (.v (.bool true)))] []), ?_, ?_⟩
       ·exact le_sparse rfl ⟨lR _, trivial⟩ trivial rfl
       ·exact ⟨lR _, trivial, rfl⟩

/-- laws.eqEdit -/
noncomputable def F_laws_eqEdit (a0 : TEdit) (a1 : TEdit) : Option (Bool) :=
 br (std.not (std.eq a0.fKind a1.fKind))
 (some false)
 (br (std.not (std.eq a0.fCell a1.fCell))
 (some false)
 (br (std.not (std.eq a0.fIndex a1.fIndex))
 (some false)
 (br (std.not (std.seq a0.fName a1.fName))
 (some false)
 ((F_laws_eqShape a0.fShape a1.fShape).bind fun y1 =>
 br (!(y1))
 (some false)
 ((F_laws_eqLabel a0.fLabel a1.fLabel).bind fun y3 =>
 br (!(y3))
 (some false)
 ((F_laws_eqInstance a0.fInstance a1.fInstance).bind fun y5 =>
 br (!(y5))
 (some false)
 (some true)))))))
theorem run_laws_eqEdit (a0 : TEdit) (a1 : TEdit) (r : Bool) (h : F_laws_eqEdit a0 a1 = some r) : Fun Try.prog 37 [.agg [.v (.int .i64 a0.fKind), .v (.int .i64 a0.fCell), .v (.int .i64 a0.fIndex), .v (.string a0.fName), .v (.int .i64 a0.fShape.fLayer), .v (.int .i64 a0.fShape.fBox.fX0), .v (.int .i64 a0.fShape.fBox.fY0), .v (.int .i64 a0.fShape.fBox.fX1), .v (.int .i64 a0.fShape.fBox.fY1), .v (.int .i64 a0.fLabel.fLayer), .v (.int .i64 a0.fLabel.fAt.fX), .v (.int .i64 a0.fLabel.fAt.fY), .v (.string a0.fLabel.fName), .v (.int .i64 a0.fInstance.fCell), .v (.int .i64 a0.fInstance.fPlace.fOrientation), .v (.int .i64 a0.fInstance.fPlace.fX), .v (.int .i64 a0.fInstance.fPlace.fY), .v (.int .i64 a0.fInstance.fColumns), .v (.int .i64 a0.fInstance.fRows), .v (.int .i64 a0.fInstance.fStepX), .v (.int .i64 a0.fInstance.fStepY)], .agg [.v (.int .i64 a1.fKind), .v (.int .i64 a1.fCell), .v (.int .i64 a1.fIndex), .v (.string a1.fName), .v (.int .i64 a1.fShape.fLayer), .v (.int .i64 a1.fShape.fBox.fX0), .v (.int .i64 a1.fShape.fBox.fY0), .v (.int .i64 a1.fShape.fBox.fX1), .v (.int .i64 a1.fShape.fBox.fY1), .v (.int .i64 a1.fLabel.fLayer), .v (.int .i64 a1.fLabel.fAt.fX), .v (.int .i64 a1.fLabel.fAt.fY), .v (.string a1.fLabel.fName), .v (.int .i64 a1.fInstance.fCell), .v (.int .i64 a1.fInstance.fPlace.fOrientation), .v (.int .i64 a1.fInstance.fPlace.fX), .v (.int .i64 a1.fInstance.fPlace.fY), .v (.int .i64 a1.fInstance.fColumns), .v (.int .i64 a1.fInstance.fRows), .v (.int .i64 a1.fInstance.fStepX), .v (.int .i64 a1.fInstance.fStepY)]] [] (.c (.v (.bool r))) [] true := by
 refine Fun.of_wp (oneOf []) tok mixed Try.func37 (by kernel_rfl) rfl Try.ntmps37 rfl trivial (fun _ => ⟨trivial, trivial⟩) ?_
 unfold F_laws_eqEdit at h
 have hf_laws_eqInstance := @run_laws_eqInstance
 have hf_laws_eqLabel := @run_laws_eqLabel
 have hf_laws_eqShape := @run_laws_eqShape
 generalize hLEN : @len = LEN at *
 generalize hGD : @gd = GD at *
 generalize hA : std = A at *
 generalize hP : Try.prog = P at *
 cbv
 refine fork (fun b13 => ?_) (fun b13 => ?_)
 ·replace h := of_br_t b13 h
  cbv
  injection h with h
  subst h
  refine ⟨(sparse 43 [(4, .c (.v (.bool false)))] []), ?_, ?_⟩
  ·exact le_sparse rfl ⟨lR _, trivial⟩ trivial rfl
  ·exact ⟨lR _, trivial, rfl⟩
 ·replace h := of_br_f b13 h
  cbv
  refine fork (fun b12 => ?_) (fun b12 => ?_)
  ·replace h := of_br_t b12 h
   cbv
   injection h with h
   subst h
   refine ⟨(sparse 43 [(4, .c (.v (.bool false)))] []), ?_, ?_⟩
   ·exact le_sparse rfl ⟨lR _, trivial⟩ trivial rfl
   ·exact ⟨lR _, trivial, rfl⟩
  ·replace h := of_br_f b12 h
   cbv
   refine fork (fun b11 => ?_) (fun b11 => ?_)
   ·replace h := of_br_t b11 h
    cbv
    injection h with h
    subst h
    refine ⟨(sparse 43 [(4, .c (.v (.bool false)))] []), ?_, ?_⟩
    ·exact le_sparse rfl ⟨lR _, trivial⟩ trivial rfl
    ·exact ⟨lR _, trivial, rfl⟩
   ·replace h := of_br_f b11 h
    cbv
    refine fork (fun b10 => ?_) (fun b10 => ?_)
    ·replace h := of_br_t b10 h
     cbv
     injection h with h
     subst h
     refine ⟨(sparse 43 [(4, .c (.v (.bool false)))] []), ?_, ?_⟩
     ·exact le_sparse rfl ⟨lR _, trivial⟩ trivial rfl
     ·exact ⟨lR _, trivial, rfl⟩
    ·replace h := of_br_f b10 h
     cbv
     replace h := of_bind h
     obtain ⟨y1, hy2, h⟩ := h
     refine ⟨{ args := [.agg [.v (.int .i64 a0.fShape.fLayer), .v (.int .i64 a0.fShape.fBox.fX0), .v (.int .i64 a0.fShape.fBox.fY0), .v (.int .i64 a0.fShape.fBox.fX1), .v (.int .i64 a0.fShape.fBox.fY1)], .agg [.v (.int .i64 a1.fShape.fLayer), .v (.int .i64 a1.fShape.fBox.fX0), .v (.int .i64 a1.fShape.fBox.fY0), .v (.int .i64 a1.fShape.fBox.fX1), .v (.int .i64 a1.fShape.fBox.fY1)]], o0 := [], r := .c (.v (.bool y1)), o1 := [], fl := true, σ := [], τ := [] }, hf_laws_eqShape _ _ _ hy2, ⟨les_cons (lR _) (les_cons (lR _) (les_nil)), trivial, rfl, rfl, rfl, rfl, trivial, rfl⟩, ?_⟩
     cbv
     refine fork (fun b9 => ?_) (fun b9 => ?_)
     ·replace h := of_br_t b9 h
      cbv
      injection h with h
      subst h
      refine ⟨(sparse 43 [(4, .c (.v (.bool false)))] []), ?_, ?_⟩
      ·exact le_sparse rfl ⟨lR _, trivial⟩ trivial rfl
      ·exact ⟨lR _, trivial, rfl⟩
     ·replace h := of_br_f b9 h
      cbv
      replace h := of_bind h
      obtain ⟨y3, hy4, h⟩ := h
      refine ⟨{ args := [.agg [.v (.int .i64 a0.fLabel.fLayer), .v (.int .i64 a0.fLabel.fAt.fX), .v (.int .i64 a0.fLabel.fAt.fY), .v (.string a0.fLabel.fName)], .agg [.v (.int .i64 a1.fLabel.fLayer), .v (.int .i64 a1.fLabel.fAt.fX), .v (.int .i64 a1.fLabel.fAt.fY), .v (.string a1.fLabel.fName)]], o0 := [], r := .c (.v (.bool y3)), o1 := [], fl := true, σ := [], τ := [] }, hf_laws_eqLabel _ _ _ hy4, ⟨les_cons (lR _) (les_cons (lR _) (les_nil)), trivial, rfl, rfl, rfl, rfl, trivial, rfl⟩, ?_⟩
      cbv
      refine fork (fun b8 => ?_) (fun b8 => ?_)
      ·replace h := of_br_t b8 h
       cbv
       injection h with h
       subst h
       refine ⟨(sparse 43 [(4, .c (.v (.bool false)))] []), ?_, ?_⟩
       ·exact le_sparse rfl ⟨lR _, trivial⟩ trivial rfl
       ·exact ⟨lR _, trivial, rfl⟩
      ·replace h := of_br_f b8 h
       cbv
       replace h := of_bind h
       obtain ⟨y5, hy6, h⟩ := h
       refine ⟨{ args := [.agg [.v (.int .i64 a0.fInstance.fCell), .v (.int .i64 a0.fInstance.fPlace.fOrientation), .v (.int .i64 a0.fInstance.fPlace.fX), .v (.int .i64 a0.fInstance.fPlace.fY), .v (.int .i64 a0.fInstance.fColumns), .v (.int .i64 a0.fInstance.fRows), .v (.int .i64 a0.fInstance.fStepX), .v (.int .i64 a0.fInstance.fStepY)], .agg [.v (.int .i64 a1.fInstance.fCell), .v (.int .i64 a1.fInstance.fPlace.fOrientation), .v (.int .i64 a1.fInstance.fPlace.fX), .v (.int .i64 a1.fInstance.fPlace.fY), .v (.int .i64 a1.fInstance.fColumns), .v (.int .i64 a1.fInstance.fRows), .v (.int .i64 a1.fInstance.fStepX), .v (.int .i64 a1.fInstance.fStepY)]], o0 := [], r := .c (.v (.bool y5)), o1 := [], fl := true, σ := [], τ := [] }, hf_laws_eqInstance _ _ _ hy6, ⟨les_cons (lR _) (les_cons (lR _) (les_nil)), trivial, rfl, rfl, rfl, rfl, trivial, rfl⟩, ?_⟩
       cbv
       refine fork (fun b7 => ?_) (fun b7 => ?_)
       ·replace h := of_br_t b7 h
        cbv
        injection h with h
        subst h
        refine ⟨(sparse 43 [(4, .c (.v (.bool false)))] []), ?_, ?_⟩
        ·exact le_sparse rfl ⟨lR _, trivial⟩ trivial rfl
        ·exact ⟨lR _, trivial, rfl⟩
       ·replace h := of_br_f b7 h
        cbv
        injection h with h
        subst h
        refine ⟨(sparse 43 [(4, .c (.v (.bool true)))] []), ?_, ?_⟩
        ·exact le_sparse rfl ⟨lR _, trivial⟩ trivial rfl
        ·exact ⟨lR _, trivial, rfl⟩
noncomputable def L_laws_eqShapeS_x2 (a0 : List TShape) (a1 : List TShape) : (Int) → Option ((Int) ⊕ ((Unit) ⊕ (Unit))) := fun x2 =>
 letO x2 fun v1 =>
 br (std.lt v1 (std.ofN (len a0)))
 (req (std.inR v1 (len a0)) <|
 req (std.inR v1 (len a1)) <|
 (F_laws_eqShape (gd a0 (std.toN v1)) (gd a1 (std.toN v1))).bind fun y16 =>
 br (!(y16))
 (some (.inr (.inl ())))
 (some (.inl (std.add .i64 v1 1))))
 (some (.inr (.inr ())))
/-- laws.eqShapeS -/
noncomputable def F_laws_eqShapeS (a0 : List TShape) (a1 : List TShape) : Option (Bool) :=
 br (std.not (std.eq (std.ofN (len a0)) (std.ofN (len a1))))
 (some false)
 ((whileP (σ := Int) (ρ := (Unit) ⊕ (Unit)) (L_laws_eqShapeS_x2 a0 a1) 0).bind fun y3 =>
 (match y3 with
  | .inl y3k0 => (
    some false)
  | .inr y3m0 =>
    some true))
theorem run_laws_eqShapeS (a0 : List TShape) (a1 : List TShape) (r : Bool) (h : F_laws_eqShapeS a0 a1 = some r) : Fun Try.prog 151 [.c (.bs (len a0) 5 (row gd (encShape) a0)), .c (.bs (len a1) 5 (row gd (encShape) a1))] [] (.c (.v (.bool r))) [] true := by
 refine Fun.of_wp (oneOf []) tok mixed Try.func151 (by kernel_rfl) rfl Try.ntmps151 rfl trivial (fun _ => ⟨trivial, trivial⟩) ?_
 unfold F_laws_eqShapeS at h
 unfold L_laws_eqShapeS_x2 at h
 have hf_laws_eqShape := @run_laws_eqShape
 generalize hLEN : @len = LEN at *
 generalize hGD : @gd = GD at *
 generalize hA : std = A at *
 generalize hP : Try.prog = P at *
 cbv
 refine fork (fun b20 => ?_) (fun b20 => ?_)
 ·replace h := of_br_t b20 h
  cbv
  injection h with h
  subst h
  refine ⟨(sparse 27 [(4, .c (.v (.bool false)))] []), ?_, ?_⟩
  ·exact le_sparse rfl ⟨lR _, trivial⟩ trivial rfl
  ·exact ⟨lR _, trivial, rfl⟩
 ·replace h := of_br_f b20 h
  cbv
  replace h := of_bind h
  obtain ⟨y3, hr4, hN5⟩ := h
  refine loop_cut hr4 (fun x => (sparse 27 [(0, .c (.bs (LEN a0) 5 (row GD (encShape) a0))), (1, .c (.bs (LEN a1) 5 (row GD (encShape) a1))), (5, .c (.v (.int .i64 x)))] [])) ?_ (fun y e s => (match y with | .inl w => e = .ret ∧ s.le (sparse 27 [(4, .c (.v (.bool false)))] []) | .inr w0 => (fun (w : Unit) => e = .exit 0 ∧ s.le (sparse 27 [] [])) w0)) ?_ ?_
  ·clear hr4 hN5
   show St.le _ _
   exact le_sparse rfl ⟨lR _, lR _, lR _, trivial⟩ trivial rfl
  ·clear hr4 hN5
   intro x z9 h K7 hK8 hY6
   replace h := of_let h
   obtain ⟨v1, hv1, h⟩ := h
   have hv1 : v1 = x := hv1
   subst hv1
   cbv
   refine fork (fun b19 => ?_) (fun b19 => ?_)
   ·replace h := of_br_t b19 h
    cbv
    replace h := of_req h
    obtain ⟨c14, h⟩ := h
    refine ⟨⟨c14, trivial⟩, ?_⟩
    replace h := of_req h
    obtain ⟨c15, h⟩ := h
    refine ⟨⟨c15, trivial⟩, ?_⟩
    replace h := of_bind h
    obtain ⟨y16, hy17, h⟩ := h
    refine ⟨{ args := [.agg [.v (.int .i64 (GD a0 (A.toN v1)).fLayer), .v (.int .i64 (GD a0 (A.toN v1)).fBox.fX0), .v (.int .i64 (GD a0 (A.toN v1)).fBox.fY0), .v (.int .i64 (GD a0 (A.toN v1)).fBox.fX1), .v (.int .i64 (GD a0 (A.toN v1)).fBox.fY1)], .agg [.v (.int .i64 (GD a1 (A.toN v1)).fLayer), .v (.int .i64 (GD a1 (A.toN v1)).fBox.fX0), .v (.int .i64 (GD a1 (A.toN v1)).fBox.fY0), .v (.int .i64 (GD a1 (A.toN v1)).fBox.fX1), .v (.int .i64 (GD a1 (A.toN v1)).fBox.fY1)]], o0 := [], r := .c (.v (.bool y16)), o1 := [], fl := true, σ := [], τ := [] }, hf_laws_eqShape _ _ _ hy17, ⟨les_cons (lR _) (les_cons (lR _) (les_nil)), trivial, rfl, rfl, rfl, rfl, trivial, rfl⟩, ?_⟩
    cbv
    refine fork (fun b18 => ?_) (fun b18 => ?_)
    ·replace h := of_br_t b18 h
     cbv
     injection h with h
     refine hY6 _ h.symm _ _ (And.intro rfl ?_) (by intro hh; cases hh)
     exact le_sparse rfl ⟨lR _, trivial⟩ trivial rfl
    ·replace h := of_br_f b18 h
     cbv
     injection h with h
     refine hK8 _ h.symm _ ?_
     exact le_sparse rfl ⟨lR _, lR _, lR _, trivial⟩ trivial rfl
   ·replace h := of_br_f b19 h
    cbv
    injection h with h
    refine hY6 _ h.symm _ _ (And.intro rfl ?_) (by intro hh; cases hh)
    exact le_sparse rfl trivial trivial rfl
  ·clear hr4
   have h := hN5
   clear hN5
   intro e12 s13 q11 hne
   rcases y3 with y3k0 | y3m0
   ·replace h := h
    obtain ⟨rfl, q11⟩ := q11
    cbv
    injection h with h
    subst h
    refine ⟨(sparse 27 [(4, .c (.v (.bool false)))] []), ?_, ?_⟩
    ·refine St.le_trans q11 ?_
     exact le_sparse rfl ⟨lR _, trivial⟩ trivial rfl
    ·exact ⟨lR _, trivial, rfl⟩
   ·obtain ⟨rfl, q11⟩ := q11
    cbv
    refine ⟨_, q11, ?_⟩
    cbv
    injection h with h
    subst h
    refine ⟨(sparse 27 [(4, .c (.v (.bool true)))] []), ?_, ?_⟩
    ·exact le_sparse rfl ⟨lR _, trivial⟩ trivial rfl
    ·exact ⟨lR _, trivial, rfl⟩

noncomputable def L_laws_eqLabelS_x2 (a0 : List TLabel) (a1 : List TLabel) : (Int) → Option ((Int) ⊕ ((Unit) ⊕ (Unit))) := fun x2 =>
 letO x2 fun v1 =>
 br (std.lt v1 (std.ofN (len a0)))
 (req (std.inR v1 (len a0)) <|
 req (std.inR v1 (len a1)) <|
 (F_laws_eqLabel (gd a0 (std.toN v1)) (gd a1 (std.toN v1))).bind fun y16 =>
 br (!(y16))
 (some (.inr (.inl ())))
 (some (.inl (std.add .i64 v1 1))))
 (some (.inr (.inr ())))
/-- laws.eqLabelS -/
noncomputable def F_laws_eqLabelS (a0 : List TLabel) (a1 : List TLabel) : Option (Bool) :=
 br (std.not (std.eq (std.ofN (len a0)) (std.ofN (len a1))))
 (some false)
 ((whileP (σ := Int) (ρ := (Unit) ⊕ (Unit)) (L_laws_eqLabelS_x2 a0 a1) 0).bind fun y3 =>
 (match y3 with
  | .inl y3k0 => (
    some false)
  | .inr y3m0 =>
    some true))
theorem run_laws_eqLabelS (a0 : List TLabel) (a1 : List TLabel) (r : Bool) (h : F_laws_eqLabelS a0 a1 = some r) : Fun Try.prog 152 [.c (.bs (len a0) 4 (row gd (encLabel) a0)), .c (.bs (len a1) 4 (row gd (encLabel) a1))] [] (.c (.v (.bool r))) [] true := by
 refine Fun.of_wp (oneOf []) tok mixed Try.func152 (by kernel_rfl) rfl Try.ntmps152 rfl trivial (fun _ => ⟨trivial, trivial⟩) ?_
 unfold F_laws_eqLabelS at h
 unfold L_laws_eqLabelS_x2 at h
 have hf_laws_eqLabel := @run_laws_eqLabel
 generalize hLEN : @len = LEN at *
 generalize hGD : @gd = GD at *
 generalize hA : std = A at *
 generalize hP : Try.prog = P at *
 cbv
 refine fork (fun b20 => ?_) (fun b20 => ?_)
 ·replace h := of_br_t b20 h
  cbv
  injection h with h
  subst h
  refine ⟨(sparse 27 [(4, .c (.v (.bool false)))] []), ?_, ?_⟩
  ·exact le_sparse rfl ⟨lR _, trivial⟩ trivial rfl
  ·exact ⟨lR _, trivial, rfl⟩
 ·replace h := of_br_f b20 h
  cbv
  replace h := of_bind h
  obtain ⟨y3, hr4, hN5⟩ := h
  refine loop_cut hr4 (fun x => (sparse 27 [(0, .c (.bs (LEN a0) 4 (row GD (encLabel) a0))), (1, .c (.bs (LEN a1) 4 (row GD (encLabel) a1))), (5, .c (.v (.int .i64 x)))] [])) ?_ (fun y e s => (match y with | .inl w => e = .ret ∧ s.le (sparse 27 [(4, .c (.v (.bool false)))] []) | .inr w0 => (fun (w : Unit) => e = .exit 0 ∧ s.le (sparse 27 [] [])) w0)) ?_ ?_
  ·clear hr4 hN5
   show St.le _ _
   exact le_sparse rfl ⟨lR _, lR _, lR _, trivial⟩ trivial rfl
  ·clear hr4 hN5
   intro x z9 h K7 hK8 hY6
   replace h := of_let h
   obtain ⟨v1, hv1, h⟩ := h
   have hv1 : v1 = x := hv1
   subst hv1
   cbv
   refine fork (fun b19 => ?_) (fun b19 => ?_)
   ·replace h := of_br_t b19 h
    cbv
    replace h := of_req h
    obtain ⟨c14, h⟩ := h
    refine ⟨⟨c14, trivial⟩, ?_⟩
    replace h := of_req h
    obtain ⟨c15, h⟩ := h
    refine ⟨⟨c15, trivial⟩, ?_⟩
    replace h := of_bind h
    obtain ⟨y16, hy17, h⟩ := h
    refine ⟨{ args := [.agg [.v (.int .i64 (GD a0 (A.toN v1)).fLayer), .v (.int .i64 (GD a0 (A.toN v1)).fAt.fX), .v (.int .i64 (GD a0 (A.toN v1)).fAt.fY), .v (.string (GD a0 (A.toN v1)).fName)], .agg [.v (.int .i64 (GD a1 (A.toN v1)).fLayer), .v (.int .i64 (GD a1 (A.toN v1)).fAt.fX), .v (.int .i64 (GD a1 (A.toN v1)).fAt.fY), .v (.string (GD a1 (A.toN v1)).fName)]], o0 := [], r := .c (.v (.bool y16)), o1 := [], fl := true, σ := [], τ := [] }, hf_laws_eqLabel _ _ _ hy17, ⟨les_cons (lR _) (les_cons (lR _) (les_nil)), trivial, rfl, rfl, rfl, rfl, trivial, rfl⟩, ?_⟩
    cbv
    refine fork (fun b18 => ?_) (fun b18 => ?_)
    ·replace h := of_br_t b18 h
     cbv
     injection h with h
     refine hY6 _ h.symm _ _ (And.intro rfl ?_) (by intro hh; cases hh)
     exact le_sparse rfl ⟨lR _, trivial⟩ trivial rfl
    ·replace h := of_br_f b18 h
     cbv
     injection h with h
     refine hK8 _ h.symm _ ?_
     exact le_sparse rfl ⟨lR _, lR _, lR _, trivial⟩ trivial rfl
   ·replace h := of_br_f b19 h
    cbv
    injection h with h
    refine hY6 _ h.symm _ _ (And.intro rfl ?_) (by intro hh; cases hh)
    exact le_sparse rfl trivial trivial rfl
  ·clear hr4
   have h := hN5
   clear hN5
   intro e12 s13 q11 hne
   rcases y3 with y3k0 | y3m0
   ·replace h := h
    obtain ⟨rfl, q11⟩ := q11
    cbv
    injection h with h
    subst h
    refine ⟨(sparse 27 [(4, .c (.v (.bool false)))] []), ?_, ?_⟩
    ·refine St.le_trans q11 ?_
     exact le_sparse rfl ⟨lR _, trivial⟩ trivial rfl
    ·exact ⟨lR _, trivial, rfl⟩
   ·obtain ⟨rfl, q11⟩ := q11
    cbv
    refine ⟨_, q11, ?_⟩
    cbv
    injection h with h
    subst h
    refine ⟨(sparse 27 [(4, .c (.v (.bool true)))] []), ?_, ?_⟩
    ·exact le_sparse rfl ⟨lR _, trivial⟩ trivial rfl
    ·exact ⟨lR _, trivial, rfl⟩

noncomputable def L_laws_eqInstanceS_x2 (a0 : List TInstance) (a1 : List TInstance) : (Int) → Option ((Int) ⊕ ((Unit) ⊕ (Unit))) := fun x2 =>
 letO x2 fun v1 =>
 br (std.lt v1 (std.ofN (len a0)))
 (req (std.inR v1 (len a0)) <|
 req (std.inR v1 (len a1)) <|
 (F_laws_eqInstance (gd a0 (std.toN v1)) (gd a1 (std.toN v1))).bind fun y16 =>
 br (!(y16))
 (some (.inr (.inl ())))
 (some (.inl (std.add .i64 v1 1))))
 (some (.inr (.inr ())))
/-- laws.eqInstanceS -/
noncomputable def F_laws_eqInstanceS (a0 : List TInstance) (a1 : List TInstance) : Option (Bool) :=
 br (std.not (std.eq (std.ofN (len a0)) (std.ofN (len a1))))
 (some false)
 ((whileP (σ := Int) (ρ := (Unit) ⊕ (Unit)) (L_laws_eqInstanceS_x2 a0 a1) 0).bind fun y3 =>
 (match y3 with
  | .inl y3k0 => (
    some false)
  | .inr y3m0 =>
    some true))
theorem run_laws_eqInstanceS (a0 : List TInstance) (a1 : List TInstance) (r : Bool) (h : F_laws_eqInstanceS a0 a1 = some r) : Fun Try.prog 153 [.c (.bs (len a0) 8 (row gd (encInstance) a0)), .c (.bs (len a1) 8 (row gd (encInstance) a1))] [] (.c (.v (.bool r))) [] true := by
 refine Fun.of_wp (oneOf []) tok mixed Try.func153 (by kernel_rfl) rfl Try.ntmps153 rfl trivial (fun _ => ⟨trivial, trivial⟩) ?_
 unfold F_laws_eqInstanceS at h
 unfold L_laws_eqInstanceS_x2 at h
 have hf_laws_eqInstance := @run_laws_eqInstance
 generalize hLEN : @len = LEN at *
 generalize hGD : @gd = GD at *
 generalize hA : std = A at *
 generalize hP : Try.prog = P at *
 cbv
 refine fork (fun b20 => ?_) (fun b20 => ?_)
 ·replace h := of_br_t b20 h
  cbv
  injection h with h
  subst h
  refine ⟨(sparse 27 [(4, .c (.v (.bool false)))] []), ?_, ?_⟩
  ·exact le_sparse rfl ⟨lR _, trivial⟩ trivial rfl
  ·exact ⟨lR _, trivial, rfl⟩
 ·replace h := of_br_f b20 h
  cbv
  replace h := of_bind h
  obtain ⟨y3, hr4, hN5⟩ := h
  refine loop_cut hr4 (fun x => (sparse 27 [(0, .c (.bs (LEN a0) 8 (row GD (encInstance) a0))), (1, .c (.bs (LEN a1) 8 (row GD (encInstance) a1))), (5, .c (.v (.int .i64 x)))] [])) ?_ (fun y e s => (match y with | .inl w => e = .ret ∧ s.le (sparse 27 [(4, .c (.v (.bool false)))] []) | .inr w0 => (fun (w : Unit) => e = .exit 0 ∧ s.le (sparse 27 [] [])) w0)) ?_ ?_
  ·clear hr4 hN5
   show St.le _ _
   exact le_sparse rfl ⟨lR _, lR _, lR _, trivial⟩ trivial rfl
  ·clear hr4 hN5
   intro x z9 h K7 hK8 hY6
   replace h := of_let h
   obtain ⟨v1, hv1, h⟩ := h
   have hv1 : v1 = x := hv1
   subst hv1
   cbv
   refine fork (fun b19 => ?_) (fun b19 => ?_)
   ·replace h := of_br_t b19 h
    cbv
    replace h := of_req h
    obtain ⟨c14, h⟩ := h
    refine ⟨⟨c14, trivial⟩, ?_⟩
    replace h := of_req h
    obtain ⟨c15, h⟩ := h
    refine ⟨⟨c15, trivial⟩, ?_⟩
    replace h := of_bind h
    obtain ⟨y16, hy17, h⟩ := h
    refine ⟨{ args := [.agg [.v (.int .i64 (GD a0 (A.toN v1)).fCell), .v (.int .i64 (GD a0 (A.toN v1)).fPlace.fOrientation), .v (.int .i64 (GD a0 (A.toN v1)).fPlace.fX), .v (.int .i64 (GD a0 (A.toN v1)).fPlace.fY), .v (.int .i64 (GD a0 (A.toN v1)).fColumns), .v (.int .i64 (GD a0 (A.toN v1)).fRows), .v (.int .i64 (GD a0 (A.toN v1)).fStepX), .v (.int .i64 (GD a0 (A.toN v1)).fStepY)], .agg [.v (.int .i64 (GD a1 (A.toN v1)).fCell), .v (.int .i64 (GD a1 (A.toN v1)).fPlace.fOrientation), .v (.int .i64 (GD a1 (A.toN v1)).fPlace.fX), .v (.int .i64 (GD a1 (A.toN v1)).fPlace.fY), .v (.int .i64 (GD a1 (A.toN v1)).fColumns), .v (.int .i64 (GD a1 (A.toN v1)).fRows), .v (.int .i64 (GD a1 (A.toN v1)).fStepX), .v (.int .i64 (GD a1 (A.toN v1)).fStepY)]], o0 := [], r := .c (.v (.bool y16)), o1 := [], fl := true, σ := [], τ := [] }, hf_laws_eqInstance _ _ _ hy17, ⟨les_cons (lR _) (les_cons (lR _) (les_nil)), trivial, rfl, rfl, rfl, rfl, trivial, rfl⟩, ?_⟩
    cbv
    refine fork (fun b18 => ?_) (fun b18 => ?_)
    ·replace h := of_br_t b18 h
     cbv
     injection h with h
     refine hY6 _ h.symm _ _ (And.intro rfl ?_) (by intro hh; cases hh)
     exact le_sparse rfl ⟨lR _, trivial⟩ trivial rfl
    ·replace h := of_br_f b18 h
     cbv
     injection h with h
     refine hK8 _ h.symm _ ?_
     exact le_sparse rfl ⟨lR _, lR _, lR _, trivial⟩ trivial rfl
   ·replace h := of_br_f b19 h
    cbv
    injection h with h
    refine hY6 _ h.symm _ _ (And.intro rfl ?_) (by intro hh; cases hh)
    exact le_sparse rfl trivial trivial rfl
  ·clear hr4
   have h := hN5
   clear hN5
   intro e12 s13 q11 hne
   rcases y3 with y3k0 | y3m0
   ·replace h := h
    obtain ⟨rfl, q11⟩ := q11
    cbv
    injection h with h
    subst h
    refine ⟨(sparse 27 [(4, .c (.v (.bool false)))] []), ?_, ?_⟩
    ·refine St.le_trans q11 ?_
     exact le_sparse rfl ⟨lR _, trivial⟩ trivial rfl
    ·exact ⟨lR _, trivial, rfl⟩
   ·obtain ⟨rfl, q11⟩ := q11
    cbv
    refine ⟨_, q11, ?_⟩
    cbv
    injection h with h
    subst h
    refine ⟨(sparse 27 [(4, .c (.v (.bool true)))] []), ?_, ?_⟩
    ·exact le_sparse rfl ⟨lR _, trivial⟩ trivial rfl
    ·exact ⟨lR _, trivial, rfl⟩

/-- laws.eqCell -/
noncomputable def F_laws_eqCell (a0 : TCell) (a1 : TCell) : Option (Bool) :=
 br (std.not (std.seq a0.fName a1.fName))
 (some false)
 ((F_laws_eqShapeS a0.fShapes a1.fShapes).bind fun y1 =>
 br (!(y1))
 (some false)
 ((F_laws_eqLabelS a0.fLabels a1.fLabels).bind fun y3 =>
 br (!(y3))
 (some false)
 ((F_laws_eqInstanceS a0.fInstances a1.fInstances).bind fun y5 =>
 br (!(y5))
 (some false)
 (some true))))
theorem run_laws_eqCell (a0 : TCell) (a1 : TCell) (r : Bool) (h : F_laws_eqCell a0 a1 = some r) : Fun Try.prog 102 [.agg [.v (.string a0.fName), .bs (len a0.fShapes) 5 (row gd (encShape) a0.fShapes), .bs (len a0.fLabels) 4 (row gd (encLabel) a0.fLabels), .bs (len a0.fInstances) 8 (row gd (encInstance) a0.fInstances)], .agg [.v (.string a1.fName), .bs (len a1.fShapes) 5 (row gd (encShape) a1.fShapes), .bs (len a1.fLabels) 4 (row gd (encLabel) a1.fLabels), .bs (len a1.fInstances) 8 (row gd (encInstance) a1.fInstances)]] [] (.c (.v (.bool r))) [] true := by
 refine Fun.of_wp (oneOf []) tok mixed Try.func102 (by kernel_rfl) rfl Try.ntmps102 rfl trivial (fun _ => ⟨trivial, trivial⟩) ?_
 unfold F_laws_eqCell at h
 have hf_laws_eqInstanceS := @run_laws_eqInstanceS
 have hf_laws_eqLabelS := @run_laws_eqLabelS
 have hf_laws_eqShapeS := @run_laws_eqShapeS
 generalize hLEN : @len = LEN at *
 generalize hGD : @gd = GD at *
 generalize hA : std = A at *
 generalize hP : Try.prog = P at *
 cbv
 refine fork (fun b10 => ?_) (fun b10 => ?_)
 ·replace h := of_br_t b10 h
  cbv
  injection h with h
  subst h
  refine ⟨(sparse 28 [(4, .c (.v (.bool false)))] []), ?_, ?_⟩
  ·exact le_sparse rfl ⟨lR _, trivial⟩ trivial rfl
  ·exact ⟨lR _, trivial, rfl⟩
 ·replace h := of_br_f b10 h
  cbv
  replace h := of_bind h
  obtain ⟨y1, hy2, h⟩ := h
  refine ⟨{ args := [.c (.bs (LEN a0.fShapes) 5 (row GD (encShape) a0.fShapes)), .c (.bs (LEN a1.fShapes) 5 (row GD (encShape) a1.fShapes))], o0 := [], r := .c (.v (.bool y1)), o1 := [], fl := true, σ := [], τ := [] }, hf_laws_eqShapeS _ _ _ hy2, ⟨les_cons (lR _) (les_cons (lR _) (les_nil)), trivial, rfl, rfl, rfl, rfl, trivial, rfl⟩, ?_⟩
  cbv
  refine fork (fun b9 => ?_) (fun b9 => ?_)
  ·replace h := of_br_t b9 h
   cbv
   injection h with h
   subst h
   refine ⟨(sparse 28 [(4, .c (.v (.bool false)))] []), ?_, ?_⟩
   ·exact le_sparse rfl ⟨lR _, trivial⟩ trivial rfl
   ·exact ⟨lR _, trivial, rfl⟩
  ·replace h := of_br_f b9 h
   cbv
   replace h := of_bind h
   obtain ⟨y3, hy4, h⟩ := h
   refine ⟨{ args := [.c (.bs (LEN a0.fLabels) 4 (row GD (encLabel) a0.fLabels)), .c (.bs (LEN a1.fLabels) 4 (row GD (encLabel) a1.fLabels))], o0 := [], r := .c (.v (.bool y3)), o1 := [], fl := true, σ := [], τ := [] }, hf_laws_eqLabelS _ _ _ hy4, ⟨les_cons (lR _) (les_cons (lR _) (les_nil)), trivial, rfl, rfl, rfl, rfl, trivial, rfl⟩, ?_⟩
   cbv
   refine fork (fun b8 => ?_) (fun b8 => ?_)
   ·replace h := of_br_t b8 h
    cbv
    injection h with h
    subst h
    refine ⟨(sparse 28 [(4, .c (.v (.bool false)))] []), ?_, ?_⟩
    ·exact le_sparse rfl ⟨lR _, trivial⟩ trivial rfl
    ·exact ⟨lR _, trivial, rfl⟩
   ·replace h := of_br_f b8 h
    cbv
    replace h := of_bind h
    obtain ⟨y5, hy6, h⟩ := h
    refine ⟨{ args := [.c (.bs (LEN a0.fInstances) 8 (row GD (encInstance) a0.fInstances)), .c (.bs (LEN a1.fInstances) 8 (row GD (encInstance) a1.fInstances))], o0 := [], r := .c (.v (.bool y5)), o1 := [], fl := true, σ := [], τ := [] }, hf_laws_eqInstanceS _ _ _ hy6, ⟨les_cons (lR _) (les_cons (lR _) (les_nil)), trivial, rfl, rfl, rfl, rfl, trivial, rfl⟩, ?_⟩
    cbv
    refine fork (fun b7 => ?_) (fun b7 => ?_)
    ·replace h := of_br_t b7 h
     cbv
     injection h with h
     subst h
     refine ⟨(sparse 28 [(4, .c (.v (.bool false)))] []), ?_, ?_⟩
     ·exact le_sparse rfl ⟨lR _, trivial⟩ trivial rfl
     ·exact ⟨lR _, trivial, rfl⟩
    ·replace h := of_br_f b7 h
     cbv
     injection h with h
     subst h
     refine ⟨(sparse 28 [(4, .c (.v (.bool true)))] []), ?_, ?_⟩
     ·exact le_sparse rfl ⟨lR _, trivial⟩ trivial rfl
     ·exact ⟨lR _, trivial, rfl⟩

noncomputable def L_laws_eqCellS_x2 (a0 : List TCell) (a1 : List TCell) : (Int) → Option ((Int) ⊕ ((Unit) ⊕ (Unit))) := fun x2 =>
 letO x2 fun v1 =>
 br (std.lt v1 (std.ofN (len a0)))
 (req (std.inR v1 (len a0)) <|
 req (std.inR v1 (len a1)) <|
 (F_laws_eqCell (gd a0 (std.toN v1)) (gd a1 (std.toN v1))).bind fun y16 =>
 br (!(y16))
 (some (.inr (.inl ())))
 (some (.inl (std.add .i64 v1 1))))
 (some (.inr (.inr ())))
/-- laws.eqCellS -/
noncomputable def F_laws_eqCellS (a0 : List TCell) (a1 : List TCell) : Option (Bool) :=
 br (std.not (std.eq (std.ofN (len a0)) (std.ofN (len a1))))
 (some false)
 ((whileP (σ := Int) (ρ := (Unit) ⊕ (Unit)) (L_laws_eqCellS_x2 a0 a1) 0).bind fun y3 =>
 (match y3 with
  | .inl y3k0 => (
    some false)
  | .inr y3m0 =>
    some true))
theorem run_laws_eqCellS (a0 : List TCell) (a1 : List TCell) (r : Bool) (h : F_laws_eqCellS a0 a1 = some r) : Fun Try.prog 58 [.c (.bs (len a0) 4 (row gd (encCell len gd) a0)), .c (.bs (len a1) 4 (row gd (encCell len gd) a1))] [] (.c (.v (.bool r))) [] true := by
 refine Fun.of_wp (oneOf []) tok mixed Try.func58 (by kernel_rfl) rfl Try.ntmps58 rfl trivial (fun _ => ⟨trivial, trivial⟩) ?_
 unfold F_laws_eqCellS at h
 unfold L_laws_eqCellS_x2 at h
 have hf_laws_eqCell := @run_laws_eqCell
 generalize hLEN : @len = LEN at *
 generalize hGD : @gd = GD at *
 generalize hA : std = A at *
 generalize hP : Try.prog = P at *
 cbv
 refine fork (fun b20 => ?_) (fun b20 => ?_)
 ·replace h := of_br_t b20 h
  cbv
  injection h with h
  subst h
  refine ⟨(sparse 27 [(4, .c (.v (.bool false)))] []), ?_, ?_⟩
  ·exact le_sparse rfl ⟨lR _, trivial⟩ trivial rfl
  ·exact ⟨lR _, trivial, rfl⟩
 ·replace h := of_br_f b20 h
  cbv
  replace h := of_bind h
  obtain ⟨y3, hr4, hN5⟩ := h
  refine loop_cut hr4 (fun x => (sparse 27 [(0, .c (.bs (LEN a0) 4 (row GD (encCell LEN GD) a0))), (1, .c (.bs (LEN a1) 4 (row GD (encCell LEN GD) a1))), (5, .c (.v (.int .i64 x)))] [])) ?_ (fun y e s => (match y with | .inl w => e = .ret ∧ s.le (sparse 27 [(4, .c (.v (.bool false)))] []) | .inr w0 => (fun (w : Unit) => e = .exit 0 ∧ s.le (sparse 27 [] [])) w0)) ?_ ?_
  ·clear hr4 hN5
   show St.le _ _
   exact le_sparse rfl ⟨lR _, lR _, lR _, trivial⟩ trivial rfl
  ·clear hr4 hN5
   intro x z9 h K7 hK8 hY6
   replace h := of_let h
   obtain ⟨v1, hv1, h⟩ := h
   have hv1 : v1 = x := hv1
   subst hv1
   cbv
   refine fork (fun b19 => ?_) (fun b19 => ?_)
   ·replace h := of_br_t b19 h
    cbv
    replace h := of_req h
    obtain ⟨c14, h⟩ := h
    refine ⟨⟨c14, trivial⟩, ?_⟩
    replace h := of_req h
    obtain ⟨c15, h⟩ := h
    refine ⟨⟨c15, trivial⟩, ?_⟩
    replace h := of_bind h
    obtain ⟨y16, hy17, h⟩ := h
    refine ⟨{ args := [.agg [.v (.string (GD a0 (A.toN v1)).fName), .bs (LEN (GD a0 (A.toN v1)).fShapes) 5 (row GD (encShape) (GD a0 (A.toN v1)).fShapes), .bs (LEN (GD a0 (A.toN v1)).fLabels) 4 (row GD (encLabel) (GD a0 (A.toN v1)).fLabels), .bs (LEN (GD a0 (A.toN v1)).fInstances) 8 (row GD (encInstance) (GD a0 (A.toN v1)).fInstances)], .agg [.v (.string (GD a1 (A.toN v1)).fName), .bs (LEN (GD a1 (A.toN v1)).fShapes) 5 (row GD (encShape) (GD a1 (A.toN v1)).fShapes), .bs (LEN (GD a1 (A.toN v1)).fLabels) 4 (row GD (encLabel) (GD a1 (A.toN v1)).fLabels), .bs (LEN (GD a1 (A.toN v1)).fInstances) 8 (row GD (encInstance) (GD a1 (A.toN v1)).fInstances)]], o0 := [], r := .c (.v (.bool y16)), o1 := [], fl := true, σ := [], τ := [] }, hf_laws_eqCell _ _ _ hy17, ⟨les_cons (lR _) (les_cons (lR _) (les_nil)), trivial, rfl, rfl, rfl, rfl, trivial, rfl⟩, ?_⟩
    cbv
    refine fork (fun b18 => ?_) (fun b18 => ?_)
    ·replace h := of_br_t b18 h
     cbv
     injection h with h
     refine hY6 _ h.symm _ _ (And.intro rfl ?_) (by intro hh; cases hh)
     exact le_sparse rfl ⟨lR _, trivial⟩ trivial rfl
    ·replace h := of_br_f b18 h
     cbv
     injection h with h
     refine hK8 _ h.symm _ ?_
     exact le_sparse rfl ⟨lR _, lR _, lR _, trivial⟩ trivial rfl
   ·replace h := of_br_f b19 h
    cbv
    injection h with h
    refine hY6 _ h.symm _ _ (And.intro rfl ?_) (by intro hh; cases hh)
    exact le_sparse rfl trivial trivial rfl
  ·clear hr4
   have h := hN5
   clear hN5
   intro e12 s13 q11 hne
   rcases y3 with y3k0 | y3m0
   ·replace h := h
    obtain ⟨rfl, q11⟩ := q11
    cbv
    injection h with h
    subst h
    refine ⟨(sparse 27 [(4, .c (.v (.bool false)))] []), ?_, ?_⟩
    ·refine St.le_trans q11 ?_
     exact le_sparse rfl ⟨lR _, trivial⟩ trivial rfl
    ·exact ⟨lR _, trivial, rfl⟩
   ·obtain ⟨rfl, q11⟩ := q11
    cbv
    refine ⟨_, q11, ?_⟩
    cbv
    injection h with h
    subst h
    refine ⟨(sparse 27 [(4, .c (.v (.bool true)))] []), ?_, ?_⟩
    ·exact le_sparse rfl ⟨lR _, trivial⟩ trivial rfl
    ·exact ⟨lR _, trivial, rfl⟩

/-- laws.eqLibrary -/
noncomputable def F_laws_eqLibrary (a0 : TLibrary) (a1 : TLibrary) : Option (Bool) :=
 (F_laws_eqCellS a0.fCells a1.fCells).bind fun y1 =>
 br (!(y1))
 (some false)
 (some true)
theorem run_laws_eqLibrary (a0 : TLibrary) (a1 : TLibrary) (r : Bool) (h : F_laws_eqLibrary a0 a1 = some r) : Fun Try.prog 22 [.agg [.bs (len a0.fCells) 4 (row gd (encCell len gd) a0.fCells)], .agg [.bs (len a1.fCells) 4 (row gd (encCell len gd) a1.fCells)]] [] (.c (.v (.bool r))) [] true := by
 refine Fun.of_wp (oneOf []) tok mixed Try.func22 (by kernel_rfl) rfl Try.ntmps22 rfl trivial (fun _ => ⟨trivial, trivial⟩) ?_
 unfold F_laws_eqLibrary at h
 have hf_laws_eqCellS := @run_laws_eqCellS
 generalize hLEN : @len = LEN at *
 generalize hGD : @gd = GD at *
 generalize hA : std = A at *
 generalize hP : Try.prog = P at *
 cbv
 replace h := of_bind h
 obtain ⟨y1, hy2, h⟩ := h
 refine ⟨{ args := [.c (.bs (LEN a0.fCells) 4 (row GD (encCell LEN GD) a0.fCells)), .c (.bs (LEN a1.fCells) 4 (row GD (encCell LEN GD) a1.fCells))], o0 := [], r := .c (.v (.bool y1)), o1 := [], fl := true, σ := [], τ := [] }, hf_laws_eqCellS _ _ _ hy2, ⟨les_cons (lR _) (les_cons (lR _) (les_nil)), trivial, rfl, rfl, rfl, rfl, trivial, rfl⟩, ?_⟩
 cbv
 refine fork (fun b3 => ?_) (fun b3 => ?_)
 ·replace h := of_br_t b3 h
  cbv
  injection h with h
  subst h
  refine ⟨(sparse 11 [(4, .c (.v (.bool false)))] []), ?_, ?_⟩
  ·exact le_sparse rfl ⟨lR _, trivial⟩ trivial rfl
  ·exact ⟨lR _, trivial, rfl⟩
 ·replace h := of_br_f b3 h
  cbv
  injection h with h
  subst h
  refine ⟨(sparse 11 [(4, .c (.v (.bool true)))] []), ?_, ?_⟩
  ·exact le_sparse rfl ⟨lR _, trivial⟩ trivial rfl
  ·exact ⟨lR _, trivial, rfl⟩
/-- laws.FnExactInverseEdit -/
noncomputable def F_laws_FnExactInverseEdit (a0 : TLibrary) (a1 : TEdit) : Option (Bool) :=
 (F_laws_szLibrary (TLibrary.mk a0.fCells) 1048576).bind fun y1 =>
 br (std.lt y1 0)
 (some true)
 ((F_laws_szEdit (TEdit.mk a1.fKind a1.fCell a1.fIndex a1.fName a1.fShape a1.fLabel a1.fInstance) y1).bind fun y3 =>
 br (std.lt y3 0)
 (some true)
 ((F_laws_toLibrary (TLibrary.mk a0.fCells)).bind fun y5 =>
 (F_laws_toEdit (TEdit.mk a1.fKind a1.fCell a1.fIndex a1.fName a1.fShape a1.fLabel a1.fInstance)).bind fun y7 =>
 (F_spec_InverseEdit y5 y7).bind fun y9 =>
 (F_laws_toLibrary (TLibrary.mk a0.fCells)).bind fun y11 =>
 (F_laws_toEdit (TEdit.mk a1.fKind a1.fCell a1.fIndex a1.fName a1.fShape a1.fLabel a1.fInstance)).bind fun y13 =>
 (F_impl_InverseEdit y11 y13).bind fun y15 =>
 ((
    (F_laws_eqEdit y15.1 y9.1).bind fun y24 =>
    br (!(y24))
    (some true)
    (some (std.not (std.eq y15.2 y9.2)))
  ) : Option (Bool)).bind fun y17 =>
 letO y17 fun w23 =>
 br w23
 (some false)
 ((F_laws_toLibrary (TLibrary.mk a0.fCells)).bind fun y27 =>
 (F_laws_eqLibrary y11 y27).bind fun y29 =>
 br (!(y29))
 (some false)
 (some true))))
theorem run_laws_FnExactInverseEdit (a0 : TLibrary) (a1 : TEdit) (r : Bool) (h : F_laws_FnExactInverseEdit a0 a1 = some r) : Fun Try.prog 8 [.agg [.bs (len a0.fCells) 4 (row gd (encCell len gd) a0.fCells)], .agg [.v (.int .i64 a1.fKind), .v (.int .i64 a1.fCell), .v (.int .i64 a1.fIndex), .v (.string a1.fName), .v (.int .i64 a1.fShape.fLayer), .v (.int .i64 a1.fShape.fBox.fX0), .v (.int .i64 a1.fShape.fBox.fY0), .v (.int .i64 a1.fShape.fBox.fX1), .v (.int .i64 a1.fShape.fBox.fY1), .v (.int .i64 a1.fLabel.fLayer), .v (.int .i64 a1.fLabel.fAt.fX), .v (.int .i64 a1.fLabel.fAt.fY), .v (.string a1.fLabel.fName), .v (.int .i64 a1.fInstance.fCell), .v (.int .i64 a1.fInstance.fPlace.fOrientation), .v (.int .i64 a1.fInstance.fPlace.fX), .v (.int .i64 a1.fInstance.fPlace.fY), .v (.int .i64 a1.fInstance.fColumns), .v (.int .i64 a1.fInstance.fRows), .v (.int .i64 a1.fInstance.fStepX), .v (.int .i64 a1.fInstance.fStepY)]] [] (.c (.v (.bool r))) [] true := by
 refine Fun.of_wp (oneOf [11]) tok mixed Try.func8 (by kernel_rfl) rfl Try.ntmps8 rfl trivial (fun _ => ⟨trivial, trivial⟩) ?_
 unfold F_laws_FnExactInverseEdit at h
 have hf_impl_InverseEdit := @run_impl_InverseEdit
 have hf_laws_eqEdit := @run_laws_eqEdit
 have hf_laws_eqLibrary := @run_laws_eqLibrary
 have hf_laws_szEdit := @run_laws_szEdit
 have hf_laws_szLibrary := @run_laws_szLibrary
 have hf_laws_toEdit := @run_laws_toEdit
 have hf_laws_toLibrary := @run_laws_toLibrary
 have hf_spec_InverseEdit := @run_spec_InverseEdit
 generalize hLEN : @len = LEN at *
 generalize hGD : @gd = GD at *
 generalize hA : std = A at *
 generalize hP : Try.prog = P at *
 cbv
 replace h := of_bind h
 obtain ⟨y1, hy2, h⟩ := h
 refine ⟨{ args := [.agg [.bs (LEN a0.fCells) 4 (row GD (encCell LEN GD) a0.fCells)], .c (.v (.int .i64 1048576))], o0 := [], r := .c (.v (.int .i64 y1)), o1 := [], fl := true, σ := [], τ := [] }, hf_laws_szLibrary _ _ _ hy2, ⟨les_cons (lR _) (les_cons (lR _) (les_nil)), trivial, rfl, rfl, rfl, rfl, trivial, rfl⟩, ?_⟩
 cbv
 refine fork (fun b34 => ?_) (fun b34 => ?_)
 ·replace h := of_br_t b34 h
  cbv
  injection h with h
  subst h
  refine ⟨(sparse 52 [(4, .c (.v (.bool true)))] []), ?_, ?_⟩
  ·exact le_sparse rfl ⟨lR _, trivial⟩ trivial rfl
  ·exact ⟨lR _, trivial, rfl⟩
 ·replace h := of_br_f b34 h
  cbv
  replace h := of_bind h
  obtain ⟨y3, hy4, h⟩ := h
  refine ⟨{ args := [.agg [.v (.int .i64 a1.fKind), .v (.int .i64 a1.fCell), .v (.int .i64 a1.fIndex), .v (.string a1.fName), .v (.int .i64 a1.fShape.fLayer), .v (.int .i64 a1.fShape.fBox.fX0), .v (.int .i64 a1.fShape.fBox.fY0), .v (.int .i64 a1.fShape.fBox.fX1), .v (.int .i64 a1.fShape.fBox.fY1), .v (.int .i64 a1.fLabel.fLayer), .v (.int .i64 a1.fLabel.fAt.fX), .v (.int .i64 a1.fLabel.fAt.fY), .v (.string a1.fLabel.fName), .v (.int .i64 a1.fInstance.fCell), .v (.int .i64 a1.fInstance.fPlace.fOrientation), .v (.int .i64 a1.fInstance.fPlace.fX), .v (.int .i64 a1.fInstance.fPlace.fY), .v (.int .i64 a1.fInstance.fColumns), .v (.int .i64 a1.fInstance.fRows), .v (.int .i64 a1.fInstance.fStepX), .v (.int .i64 a1.fInstance.fStepY)], .c (.v (.int .i64 y1))], o0 := [], r := .c (.v (.int .i64 y3)), o1 := [], fl := true, σ := [], τ := [] }, hf_laws_szEdit _ _ _ hy4, ⟨les_cons (lR _) (les_cons (lR _) (les_nil)), trivial, rfl, rfl, rfl, rfl, trivial, rfl⟩, ?_⟩
  cbv
  refine fork (fun b33 => ?_) (fun b33 => ?_)
  ·replace h := of_br_t b33 h
   cbv
   injection h with h
   subst h
   refine ⟨(sparse 52 [(4, .c (.v (.bool true)))] []), ?_, ?_⟩
   ·exact le_sparse rfl ⟨lR _, trivial⟩ trivial rfl
   ·exact ⟨lR _, trivial, rfl⟩
  ·replace h := of_br_f b33 h
   cbv
   replace h := of_bind h
   obtain ⟨y5, hy6, h⟩ := h
   refine ⟨{ args := [.agg [.bs (LEN a0.fCells) 4 (row GD (encCell LEN GD) a0.fCells)]], o0 := [], r := .agg [.os 64000 0 (LEN y5.fCells)], o1 := [(64000, .arr .rw [] (LEN y5.fCells) 4 (row GD (oncCell LEN GD) y5.fCells))], fl := true, σ := [], τ := [(64000, 1472)] }, hf_laws_toLibrary _ _ hy6, ⟨les_cons (lR _) (les_nil), trivial, rfl, rfl, rfl, rfl, ⟨fun h => absurd (show (64000 : Nat) % 2 = 1 from h) (by decide), trivial⟩, rfl⟩, _, rfl, _, _, rfl, fun _ _ _ _ => rfl, ?_⟩
   cbv
   replace h := of_bind h
   obtain ⟨y7, hy8, h⟩ := h
   refine ⟨{ args := [.agg [.v (.int .i64 a1.fKind), .v (.int .i64 a1.fCell), .v (.int .i64 a1.fIndex), .v (.string a1.fName), .v (.int .i64 a1.fShape.fLayer), .v (.int .i64 a1.fShape.fBox.fX0), .v (.int .i64 a1.fShape.fBox.fY0), .v (.int .i64 a1.fShape.fBox.fX1), .v (.int .i64 a1.fShape.fBox.fY1), .v (.int .i64 a1.fLabel.fLayer), .v (.int .i64 a1.fLabel.fAt.fX), .v (.int .i64 a1.fLabel.fAt.fY), .v (.string a1.fLabel.fName), .v (.int .i64 a1.fInstance.fCell), .v (.int .i64 a1.fInstance.fPlace.fOrientation), .v (.int .i64 a1.fInstance.fPlace.fX), .v (.int .i64 a1.fInstance.fPlace.fY), .v (.int .i64 a1.fInstance.fColumns), .v (.int .i64 a1.fInstance.fRows), .v (.int .i64 a1.fInstance.fStepX), .v (.int .i64 a1.fInstance.fStepY)]], o0 := [], r := .agg [.v (.int .i64 y7.fKind), .v (.int .i64 y7.fCell), .v (.int .i64 y7.fIndex), .v (.string y7.fName), .v (.int .i64 y7.fShape.fLayer), .v (.int .i64 y7.fShape.fBox.fX0), .v (.int .i64 y7.fShape.fBox.fY0), .v (.int .i64 y7.fShape.fBox.fX1), .v (.int .i64 y7.fShape.fBox.fY1), .v (.int .i64 y7.fLabel.fLayer), .v (.int .i64 y7.fLabel.fAt.fX), .v (.int .i64 y7.fLabel.fAt.fY), .v (.string y7.fLabel.fName), .v (.int .i64 y7.fInstance.fCell), .v (.int .i64 y7.fInstance.fPlace.fOrientation), .v (.int .i64 y7.fInstance.fPlace.fX), .v (.int .i64 y7.fInstance.fPlace.fY), .v (.int .i64 y7.fInstance.fColumns), .v (.int .i64 y7.fInstance.fRows), .v (.int .i64 y7.fInstance.fStepX), .v (.int .i64 y7.fInstance.fStepY)], o1 := [], fl := true, σ := [], τ := [] }, hf_laws_toEdit _ _ hy8, ⟨les_cons (lR _) (les_nil), trivial, rfl, rfl, rfl, rfl, trivial, rfl⟩, ?_⟩
   cbv
   replace h := of_bind h
   obtain ⟨y9, hy10, h⟩ := h
   refine ⟨{ args := [.agg [.bs (LEN y5.fCells) 4 (row GD (encCell LEN GD) y5.fCells)], .agg [.v (.int .i64 y7.fKind), .v (.int .i64 y7.fCell), .v (.int .i64 y7.fIndex), .v (.string y7.fName), .v (.int .i64 y7.fShape.fLayer), .v (.int .i64 y7.fShape.fBox.fX0), .v (.int .i64 y7.fShape.fBox.fY0), .v (.int .i64 y7.fShape.fBox.fX1), .v (.int .i64 y7.fShape.fBox.fY1), .v (.int .i64 y7.fLabel.fLayer), .v (.int .i64 y7.fLabel.fAt.fX), .v (.int .i64 y7.fLabel.fAt.fY), .v (.string y7.fLabel.fName), .v (.int .i64 y7.fInstance.fCell), .v (.int .i64 y7.fInstance.fPlace.fOrientation), .v (.int .i64 y7.fInstance.fPlace.fX), .v (.int .i64 y7.fInstance.fPlace.fY), .v (.int .i64 y7.fInstance.fColumns), .v (.int .i64 y7.fInstance.fRows), .v (.int .i64 y7.fInstance.fStepX), .v (.int .i64 y7.fInstance.fStepY)]], o0 := [], r := .tup [.agg [.v (.int .i64 y9.1.fKind), .v (.int .i64 y9.1.fCell), .v (.int .i64 y9.1.fIndex), .v (.string y9.1.fName), .v (.int .i64 y9.1.fShape.fLayer), .v (.int .i64 y9.1.fShape.fBox.fX0), .v (.int .i64 y9.1.fShape.fBox.fY0), .v (.int .i64 y9.1.fShape.fBox.fX1), .v (.int .i64 y9.1.fShape.fBox.fY1), .v (.int .i64 y9.1.fLabel.fLayer), .v (.int .i64 y9.1.fLabel.fAt.fX), .v (.int .i64 y9.1.fLabel.fAt.fY), .v (.string y9.1.fLabel.fName), .v (.int .i64 y9.1.fInstance.fCell), .v (.int .i64 y9.1.fInstance.fPlace.fOrientation), .v (.int .i64 y9.1.fInstance.fPlace.fX), .v (.int .i64 y9.1.fInstance.fPlace.fY), .v (.int .i64 y9.1.fInstance.fColumns), .v (.int .i64 y9.1.fInstance.fRows), .v (.int .i64 y9.1.fInstance.fStepX), .v (.int .i64 y9.1.fInstance.fStepY)], .c (.v (.int .i64 y9.2))], o1 := [], fl := true, σ := [], τ := [] }, hf_spec_InverseEdit _ _ _ hy10, ⟨les_cons (le_agg ⟨give_osD (rf_oncCell) (ln_oncCell) rfl rfl rfl, trivial⟩) (les_cons (lR _) (les_nil)), trivial, rfl, rfl, rfl, rfl, trivial, rfl⟩, ?_⟩
   cbv
   replace h := of_bind h
   obtain ⟨y11, hy12, h⟩ := h
   refine ⟨{ args := [.agg [.bs (LEN a0.fCells) 4 (row GD (encCell LEN GD) a0.fCells)]], o0 := [], r := .agg [.os 64000 0 (LEN y11.fCells)], o1 := [(64000, .arr .rw [] (LEN y11.fCells) 4 (row GD (oncCell LEN GD) y11.fCells))], fl := true, σ := [], τ := [(64000, 1920)] }, hf_laws_toLibrary _ _ hy12, ⟨les_cons (lR _) (les_nil), trivial, rfl, rfl, rfl, rfl, ⟨fun h => absurd (show (64000 : Nat) % 2 = 1 from h) (by decide), trivial⟩, rfl⟩, _, rfl, _, _, rfl, fun _ _ _ _ => rfl, ?_⟩
   cbv
   replace h := of_bind h
   obtain ⟨y13, hy14, h⟩ := h
   refine ⟨{ args := [.agg [.v (.int .i64 a1.fKind), .v (.int .i64 a1.fCell), .v (.int .i64 a1.fIndex), .v (.string a1.fName), .v (.int .i64 a1.fShape.fLayer), .v (.int .i64 a1.fShape.fBox.fX0), .v (.int .i64 a1.fShape.fBox.fY0), .v (.int .i64 a1.fShape.fBox.fX1), .v (.int .i64 a1.fShape.fBox.fY1), .v (.int .i64 a1.fLabel.fLayer), .v (.int .i64 a1.fLabel.fAt.fX), .v (.int .i64 a1.fLabel.fAt.fY), .v (.string a1.fLabel.fName), .v (.int .i64 a1.fInstance.fCell), .v (.int .i64 a1.fInstance.fPlace.fOrientation), .v (.int .i64 a1.fInstance.fPlace.fX), .v (.int .i64 a1.fInstance.fPlace.fY), .v (.int .i64 a1.fInstance.fColumns), .v (.int .i64 a1.fInstance.fRows), .v (.int .i64 a1.fInstance.fStepX), .v (.int .i64 a1.fInstance.fStepY)]], o0 := [], r := .agg [.v (.int .i64 y13.fKind), .v (.int .i64 y13.fCell), .v (.int .i64 y13.fIndex), .v (.string y13.fName), .v (.int .i64 y13.fShape.fLayer), .v (.int .i64 y13.fShape.fBox.fX0), .v (.int .i64 y13.fShape.fBox.fY0), .v (.int .i64 y13.fShape.fBox.fX1), .v (.int .i64 y13.fShape.fBox.fY1), .v (.int .i64 y13.fLabel.fLayer), .v (.int .i64 y13.fLabel.fAt.fX), .v (.int .i64 y13.fLabel.fAt.fY), .v (.string y13.fLabel.fName), .v (.int .i64 y13.fInstance.fCell), .v (.int .i64 y13.fInstance.fPlace.fOrientation), .v (.int .i64 y13.fInstance.fPlace.fX), .v (.int .i64 y13.fInstance.fPlace.fY), .v (.int .i64 y13.fInstance.fColumns), .v (.int .i64 y13.fInstance.fRows), .v (.int .i64 y13.fInstance.fStepX), .v (.int .i64 y13.fInstance.fStepY)], o1 := [], fl := true, σ := [], τ := [] }, hf_laws_toEdit _ _ hy14, ⟨les_cons (lR _) (les_nil), trivial, rfl, rfl, rfl, rfl, trivial, rfl⟩, ?_⟩
   cbv
   replace h := of_bind h
   obtain ⟨y15, hy16, h⟩ := h
   refine ⟨{ args := [.agg [.bs (LEN y11.fCells) 4 (row GD (encCell LEN GD) y11.fCells)], .agg [.v (.int .i64 y13.fKind), .v (.int .i64 y13.fCell), .v (.int .i64 y13.fIndex), .v (.string y13.fName), .v (.int .i64 y13.fShape.fLayer), .v (.int .i64 y13.fShape.fBox.fX0), .v (.int .i64 y13.fShape.fBox.fY0), .v (.int .i64 y13.fShape.fBox.fX1), .v (.int .i64 y13.fShape.fBox.fY1), .v (.int .i64 y13.fLabel.fLayer), .v (.int .i64 y13.fLabel.fAt.fX), .v (.int .i64 y13.fLabel.fAt.fY), .v (.string y13.fLabel.fName), .v (.int .i64 y13.fInstance.fCell), .v (.int .i64 y13.fInstance.fPlace.fOrientation), .v (.int .i64 y13.fInstance.fPlace.fX), .v (.int .i64 y13.fInstance.fPlace.fY), .v (.int .i64 y13.fInstance.fColumns), .v (.int .i64 y13.fInstance.fRows), .v (.int .i64 y13.fInstance.fStepX), .v (.int .i64 y13.fInstance.fStepY)]], o0 := [], r := .tup [.agg [.v (.int .i64 y15.1.fKind), .v (.int .i64 y15.1.fCell), .v (.int .i64 y15.1.fIndex), .v (.string y15.1.fName), .v (.int .i64 y15.1.fShape.fLayer), .v (.int .i64 y15.1.fShape.fBox.fX0), .v (.int .i64 y15.1.fShape.fBox.fY0), .v (.int .i64 y15.1.fShape.fBox.fX1), .v (.int .i64 y15.1.fShape.fBox.fY1), .v (.int .i64 y15.1.fLabel.fLayer), .v (.int .i64 y15.1.fLabel.fAt.fX), .v (.int .i64 y15.1.fLabel.fAt.fY), .v (.string y15.1.fLabel.fName), .v (.int .i64 y15.1.fInstance.fCell), .v (.int .i64 y15.1.fInstance.fPlace.fOrientation), .v (.int .i64 y15.1.fInstance.fPlace.fX), .v (.int .i64 y15.1.fInstance.fPlace.fY), .v (.int .i64 y15.1.fInstance.fColumns), .v (.int .i64 y15.1.fInstance.fRows), .v (.int .i64 y15.1.fInstance.fStepX), .v (.int .i64 y15.1.fInstance.fStepY)], .c (.v (.int .i64 y15.2))], o1 := [], fl := true, σ := [], τ := [] }, hf_impl_InverseEdit _ _ _ hy16, ⟨les_cons (le_agg ⟨give_osD (rf_oncCell) (ln_oncCell) rfl rfl rfl, trivial⟩) (les_cons (lR _) (les_nil)), trivial, rfl, rfl, rfl, rfl, trivial, rfl⟩, ?_⟩
   cbv
   replace h := of_bind h
   obtain ⟨y17, hy18, h⟩ := h
   obtain ⟨S21, hS22⟩ : ∃ S, S = (sparse 52 [(2, .c (.ptr 128 0)), (8, .c (.ptr 512 0)), (46, .c (.v (.bool y17)))] [(128, .var [.bs (LEN a0.fCells) 4 (row GD (encCell LEN GD) a0.fCells)]), (512, .var [.os 1920 0 (LEN y11.fCells)]), (1920, .arr .rw [] (LEN y11.fCells) 4 (row GD (oncCell LEN GD) y11.fCells))]) := ⟨_, rfl⟩
   refine ⟨S21, ?_, ?_⟩
   ·clear h
    have h := hy18
    clear hy18
    cbv
    replace h := of_bind h
    obtain ⟨y24, hy25, h⟩ := h
    refine ⟨{ args := [.agg [.v (.int .i64 y15.1.fKind), .v (.int .i64 y15.1.fCell), .v (.int .i64 y15.1.fIndex), .v (.string y15.1.fName), .v (.int .i64 y15.1.fShape.fLayer), .v (.int .i64 y15.1.fShape.fBox.fX0), .v (.int .i64 y15.1.fShape.fBox.fY0), .v (.int .i64 y15.1.fShape.fBox.fX1), .v (.int .i64 y15.1.fShape.fBox.fY1), .v (.int .i64 y15.1.fLabel.fLayer), .v (.int .i64 y15.1.fLabel.fAt.fX), .v (.int .i64 y15.1.fLabel.fAt.fY), .v (.string y15.1.fLabel.fName), .v (.int .i64 y15.1.fInstance.fCell), .v (.int .i64 y15.1.fInstance.fPlace.fOrientation), .v (.int .i64 y15.1.fInstance.fPlace.fX), .v (.int .i64 y15.1.fInstance.fPlace.fY), .v (.int .i64 y15.1.fInstance.fColumns), .v (.int .i64 y15.1.fInstance.fRows), .v (.int .i64 y15.1.fInstance.fStepX), .v (.int .i64 y15.1.fInstance.fStepY)], .agg [.v (.int .i64 y9.1.fKind), .v (.int .i64 y9.1.fCell), .v (.int .i64 y9.1.fIndex), .v (.string y9.1.fName), .v (.int .i64 y9.1.fShape.fLayer), .v (.int .i64 y9.1.fShape.fBox.fX0), .v (.int .i64 y9.1.fShape.fBox.fY0), .v (.int .i64 y9.1.fShape.fBox.fX1), .v (.int .i64 y9.1.fShape.fBox.fY1), .v (.int .i64 y9.1.fLabel.fLayer), .v (.int .i64 y9.1.fLabel.fAt.fX), .v (.int .i64 y9.1.fLabel.fAt.fY), .v (.string y9.1.fLabel.fName), .v (.int .i64 y9.1.fInstance.fCell), .v (.int .i64 y9.1.fInstance.fPlace.fOrientation), .v (.int .i64 y9.1.fInstance.fPlace.fX), .v (.int .i64 y9.1.fInstance.fPlace.fY), .v (.int .i64 y9.1.fInstance.fColumns), .v (.int .i64 y9.1.fInstance.fRows), .v (.int .i64 y9.1.fInstance.fStepX), .v (.int .i64 y9.1.fInstance.fStepY)]], o0 := [], r := .c (.v (.bool y24)), o1 := [], fl := true, σ := [], τ := [] }, hf_laws_eqEdit _ _ _ hy25, ⟨les_cons (lR _) (les_cons (lR _) (les_nil)), trivial, rfl, rfl, rfl, rfl, trivial, rfl⟩, ?_⟩
    cbv
    refine fork (fun b26 => ?_) (fun b26 => ?_)
    ·replace h := of_br_t b26 h
     cbv
     injection h with h
     subst h
     subst hS22
     show St.le _ _
     exact le_sparse rfl ⟨lR _, lR _, lR _, trivial⟩ ⟨rfl, rfl, oS, trivial⟩ rfl
    ·replace h := of_br_f b26 h
     cbv
     injection h with h
     subst h
     subst hS22
     show St.le _ _
     exact le_sparse rfl ⟨lR _, lR _, lR _, trivial⟩ ⟨rfl, rfl, oS, trivial⟩ rfl
   ·clear hy18
    subst hS22
    replace h := of_let h
    obtain ⟨w23, hw23, h⟩ := h
    have hw23 : w23 = y17 := hw23
    subst hw23
    cbv
    refine fork (fun b32 => ?_) (fun b32 => ?_)
    ·replace h := of_br_t b32 h
     cbv
     injection h with h
     subst h
     refine ⟨(sparse 52 [(4, .c (.v (.bool false)))] []), ?_, ?_⟩
     ·exact le_sparse rfl ⟨lR _, trivial⟩ trivial rfl
     ·exact ⟨lR _, trivial, rfl⟩
    ·replace h := of_br_f b32 h
     cbv
     replace h := of_bind h
     obtain ⟨y27, hy28, h⟩ := h
     refine ⟨{ args := [.agg [.bs (LEN a0.fCells) 4 (row GD (encCell LEN GD) a0.fCells)]], o0 := [], r := .agg [.os 64000 0 (LEN y27.fCells)], o1 := [(64000, .arr .rw [] (LEN y27.fCells) 4 (row GD (oncCell LEN GD) y27.fCells))], fl := true, σ := [], τ := [(64000, 3136)] }, hf_laws_toLibrary _ _ hy28, ⟨les_cons (lR _) (les_nil), trivial, rfl, rfl, rfl, rfl, ⟨fun h => absurd (show (64000 : Nat) % 2 = 1 from h) (by decide), trivial⟩, rfl⟩, _, rfl, _, _, rfl, fun _ _ _ _ => rfl, ?_⟩
     cbv
     replace h := of_bind h
     obtain ⟨y29, hy30, h⟩ := h
     refine ⟨{ args := [.agg [.bs (LEN y11.fCells) 4 (row GD (encCell LEN GD) y11.fCells)], .agg [.bs (LEN y27.fCells) 4 (row GD (encCell LEN GD) y27.fCells)]], o0 := [], r := .c (.v (.bool y29)), o1 := [], fl := true, σ := [], τ := [] }, hf_laws_eqLibrary _ _ _ hy30, ⟨les_cons (le_agg ⟨give_osD (rf_oncCell) (ln_oncCell) rfl rfl rfl, trivial⟩) (les_cons (le_agg ⟨give_osD (rf_oncCell) (ln_oncCell) rfl rfl rfl, trivial⟩) (les_nil)), trivial, rfl, rfl, rfl, rfl, trivial, rfl⟩, ?_⟩
     cbv
     refine fork (fun b31 => ?_) (fun b31 => ?_)
     ·replace h := of_br_t b31 h
      cbv
      injection h with h
      subst h
      refine ⟨(sparse 52 [(4, .c (.v (.bool false)))] []), ?_, ?_⟩
      ·exact le_sparse rfl ⟨lR _, trivial⟩ trivial rfl
      ·exact ⟨lR _, trivial, rfl⟩
     ·replace h := of_br_f b31 h
      cbv
      injection h with h
      subst h
      refine ⟨(sparse 52 [(4, .c (.v (.bool true)))] []), ?_, ?_⟩
      ·exact le_sparse rfl ⟨lR _, trivial⟩ trivial rfl
      ·exact ⟨lR _, trivial, rfl⟩
theorem op_9 (d : Nat) : Opens T (d + 1) 9 (clS) (wfS) := op_str (show T 9 = some d9 from rfl) rfl
theorem op_2 (d : Nat) : Opens T (d + 1) 2 (clI .i64) (wfI .i64) := op_int .i64 (show T 2 = some d2 from rfl) rfl
def clRect (e : TRect) : List AC := clI .i64 e.fX0 ++ (clI .i64 e.fY0 ++ (clI .i64 e.fX1 ++ (clI .i64 e.fY1 ++ ([]))))
def wfRect (e : TRect) : Prop := wfI .i64 e.fX0 ∧ wfI .i64 e.fY0 ∧ wfI .i64 e.fX1 ∧ wfI .i64 e.fY1
theorem op_46 (d : Nat) : Opens T (d + 2) 46 (clRect) (wfRect) := by
  intro cs hs
  obtain ⟨a0, b0, rfl, h0, a1, b1, rfl, h1, a2, b2, rfl, h2, a3, b3, rfl, h3, rfl⟩ := hs
  obtain ⟨e0, w0, r0⟩ := op_2 (d + 0) a0 h0
  obtain ⟨e1, w1, r1⟩ := op_2 (d + 0) a1 h1
  obtain ⟨e2, w2, r2⟩ := op_2 (d + 0) a2 h2
  obtain ⟨e3, w3, r3⟩ := op_2 (d + 0) a3 h3
  exact ⟨TRect.mk e0 e1 e2 e3, ⟨w0, w1, w2, w3⟩, rlist_app r0 (rlist_app r1 (rlist_app r2 (rlist_app r3 (trivial))))⟩
def clShape (e : TShape) : List AC := clI .i64 e.fLayer ++ (clRect e.fBox ++ ([]))
def wfShape (e : TShape) : Prop := wfI .i64 e.fLayer ∧ wfRect e.fBox
theorem op_55 (d : Nat) : Opens T (d + 3) 55 (clShape) (wfShape) := by
  intro cs hs
  obtain ⟨a0, b0, rfl, h0, a1, b1, rfl, h1, rfl⟩ := hs
  obtain ⟨e0, w0, r0⟩ := op_2 (d + 1) a0 h0
  obtain ⟨e1, w1, r1⟩ := op_46 (d + 0) a1 h1
  exact ⟨TShape.mk e0 e1, ⟨w0, w1⟩, rlist_app r0 (rlist_app r1 (trivial))⟩
theorem op_138 (d : Nat) : Opens T (d + 4) 138 (clL 5 (encShape)) (wfL wfShape) := op_slice (e := 55) (sz := 5) (show T 138 = some d138 from rfl) rfl (show T 55 = some d55 from rfl) rfl (fun x j hj => by match j, hj with | 0, _ => rfl | 1, _ => rfl | 2, _ => rfl | 3, _ => rfl | 4, _ => rfl | (j_ + 5), h_ => exact absurd h_ (by omega)) (op_55 d)
def clPoint (e : TPoint) : List AC := clI .i64 e.fX ++ (clI .i64 e.fY ++ ([]))
def wfPoint (e : TPoint) : Prop := wfI .i64 e.fX ∧ wfI .i64 e.fY
theorem op_57 (d : Nat) : Opens T (d + 2) 57 (clPoint) (wfPoint) := by
  intro cs hs
  obtain ⟨a0, b0, rfl, h0, a1, b1, rfl, h1, rfl⟩ := hs
  obtain ⟨e0, w0, r0⟩ := op_2 (d + 0) a0 h0
  obtain ⟨e1, w1, r1⟩ := op_2 (d + 0) a1 h1
  exact ⟨TPoint.mk e0 e1, ⟨w0, w1⟩, rlist_app r0 (rlist_app r1 (trivial))⟩
def clLabel (e : TLabel) : List AC := clI .i64 e.fLayer ++ (clPoint e.fAt ++ (clS e.fName ++ ([])))
def wfLabel (e : TLabel) : Prop := wfI .i64 e.fLayer ∧ wfPoint e.fAt ∧ wfS e.fName
theorem op_59 (d : Nat) : Opens T (d + 3) 59 (clLabel) (wfLabel) := by
  intro cs hs
  obtain ⟨a0, b0, rfl, h0, a1, b1, rfl, h1, a2, b2, rfl, h2, rfl⟩ := hs
  obtain ⟨e0, w0, r0⟩ := op_2 (d + 1) a0 h0
  obtain ⟨e1, w1, r1⟩ := op_57 (d + 0) a1 h1
  obtain ⟨e2, w2, r2⟩ := op_9 (d + 1) a2 h2
  exact ⟨TLabel.mk e0 e1 e2, ⟨w0, w1, w2⟩, rlist_app r0 (rlist_app r1 (rlist_app r2 (trivial)))⟩
theorem op_139 (d : Nat) : Opens T (d + 4) 139 (clL 4 (encLabel)) (wfL wfLabel) := op_slice (e := 59) (sz := 4) (show T 139 = some d139 from rfl) rfl (show T 59 = some d59 from rfl) rfl (fun x j hj => by match j, hj with | 0, _ => rfl | 1, _ => rfl | 2, _ => rfl | 3, _ => rfl | (j_ + 4), h_ => exact absurd h_ (by omega)) (op_59 d)
def clTransform (e : TTransform) : List AC := clI .i64 e.fOrientation ++ (clI .i64 e.fX ++ (clI .i64 e.fY ++ ([])))
def wfTransform (e : TTransform) : Prop := wfI .i64 e.fOrientation ∧ wfI .i64 e.fX ∧ wfI .i64 e.fY
theorem op_61 (d : Nat) : Opens T (d + 2) 61 (clTransform) (wfTransform) := by
  intro cs hs
  obtain ⟨a0, b0, rfl, h0, a1, b1, rfl, h1, a2, b2, rfl, h2, rfl⟩ := hs
  obtain ⟨e0, w0, r0⟩ := op_2 (d + 0) a0 h0
  obtain ⟨e1, w1, r1⟩ := op_2 (d + 0) a1 h1
  obtain ⟨e2, w2, r2⟩ := op_2 (d + 0) a2 h2
  exact ⟨TTransform.mk e0 e1 e2, ⟨w0, w1, w2⟩, rlist_app r0 (rlist_app r1 (rlist_app r2 (trivial)))⟩
def clInstance (e : TInstance) : List AC := clI .i64 e.fCell ++ (clTransform e.fPlace ++ (clI .i64 e.fColumns ++ (clI .i64 e.fRows ++ (clI .i64 e.fStepX ++ (clI .i64 e.fStepY ++ ([]))))))
def wfInstance (e : TInstance) : Prop := wfI .i64 e.fCell ∧ wfTransform e.fPlace ∧ wfI .i64 e.fColumns ∧ wfI .i64 e.fRows ∧ wfI .i64 e.fStepX ∧ wfI .i64 e.fStepY
theorem op_63 (d : Nat) : Opens T (d + 3) 63 (clInstance) (wfInstance) := by
  intro cs hs
  obtain ⟨a0, b0, rfl, h0, a1, b1, rfl, h1, a2, b2, rfl, h2, a3, b3, rfl, h3, a4, b4, rfl, h4, a5, b5, rfl, h5, rfl⟩ := hs
  obtain ⟨e0, w0, r0⟩ := op_2 (d + 1) a0 h0
  obtain ⟨e1, w1, r1⟩ := op_61 (d + 0) a1 h1
  obtain ⟨e2, w2, r2⟩ := op_2 (d + 1) a2 h2
  obtain ⟨e3, w3, r3⟩ := op_2 (d + 1) a3 h3
  obtain ⟨e4, w4, r4⟩ := op_2 (d + 1) a4 h4
  obtain ⟨e5, w5, r5⟩ := op_2 (d + 1) a5 h5
  exact ⟨TInstance.mk e0 e1 e2 e3 e4 e5, ⟨w0, w1, w2, w3, w4, w5⟩, rlist_app r0 (rlist_app r1 (rlist_app r2 (rlist_app r3 (rlist_app r4 (rlist_app r5 (trivial))))))⟩
theorem op_140 (d : Nat) : Opens T (d + 4) 140 (clL 8 (encInstance)) (wfL wfInstance) := op_slice (e := 63) (sz := 8) (show T 140 = some d140 from rfl) rfl (show T 63 = some d63 from rfl) rfl (fun x j hj => by match j, hj with | 0, _ => rfl | 1, _ => rfl | 2, _ => rfl | 3, _ => rfl | 4, _ => rfl | 5, _ => rfl | 6, _ => rfl | 7, _ => rfl | (j_ + 8), h_ => exact absurd h_ (by omega)) (op_63 d)
def clCell (e : TCell) : List AC := clS e.fName ++ (clL 5 (encShape) e.fShapes ++ (clL 4 (encLabel) e.fLabels ++ (clL 8 (encInstance) e.fInstances ++ ([]))))
def wfCell (e : TCell) : Prop := wfS e.fName ∧ wfL wfShape e.fShapes ∧ wfL wfLabel e.fLabels ∧ wfL wfInstance e.fInstances
theorem op_142 (d : Nat) : Opens T (d + 5) 142 (clCell) (wfCell) := by
  intro cs hs
  obtain ⟨a0, b0, rfl, h0, a1, b1, rfl, h1, a2, b2, rfl, h2, a3, b3, rfl, h3, rfl⟩ := hs
  obtain ⟨e0, w0, r0⟩ := op_9 (d + 3) a0 h0
  obtain ⟨e1, w1, r1⟩ := op_138 (d + 0) a1 h1
  obtain ⟨e2, w2, r2⟩ := op_139 (d + 0) a2 h2
  obtain ⟨e3, w3, r3⟩ := op_140 (d + 0) a3 h3
  exact ⟨TCell.mk e0 e1 e2 e3, ⟨w0, w1, w2, w3⟩, rlist_app r0 (rlist_app r1 (rlist_app r2 (rlist_app r3 (trivial))))⟩
theorem op_34 (d : Nat) : Opens T (d + 6) 34 (clL 4 (encCell len gd)) (wfL wfCell) := op_slice (e := 142) (sz := 4) (show T 34 = some d34 from rfl) rfl (show T 142 = some d142 from rfl) rfl (fun x j hj => by match j, hj with | 0, _ => rfl | 1, _ => rfl | 2, _ => rfl | 3, _ => rfl | (j_ + 4), h_ => exact absurd h_ (by omega)) (op_142 d)
def clLibrary (e : TLibrary) : List AC := clL 4 (encCell len gd) e.fCells ++ ([])
def wfLibrary (e : TLibrary) : Prop := wfL wfCell e.fCells
theorem op_36 (d : Nat) : Opens T (d + 7) 36 (clLibrary) (wfLibrary) := by
  intro cs hs
  obtain ⟨a0, b0, rfl, h0, rfl⟩ := hs
  obtain ⟨e0, w0, r0⟩ := op_34 (d + 0) a0 h0
  exact ⟨TLibrary.mk e0, w0, rlist_app r0 (trivial)⟩
def clEdit (e : TEdit) : List AC := clI .i64 e.fKind ++ (clI .i64 e.fCell ++ (clI .i64 e.fIndex ++ (clS e.fName ++ (clShape e.fShape ++ (clLabel e.fLabel ++ (clInstance e.fInstance ++ ([])))))))
def wfEdit (e : TEdit) : Prop := wfI .i64 e.fKind ∧ wfI .i64 e.fCell ∧ wfI .i64 e.fIndex ∧ wfS e.fName ∧ wfShape e.fShape ∧ wfLabel e.fLabel ∧ wfInstance e.fInstance
theorem op_65 (d : Nat) : Opens T (d + 4) 65 (clEdit) (wfEdit) := by
  intro cs hs
  obtain ⟨a0, b0, rfl, h0, a1, b1, rfl, h1, a2, b2, rfl, h2, a3, b3, rfl, h3, a4, b4, rfl, h4, a5, b5, rfl, h5, a6, b6, rfl, h6, rfl⟩ := hs
  obtain ⟨e0, w0, r0⟩ := op_2 (d + 2) a0 h0
  obtain ⟨e1, w1, r1⟩ := op_2 (d + 2) a1 h1
  obtain ⟨e2, w2, r2⟩ := op_2 (d + 2) a2 h2
  obtain ⟨e3, w3, r3⟩ := op_9 (d + 2) a3 h3
  obtain ⟨e4, w4, r4⟩ := op_55 (d + 0) a4 h4
  obtain ⟨e5, w5, r5⟩ := op_59 (d + 0) a5 h5
  obtain ⟨e6, w6, r6⟩ := op_63 (d + 0) a6 h6
  exact ⟨TEdit.mk e0 e1 e2 e3 e4 e5 e6, ⟨w0, w1, w2, w3, w4, w5, w6⟩, rlist_app r0 (rlist_app r1 (rlist_app r2 (rlist_app r3 (rlist_app r4 (rlist_app r5 (rlist_app r6 (trivial)))))))⟩
theorem open_36 {H : Type} {enc : TypeId × Value → H} {W : World} {spare : Nat → Bool} {held : Bool} {r : Reach} {base : Nat} {v : Value} {x : DataW H} {ps : List MemPlace}
    (hv : Value.okWide Try.prog W r base 36 v) (h : DataW.Trod enc Try.prog W 0 spare held 36 v x ps) : ∃ e : TLibrary, wfLibrary e ∧ RelV (RelI (fun b => b < W.heap.size) W) (.agg [.bs (len e.fCells) 4 (row gd (encCell len gd) e.fCells)]) v :=
  opened_agg tok (op_36 0) (by kernel_rfl) (tok 36 d36 rfl).1 hv h
theorem open_65 {H : Type} {enc : TypeId × Value → H} {W : World} {spare : Nat → Bool} {held : Bool} {r : Reach} {base : Nat} {v : Value} {x : DataW H} {ps : List MemPlace}
    (hv : Value.okWide Try.prog W r base 65 v) (h : DataW.Trod enc Try.prog W 0 spare held 65 v x ps) : ∃ e : TEdit, wfEdit e ∧ RelV (RelI (fun b => b < W.heap.size) W) (.agg [.v (.int .i64 e.fKind), .v (.int .i64 e.fCell), .v (.int .i64 e.fIndex), .v (.string e.fName), .v (.int .i64 e.fShape.fLayer), .v (.int .i64 e.fShape.fBox.fX0), .v (.int .i64 e.fShape.fBox.fY0), .v (.int .i64 e.fShape.fBox.fX1), .v (.int .i64 e.fShape.fBox.fY1), .v (.int .i64 e.fLabel.fLayer), .v (.int .i64 e.fLabel.fAt.fX), .v (.int .i64 e.fLabel.fAt.fY), .v (.string e.fLabel.fName), .v (.int .i64 e.fInstance.fCell), .v (.int .i64 e.fInstance.fPlace.fOrientation), .v (.int .i64 e.fInstance.fPlace.fX), .v (.int .i64 e.fInstance.fPlace.fY), .v (.int .i64 e.fInstance.fColumns), .v (.int .i64 e.fInstance.fRows), .v (.int .i64 e.fInstance.fStepX), .v (.int .i64 e.fInstance.fStepY)]) v :=
  opened_agg tok (op_65 0) (by kernel_rfl) (tok 65 d65 rfl).1 hv h
end Go.Proofs.Ytmdlnjeppemipaa.AM
