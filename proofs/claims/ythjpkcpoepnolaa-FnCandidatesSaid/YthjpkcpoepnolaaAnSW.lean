/-
  What the functions that the law reaches compute, and that they do. No condition.
-/
import Derived.Test.YthjpkcpoepnolaaAnSV
import Derived.Test.YthjpkcpoepnolaaAnE
namespace Go.Proofs.Ythjpkcpoepnolaa.AM
open Go Go.Proofs Go.RowKit
set_option linter.unusedVariables false
set_option linter.unusedSimpArgs false
set_option maxRecDepth 100000

/-- impl.IsValidRect -/
noncomputable def F_impl_IsValidRect (a0 : TRect) : Option (Bool) :=
 ((
    br (std.le (-40) a0.fX0)
    (br (std.lt a0.fX0 a0.fX1)
    (br (std.le a0.fX1 40)
    (br (std.le (-40) a0.fY0)
    (br (std.lt a0.fY0 a0.fY1)
    (some (std.le a0.fY1 40))
    (some false))
    (some false))
    (some false))
    (some false))
    (some false)
  ) : Option (Bool)).bind fun y1 =>
 letO y1 fun w7 =>
 some w7
set_option maxHeartbeats 4000000 in
theorem run_impl_IsValidRect (a0 : TRect) (r : Bool) (h : F_impl_IsValidRect a0 = some r) : Fun Try.prog 19 [.agg [.v (.int .i64 a0.fX0), .v (.int .i64 a0.fY0), .v (.int .i64 a0.fX1), .v (.int .i64 a0.fY1)]] [] (.c (.v (.bool r))) [] true := by
 refine ow [1] Try.func19 Try.ntmps19 ?_; unfold F_impl_IsValidRect at h; generalize hLEN : @len = LEN, hGD : @gd = GD, hA : std = A, hP : Try.prog = P at *; cbv; revert h; refine cu (fun y1 => (sparse 35 [(2, .c (.v (.bool y1)))] [])) (fun y1 S hS h => rg) fun w7 => rz fun h => ?_; cbv; exact df

/-- impl.EmptyIndex -/
noncomputable def F_impl_EmptyIndex  : Option (TSpatialIndex) :=
 ((
    req (std.nneg 25) <|
    req (std.room (std.toN 25) 24) <|
    letO (List.replicate (std.toN 25) ([] : List Int)) fun l8 =>
    some l8
  ) : Option ((List (List Int)))).bind fun y1 =>
 letO y1 fun w7 =>
 some (TSpatialIndex.mk ([] : List TSpatialEntry) w7)
set_option maxHeartbeats 4000000 in
theorem run_impl_EmptyIndex  (r : TSpatialIndex) (h : F_impl_EmptyIndex  = some r) : Fun Try.prog 53 [] [] (.agg [.v (.slice none 0 0), .os 64000 0 (len r.fBuckets)]) [(64000, .arr .rw [] (len r.fBuckets) 1 (row gd (oncL len gd 1 (encI .i64)) r.fBuckets))] true := by
 refine ow [1] Try.func53 Try.ntmps53 ?_ (hv := (fun _ => ⟨(by simp [AV.flat, AV.flat1, AC.flat]), ⟨fun i _ j _ => fl_oncL (fun _ _ => rfl) _ _, trivial⟩⟩)); unfold F_impl_EmptyIndex at h; generalize hLEN : @len = LEN, hGD : @gd = GD, hA : std = A, hP : Try.prog = P at *; cbv
 revert h; refine cu (fun y1 => (sparse 3 [(0, .c (.ptr 0 0))] [(0, .var [.v (.slice none 0 0), .os 64 0 (LEN y1)]), (64, .arr .rw [] (LEN y1) 1 (row GD (oncL LEN GD 1 (encI .i64)) y1))])) ?_ fun w7 => rz fun h => ?_
 ·intro y1 S hS h; cbv; revert h; refine rq fun c10 => rq fun c11 => rl fun l8 hl8 h => ?_; have e9 : A.toN 25 = LEN l8 := by subst hl8 hLEN hA; exact rep_len rfl
  refine And.intro (by first | exact ⟨c10, c11⟩ | exact ⟨rfl, c10, trivial, trivial, trivial, c11⟩ | (refine ⟨?_, ?_, ?_, ?_, ?_, ?_⟩ <;> first | exact c10 | exact c11 | trivial)) ?_; refine ⟨_, (co e9), _, (fun _ j => ([.v (.slice none 0 0)] : List AC).getD j .junk), e9, wkOf ?_, ?_⟩
  ·exact fun _ _ => zr
  cbv; injection h with h; subst h; subst hS; show St.le _ _; refine St.le_trans (le_nilG (get' := (fun _ j => ([.ow (LEN ([] : List Int)) 1 (row GD (encI .i64) ([] : List Int))] : List AC).getD j .junk)) 64 rfl ?_) ?_
  ·subst hLEN; intro i _ j hj; match j, hj with | 0, _ => exact (.inr ⟨rfl, _, _, rfl⟩) | (j_ + 1), h_ => exact absurd h_ (by omega)
  exact le_sparse rfl zl ⟨rfl, oP (fun _ _ => rfl) (by subst hGD hLEN hA; exact upd_repL hl8 (g := fun j => _) zr), trivial⟩ rfl
 cbv; injection h with h; subst h; exact ⟨_, le_ren 64 64000 (by decide) rfl, lR _, zo, rfl⟩

noncomputable def L_impl_buckets_x22 (a0 : TRect) (v4 : Int) : (Int × (List Int)) → Option ((Int × (List Int)) ⊕ (((List Int)))) := fun x22 =>
 letO x22.1 fun v20 =>
 letO x22.2 fun v21 =>
 req (std.nz 16) <|
 br (std.le v20 (std.quo .i64 (std.add .i64 (std.sub .i64 a0.fX1 1) 40) 16))
 (letO ([std.add .i64 (std.mul .i64 5 v4) v20] : List Int) fun l35 =>
 req (std.room (std.nadd (len v21) (len l35)) 8) <|
 letO (v21 ++ l35) fun l37 =>
 some (.inl (std.add .i64 v20 1, l37)))
 (some (.inr v21))
noncomputable def L_impl_buckets_x6 (a0 : TRect) : (Int × (List Int)) → Option ((Int × (List Int)) ⊕ (((List Int)))) := fun x6 =>
 letO x6.1 fun v4 =>
 letO x6.2 fun v5 =>
 req (std.nz 16) <|
 br (std.le v4 (std.quo .i64 (std.add .i64 (std.sub .i64 a0.fY1 1) 40) 16))
 (req (std.nz 16) <|
 (whileP (σ := Int × (List Int)) (ρ := ((List Int))) (L_impl_buckets_x22 a0 v4) (std.quo .i64 (std.add .i64 a0.fX0 40) 16, v5)).bind fun y23 =>
 letO y23 fun y23k0 =>
 letO y23k0 fun w41 =>
 some (.inl (std.add .i64 v4 1, w41)))
 (some (.inr v5))
/-- impl.buckets -/
noncomputable def F_impl_buckets (a0 : TRect) : Option (List Int) :=
 letO ([] : List Int) fun l1 =>
 req (std.nz 16) <|
 (whileP (σ := Int × (List Int)) (ρ := ((List Int))) (L_impl_buckets_x6 a0) (std.quo .i64 (std.add .i64 a0.fY0 40) 16, l1)).bind fun y7 =>
 letO y7 fun y7k0 =>
 letO y7k0 fun w43 =>
 some w43
set_option maxHeartbeats 4000000 in
theorem run_impl_buckets (a0 : TRect) (r : List Int) (h : F_impl_buckets a0 = some r) : Fun Try.prog 21 [.agg [.v (.int .i64 a0.fX0), .v (.int .i64 a0.fY0), .v (.int .i64 a0.fX1), .v (.int .i64 a0.fY1)]] [] (.c (.os 64000 0 (len r))) [(64000, .arr .rw [] (len r) 1 (row gd (encI .i64) r))] true := by
 refine ow [] Try.func21 Try.ntmps21 ?_ (hv := (fun _ => ⟨trivial, ⟨fun i _ j _ => val_flat (rfl), trivial⟩⟩)); unfold F_impl_buckets at h; unfold L_impl_buckets_x6 at h; unfold L_impl_buckets_x22 at h; generalize hLEN : @len = LEN, hGD : @gd = GD, hA : std = A, hP : Try.prog = P at *; cbv; revert h; refine rl fun l1 hl1 h => ?_; have e2 : 0 = LEN l1 := by subst hl1 hLEN; rfl
 refine ⟨_, (co e2), _, row GD (encI .i64) l1, e2, wkOf ?_, ?_⟩
 ·intro i hi j hj; rw [← e2] at hi; subst hl1; subst hGD; omega
 cbv; revert h; refine ra fun c3 h => ?_
 revert h; refine ln (.exit 0) (fun x => (sparse 41 [(1, .c (.ptr 64 0)), (3, .c (.os 384 0 (LEN x.2))), (4, .c (.v (.int .i64 x.1)))] [(64, .var [.v (.int .i64 a0.fX0), .v (.int .i64 a0.fY0), .v (.int .i64 a0.fX1), .v (.int .i64 a0.fY1)]), (384, .arr .rw [] (LEN x.2) 1 (row GD (encI .i64) x.2))])) (fun w => (sparse 41 [(3, .c (.os 384 0 (LEN w)))] [(384, .arr .rw [] (LEN w) 1 (row GD (encI .i64) w))])) zb ?_ ?_
 ·rintro ⟨v4, v5⟩ z h K hK hY; replace h := oz (oz h); dsimp only at h; cbv; revert h; refine ra fun c18 h => ?_; revert h; refine fk ?_ ?_ <;> intro h <;> cbv
  ·revert h; refine ra fun c19 h => ?_
   revert h; refine ln (.exit 2) (fun x => (sparse 41 [(1, .c (.ptr 64 0)), (3, .c (.os 384 0 (LEN x.2))), (4, .c (.v (.int .i64 v4))), (5, .c (.v (.int .i64 x.1)))] [(64, .var [.v (.int .i64 a0.fX0), .v (.int .i64 a0.fY0), .v (.int .i64 a0.fX1), .v (.int .i64 a0.fY1)]), (384, .arr .rw [] (LEN x.2) 1 (row GD (encI .i64) x.2))])) (fun w => (sparse 41 [(1, .c (.ptr 64 0)), (3, .c (.os 384 0 (LEN w))), (4, .c (.v (.int .i64 v4)))] [(64, .var [.v (.int .i64 a0.fX0), .v (.int .i64 a0.fY0), .v (.int .i64 a0.fX1), .v (.int .i64 a0.fY1)]), (384, .arr .rw [] (LEN w) 1 (row GD (encI .i64) w))])) zb ?_ ?_
   ·rintro ⟨v20, v21⟩ z h K hK hY; replace h := oz (oz h); dsimp only at h; cbv; revert h; refine ra fun c34 h => ?_; revert h; refine fk ?_ ?_ <;> intro h <;> cbv
    ·revert h; refine rl fun l35 hl35 h => ?_; have e36 : 1 = LEN l35 := by subst hl35 hLEN; rfl
     refine ⟨_, (co e36), _, row GD (encI .i64) l35, e36, wkOf ?_, ?_⟩
     ·intro i hi j hj; rw [← e36] at hi; subst hl35; subst hGD; obtain rfl : i = 0 := (by omega); all_goals obtain rfl : j = 0 := by omega
      all_goals rfl
     cbv; revert h; refine rq fun c39 => rl fun l37 hl37 h => ?_; have e38 := nl hA hLEN hl37; refine ⟨c39, _, (co e38), _, row GD (encI .i64) l37, e38, wkOf ?_, ?_⟩
     ·subst hGD hLEN hA; exact app_os (off := 0) (fun _ _ => rfl) hl37 (Nat.le_refl _)
     cbv; exact dm
    exact dx
   intro w41 h s q31; replace h := oz (oz h); cbv; refine ⟨_, q31, ?_⟩; cbv; exact dm
  exact dx
 intro w43 h s q15; replace h := oz (oz h); cbv; refine ⟨_, q15, ?_⟩; cbv; injection h with h; subst h; exact ⟨_, le_ren 384 64000 (by decide) rfl, lR _, zo, rfl⟩

noncomputable def L_impl_indexOf_x28 (a0 : List TSpatialEntry) (y1 : TSpatialIndex) (v3 : Int) (y24 : (List Int)) : (Int × (List (List Int))) → Option ((Int × (List (List Int))) ⊕ (((List (List Int))))) := fun x28 =>
 letO x28.1 fun v26 =>
 letO x28.2 fun v27 =>
 br (std.lt v26 (std.ofN (len y24)))
 (req (std.inR v26 (len y24)) <|
 ((
    req (std.inR (gd y24 (std.nadd 0 (std.toN v26))) (len y1.fBuckets)) <|
    letO ([(gd a0 (std.toN v3)).fId] : List Int) fun l49 =>
    req (std.room (std.nadd (len (gd v27 (std.nadd 0 (std.toN (gd y24 (std.nadd 0 (std.toN v26))))))) (len l49)) 8) <|
    letO ((gd v27 (std.nadd 0 (std.toN (gd y24 (std.nadd 0 (std.toN v26)))))) ++ l49) fun l51 =>
    req (std.inR (gd y24 (std.nadd 0 (std.toN v26))) (len y1.fBuckets)) <|
    req (len y1.fBuckets = len v27) <|
    letO (List.set v27 (std.nadd 0 (std.toN (gd y24 (std.nadd 0 (std.toN v26))))) l51) fun l55 =>
    some l55
  ) : Option ((List (List Int)))).bind fun y41 =>
 letO y41 fun w47 =>
 some (.inl (std.add .i64 v26 1, w47)))
 (some (.inr v27))
noncomputable def L_impl_indexOf_x6 (a0 : List TSpatialEntry) (y1 : TSpatialIndex) : (Int × (List TSpatialEntry) × (List (List Int))) → Option ((Int × (List TSpatialEntry) × (List (List Int))) ⊕ (((List TSpatialEntry) × (List (List Int))))) := fun x6 =>
 letO x6.1 fun v3 =>
 letO x6.2.1 fun v4 =>
 letO x6.2.2 fun v5 =>
 br (std.lt v3 (std.ofN (len a0)))
 (req (std.inR v3 (len a0)) <|
 letO ([(gd a0 (std.toN v3))] : List TSpatialEntry) fun l19 =>
 req (std.room (std.nadd (len v4) (len l19)) 40) <|
 letO (v4 ++ l19) fun l21 =>
 (F_impl_buckets (gd a0 (std.toN v3)).fBox).bind fun y24 =>
 (whileP (σ := Int × (List (List Int))) (ρ := ((List (List Int)))) (L_impl_indexOf_x28 a0 y1 v3 y24) (0, v5)).bind fun y29 =>
 letO y29 fun y29k0 =>
 letO y29k0 fun w58 =>
 some (.inl (std.add .i64 v3 1, l21, w58)))
 (some (.inr (v4, v5)))
/-- impl.indexOf -/
noncomputable def F_impl_indexOf (a0 : List TSpatialEntry) : Option (TSpatialIndex) :=
 (F_impl_EmptyIndex ).bind fun y1 =>
 (whileP (σ := Int × (List TSpatialEntry) × (List (List Int))) (ρ := ((List TSpatialEntry) × (List (List Int)))) (L_impl_indexOf_x6 a0 y1) (0, ([] : List TSpatialEntry), y1.fBuckets)).bind fun y7 =>
 letO y7 fun y7k0 =>
 letO y7k0.1 fun w60 =>
 letO y7k0.2 fun w61 =>
 req (len y1.fBuckets = len w61) <|
 some (TSpatialIndex.mk w60 w61)
set_option maxHeartbeats 4000000 in
theorem run_impl_indexOf (a0 : List TSpatialEntry) (r : TSpatialIndex) (h : F_impl_indexOf a0 = some r) : Fun Try.prog 39 [.c (.bs (len a0) 5 (row gd (encSpatialEntry) a0))] [] (.agg [.os 64000 0 (len r.fEntries), .os 64002 0 (len r.fBuckets)]) [(64000, .arr .rw [] (len r.fEntries) 5 (row gd (encSpatialEntry) r.fEntries)), (64002, .arr .rw [] (len r.fBuckets) 1 (row gd (oncL len gd 1 (encI .i64)) r.fBuckets))] true := by
 refine ow [9] Try.func39 Try.ntmps39 ?_ (hv := (fun _ => ⟨(by simp [AV.flat, AV.flat1, AC.flat]), ⟨fun i _ j _ => val_flat (vl_encSpatialEntry _ _), fun i _ j _ => fl_oncL (fun _ _ => rfl) _ _, trivial⟩⟩)); unfold F_impl_indexOf at h; unfold L_impl_indexOf_x6 at h; unfold L_impl_indexOf_x28 at h; have hf_impl_EmptyIndex := @run_impl_EmptyIndex; have hf_impl_buckets := @run_impl_buckets
 generalize hLEN : @len = LEN, hGD : @gd = GD, hA : std = A, hP : Try.prog = P at *; cbv; revert h; refine rb fun y1 hy2 h => ?_
 refine ⟨{ args := [], o0 := [], r := .agg [.v (.slice none 0 0), .os 64000 0 (LEN y1.fBuckets)], o1 := [(64000, .arr .rw [] (LEN y1.fBuckets) 1 (row GD (oncL LEN GD 1 (encI .i64)) y1.fBuckets))], fl := true, σ := [], τ := [(64000, 512)] }, hf_impl_EmptyIndex  _ hy2, ⟨les_nil, trivial, rfl, rfl, rfl, rfl, ⟨fun h => absurd (show (64000 : Nat) % 2 = 1 from h) (by decide), trivial⟩, rfl⟩, _, rfl, _, _, rfl, fun _ _ _ _ => .refl _, ?_⟩
 cbv
 revert h; refine ln (.exit 0) (fun x => (sparse 45 [(2, .c (.ptr 128 0)), (3, .c (.ptr 192 0)), (9, .c (.bs (LEN a0) 5 (row GD (encSpatialEntry) a0))), (10, .c (.v (.int .i64 (A.ofN (LEN a0))))), (11, .c (.v (.int .i64 x.1)))] [(128, .var [.v (.slice none 0 0), .v (.slice none 0 0)]), (192, .var [.os 1216 0 (LEN x.2.1), .os 512 0 (LEN y1.fBuckets)]), (1216, .arr .rw [] (LEN x.2.1) 5 (row GD (encSpatialEntry) x.2.1)), (512, .arr .rw [] (LEN y1.fBuckets) 1 (row GD (oncL LEN GD 1 (encI .i64)) x.2.2))])) (fun w => (sparse 45 [(2, .c (.ptr 128 0)), (3, .c (.ptr 192 0))] [(128, .var [.v (.slice none 0 0), .v (.slice none 0 0)]), (192, .var [.os 1216 0 (LEN w.1), .os 512 0 (LEN y1.fBuckets)]), (1216, .arr .rw [] (LEN w.1) 5 (row GD (encSpatialEntry) w.1)), (512, .arr .rw [] (LEN y1.fBuckets) 1 (row GD (oncL LEN GD 1 (encI .i64)) w.2))])) ?_ ?_ ?_
 ·show St.le _ _; refine St.le_trans (le_nilV 192 0 1216 5 (row GD (encSpatialEntry) ([] : List TSpatialEntry)) (by decide) (by decide) rfl rfl) ?_; subst hLEN; exact zb
 ·rintro ⟨v3, v4, v5⟩ z h K hK hY; replace h := oz (oz (oz h)); dsimp only at h; cbv; revert h; refine fk ?_ ?_ <;> intro h <;> cbv
  ·revert h; refine ra fun c18 h => ?_; revert h; refine rl fun l19 hl19 h => ?_; have e20 : 1 = LEN l19 := by subst hl19 hLEN; rfl
   refine ⟨_, (co e20), _, row GD (encSpatialEntry) l19, e20, wkOf ?_, ?_⟩
   ·intro i hi j hj; rw [← e20] at hi; subst hl19; subst hGD; obtain rfl : i = 0 := (by omega) <;> obtain rfl | rfl | rfl | rfl | rfl : j = 0 ∨ j = 1 ∨ j = 2 ∨ j = 3 ∨ j = 4 := (by omega)
    all_goals rfl
   cbv; revert h; refine rq fun c23 => rl fun l21 hl21 h => ?_; have e22 := nl hA hLEN hl21; refine ⟨c23, _, (co e22), _, row GD (encSpatialEntry) l21, e22, wkOf ?_, ?_⟩
   ·subst hGD hLEN hA; exact app_os (off := 0) (pl_encSpatialEntry) hl21 (Nat.le_refl _)
   cbv; revert h; refine rk [] [(64000, 1472)] (hf_impl_buckets _) (fun _ => zf) fun y24 h => ⟨_, rfl, _, _, rfl, fun _ _ _ _ => .refl _, ?_⟩
   cbv
   revert h; refine ln (.exit 2) (fun x => (sparse 45 [(2, .c (.ptr 128 0)), (3, .c (.ptr 192 0)), (5, .c (.ptr 320 0)), (9, .c (.bs (LEN a0) 5 (row GD (encSpatialEntry) a0))), (10, .c (.v (.int .i64 (A.ofN (LEN a0))))), (11, .c (.v (.int .i64 v3))), (23, .c (.os 1472 0 (LEN y24))), (24, .c (.v (.int .i64 (A.ofN (LEN y24))))), (25, .c (.v (.int .i64 x.1)))] [(128, .var [.v (.slice none 0 0), .v (.slice none 0 0)]), (192, .var [.os 1216 0 (LEN l21), .os 512 0 (LEN y1.fBuckets)]), (320, .var [.v (.int .i64 (GD a0 (A.toN v3)).fId), .v (.int .i64 (GD a0 (A.toN v3)).fBox.fX0), .v (.int .i64 (GD a0 (A.toN v3)).fBox.fY0), .v (.int .i64 (GD a0 (A.toN v3)).fBox.fX1), .v (.int .i64 (GD a0 (A.toN v3)).fBox.fY1)]), (1472, .arr .rw [] (LEN y24) 1 (row GD (encI .i64) y24)), (1216, .arr .rw [] (LEN l21) 5 (row GD (encSpatialEntry) l21)), (512, .arr .rw [] (LEN y1.fBuckets) 1 (row GD (oncL LEN GD 1 (encI .i64)) x.2))])) (fun w => (sparse 45 [(2, .c (.ptr 128 0)), (3, .c (.ptr 192 0)), (9, .c (.bs (LEN a0) 5 (row GD (encSpatialEntry) a0))), (10, .c (.v (.int .i64 (A.ofN (LEN a0))))), (11, .c (.v (.int .i64 v3)))] [(128, .var [.v (.slice none 0 0), .v (.slice none 0 0)]), (192, .var [.os 1216 0 (LEN l21), .os 512 0 (LEN y1.fBuckets)]), (1216, .arr .rw [] (LEN l21) 5 (row GD (encSpatialEntry) l21)), (512, .arr .rw [] (LEN y1.fBuckets) 1 (row GD (oncL LEN GD 1 (encI .i64)) w))])) zb ?_ ?_
   ·rintro ⟨v26, v27⟩ z h K hK hY; replace h := oz (oz h); dsimp only at h; cbv; revert h; refine fk ?_ ?_ <;> intro h <;> cbv
    ·revert h; refine ra fun c40 h => ?_; refine ai c40 ?_
     revert h; refine cu (fun y41 => (sparse 45 [(2, .c (.ptr 128 0)), (3, .c (.ptr 192 0)), (5, .c (.ptr 320 0)), (9, .c (.bs (LEN a0) 5 (row GD (encSpatialEntry) a0))), (10, .c (.v (.int .i64 (A.ofN (LEN a0))))), (11, .c (.v (.int .i64 v3))), (23, .c (.os 1472 0 (LEN y24))), (24, .c (.v (.int .i64 (A.ofN (LEN y24))))), (25, .c (.v (.int .i64 v26)))] [(128, .var [.v (.slice none 0 0), .v (.slice none 0 0)]), (192, .var [.os 1216 0 (LEN l21), .os 512 0 (LEN y1.fBuckets)]), (320, .var [.v (.int .i64 (GD a0 (A.toN v3)).fId), .v (.int .i64 (GD a0 (A.toN v3)).fBox.fX0), .v (.int .i64 (GD a0 (A.toN v3)).fBox.fY0), .v (.int .i64 (GD a0 (A.toN v3)).fBox.fX1), .v (.int .i64 (GD a0 (A.toN v3)).fBox.fY1)]), (1472, .arr .rw [] (LEN y24) 1 (row GD (encI .i64) y24)), (1216, .arr .rw [] (LEN l21) 5 (row GD (encSpatialEntry) l21)), (512, .arr .rw [] (LEN y1.fBuckets) 1 (row GD (oncL LEN GD 1 (encI .i64)) y41))])) ?_ fun w47 => rz fun h => ?_
     ·intro y41 S hS h; cbv; revert h; refine ra fun c48 h => ?_; refine ai c48 ?_; refine ⟨_, rfl, _, (patchC (row GD (oncL LEN GD 1 (encI .i64)) v27) (A.nadd 0 (A.toN (GD y24 (A.nadd 0 (A.toN v26))))) [.os 2306 0 (LEN (GD v27 (A.nadd 0 (A.toN (GD y24 (A.nadd 0 (A.toN v26)))))))]), rfl, wkOf (patch_of zr), ?_⟩
      refine ⟨_, row GD (encI .i64) (GD v27 (A.nadd 0 (A.toN (GD y24 (A.nadd 0 (A.toN v26)))))), rfl, wkOf (fun i _ j _ => plain_cp (rfl)), ?_⟩; cbv; revert h; refine rl fun l49 hl49 h => ?_; have e50 : 1 = LEN l49 := by subst hl49 hLEN; rfl
      refine ⟨_, (co e50), _, row GD (encI .i64) l49, e50, wkOf ?_, ?_⟩
      ·intro i hi j hj; rw [← e50] at hi; subst hl49; subst hGD; obtain rfl : i = 0 := (by omega); all_goals obtain rfl : j = 0 := by omega
       all_goals rfl
      cbv; revert h; refine rq fun c53 => rl fun l51 hl51 h => ?_; have e52 := nl hA hLEN hl51; refine ⟨c53, _, (co e52), _, row GD (encI .i64) l51, e52, wkOf ?_, ?_⟩
      ·subst hGD hLEN hA; exact app_os (off := 0) (fun _ _ => rfl) hl51 (Nat.le_refl _)
      cbv; revert h; refine ra fun c54 h => ?_; refine ai c54 ?_; refine ⟨_, rfl, _, (patchC (row GD (oncL LEN GD 1 (encI .i64)) v27) (A.nadd 0 (A.toN (GD y24 (A.nadd 0 (A.toN v26))))) [.os 2306 0 (LEN l51)]), rfl, wkOf ?_, ?_⟩
      ·first | refine patch_of2 ?_ | refine patch_of2K (fun _ _ => rfl) ?_
       exact zr
      cbv; revert h; refine rq fun c56 => rl fun l55 hl55 h => ?_; injection h with h; subst h; subst hS; show St.le _ _; refine St.le_trans (le_foldP 512 0 2306 rfl rfl rfl (by decide) (by subst hA; exact idx_lt c54) (by decide) rfl (fun _ _ => rfl)) ?_
      exact le_sparse rfl zl ⟨rfl, rfl, rfl, oS, oS, oP (fun _ _ => rfl) (by subst hGD hLEN hA; exact patch_set hl55 (idx_lt (by rw [← c56]; exact c54)) zr), trivial⟩ rfl
     cbv; exact dm
    exact dx
   intro w58 h s q37; replace h := oz (oz h); cbv; refine ⟨_, q37, ?_⟩; cbv; exact dm
  exact dx
 rintro ⟨w60, w61⟩ h s q15; replace h := oz (oz (oz h)); dsimp only at h; cbv; refine ⟨_, q15, ?_⟩; cbv; revert h; refine rq fun c62 h => ?_; injection h with h; subst h
 refine ⟨(sparse 45 [(2, .c (.ptr 128 0))] [(128, .var [.os 64000 0 (LEN w60), .os 64002 0 (LEN w61)]), (64000, .arr .rw [] (LEN w60) 5 (row GD (encSpatialEntry) w60)), (64002, .arr .rw [] (LEN w61) 1 (row GD (oncL LEN GD 1 (encI .i64)) w61))]), ?_, ?_⟩
 ·refine St.le_trans (le_ren 1216 64000 (by decide) rfl) ?_; refine St.le_trans (le_ren 512 64002 (by decide) rfl) ?_; rw [c62]; exact zb
 ·exact ⟨lR _, zo, rfl⟩

noncomputable def L_slices_Equal_Lint64_int64_x2 (a0 : List Int) (a1 : List Int) : (Int) → Option ((Int) ⊕ ((Unit) ⊕ (Unit))) := fun x2 =>
 letO x2 fun v1 =>
 br (std.lt v1 (std.ofN (len a0)))
 (req (std.inR v1 (len a0)) <|
 req (std.inR v1 (len a1)) <|
 br (std.not (std.eq (gd a0 (std.toN v1)) (gd a1 (std.toN v1))))
 (some (.inr (.inl ())))
 (some (.inl (std.add .i64 v1 1))))
 (some (.inr (.inr ())))
/-- slices.Equal[[]int64,int64] -/
noncomputable def F_slices_Equal_Lint64_int64 (a0 : List Int) (a1 : List Int) : Option (Bool) :=
 br (std.not (std.eq (std.ofN (len a0)) (std.ofN (len a1))))
 (some false)
 ((whileP (σ := Int) (ρ := (Unit) ⊕ (Unit)) (L_slices_Equal_Lint64_int64_x2 a0 a1) 0).bind fun y3 =>
 (match y3 with
  | .inl y3k0 => (
    some false)
  | .inr y3m0 =>
    some true))
set_option maxHeartbeats 4000000 in
theorem run_slices_Equal_Lint64_int64 (a0 : List Int) (a1 : List Int) (r : Bool) (h : F_slices_Equal_Lint64_int64 a0 a1 = some r) : Fun Try.prog 41 [.c (.bs (len a0) 1 (row gd (encI .i64) a0)), .c (.bs (len a1) 1 (row gd (encI .i64) a1))] [] (.c (.v (.bool r))) [] true := by
 refine ow [] Try.func41 Try.ntmps41 ?_; unfold F_slices_Equal_Lint64_int64 at h; unfold L_slices_Equal_Lint64_int64_x2 at h; generalize hLEN : @len = LEN, hGD : @gd = GD, hA : std = A, hP : Try.prog = P at *; cbv; revert h; refine fk ?_ ?_ <;> intro h <;> cbv
 ·exact df
 revert h; refine lc (fun x => (sparse 26 [(0, .c (.bs (LEN a0) 1 (row GD (encI .i64) a0))), (1, .c (.bs (LEN a1) 1 (row GD (encI .i64) a1))), (12, .c (.v (.int .i64 (A.ofN (LEN a0))))), (13, .c (.v (.int .i64 x)))] [])) (fun y e s => (match y with | .inl w => e = .ret ∧ s.le (sparse 26 [(4, .c (.v (.bool false)))] []) | .inr w0 => (fun (w : Unit) => e = .exit 0 ∧ s.le (sparse 26 [] [])) w0)) zb ?_ ?_
 ·intro v1 z h K hK hY; replace h := oz h; cbv; revert h; refine fk ?_ ?_ <;> intro h <;> cbv
  ·revert h; refine ra fun c14 h => ?_; revert h; refine ra fun c15 h => ?_; revert h; refine fk ?_ ?_ <;> intro h <;> cbv
   ·exact dy
   exact dm
  exact dy
 intro y3 h e12 s13 q11 hne; rcases y3 with y3k0 | y3m0
 ·replace h := h; obtain ⟨rfl, q11⟩ := q11; cbv; injection h with h; subst h; exact ⟨_, q11, lR _, zo, rfl⟩
 ·obtain ⟨rfl, q11⟩ := q11; cbv; refine ⟨_, q11, ?_⟩; cbv; exact df

/-- impl.IsValidIndex$1 -/
noncomputable def F_impl_IsValidIndex_1 (a0 : List Int) (a1 : List Int) : Option (Bool) :=
 (F_slices_Equal_Lint64_int64 a0 a1).bind fun y1 =>
 some y1
set_option maxHeartbeats 4000000 in
theorem run_impl_IsValidIndex_1 (a0 : List Int) (a1 : List Int) (r : Bool) (h : F_impl_IsValidIndex_1 a0 a1 = some r) : Fun Try.prog 40 [.c (.bs (len a0) 1 (row gd (encI .i64) a0)), .c (.bs (len a1) 1 (row gd (encI .i64) a1))] [] (.c (.v (.bool r))) [] true := by
 refine ow [] Try.func40 Try.ntmps40 ?_; unfold F_impl_IsValidIndex_1 at h; have hf_slices_Equal_Lint64_int64 := @run_slices_Equal_Lint64_int64; generalize hLEN : @len = LEN, hGD : @gd = GD, hA : std = A, hP : Try.prog = P at *; cbv; revert h; refine rk0 (hf_slices_Equal_Lint64_int64 _ _) fun y1 h => ?_; cbv; exact df
noncomputable def L_slices_EqualFunc_LLint64_LLint64_Lint64_Lint64_mbbFimpl_IsValidIndex_1_x2 (a0 : List (List Int)) (a1 : List (List Int)) : (Int) → Option ((Int) ⊕ ((Unit) ⊕ (Unit))) := fun x2 =>
 letO x2 fun v1 =>
 br (std.lt v1 (std.ofN (len a0)))
 (req (std.inR v1 (len a0)) <|
 req (std.inR v1 (len a1)) <|
 (F_impl_IsValidIndex_1 (gd a0 (std.toN v1)) (gd a1 (std.toN v1))).bind fun y16 =>
 br (!(y16))
 (some (.inr (.inl ())))
 (some (.inl (std.add .i64 v1 1))))
 (some (.inr (.inr ())))
/-- slices.EqualFunc[[][]int64,[][]int64,[]int64,[]int64] -/
noncomputable def F_slices_EqualFunc_LLint64_LLint64_Lint64_Lint64_mbbFimpl_IsValidIndex_1 (a0 : List (List Int)) (a1 : List (List Int)) : Option (Bool) :=
 br (std.not (std.eq (std.ofN (len a0)) (std.ofN (len a1))))
 (some false)
 ((whileP (σ := Int) (ρ := (Unit) ⊕ (Unit)) (L_slices_EqualFunc_LLint64_LLint64_Lint64_Lint64_mbbFimpl_IsValidIndex_1_x2 a0 a1) 0).bind fun y3 =>
 (match y3 with
  | .inl y3k0 => (
    some false)
  | .inr y3m0 =>
    some true))
set_option maxHeartbeats 4000000 in
theorem run_slices_EqualFunc_LLint64_LLint64_Lint64_Lint64_mbbFimpl_IsValidIndex_1 (a0 : List (List Int)) (a1 : List (List Int)) (r : Bool) (h : F_slices_EqualFunc_LLint64_LLint64_Lint64_Lint64_mbbFimpl_IsValidIndex_1 a0 a1 = some r) : Fun Try.prog 38 [.c (.bs (len a0) 1 (row gd (encL len gd 1 (encI .i64)) a0)), .c (.bs (len a1) 1 (row gd (encL len gd 1 (encI .i64)) a1)), .c (.fn 40 0 fun _ => .junk)] [] (.c (.v (.bool r))) [] true := by
 refine ow [] Try.func38 Try.ntmps38 ?_; unfold F_slices_EqualFunc_LLint64_LLint64_Lint64_Lint64_mbbFimpl_IsValidIndex_1 at h; unfold L_slices_EqualFunc_LLint64_LLint64_Lint64_Lint64_mbbFimpl_IsValidIndex_1_x2 at h; have hf_impl_IsValidIndex_1 := @run_impl_IsValidIndex_1; generalize hLEN : @len = LEN, hGD : @gd = GD, hA : std = A, hP : Try.prog = P at *; cbv
 revert h; refine fk ?_ ?_ <;> intro h <;> cbv
 ·exact df
 revert h; refine lc (fun x => (sparse 32 [(1, .c (.bs (LEN a1) 1 (row GD (encL LEN GD 1 (encI .i64)) a1))), (2, .c (.fn 40 0 fun _ => .junk)), (15, .c (.bs (LEN a0) 1 (row GD (encL LEN GD 1 (encI .i64)) a0))), (16, .c (.v (.int .i64 (A.ofN (LEN a0))))), (17, .c (.v (.int .i64 x)))] [])) (fun y e s => (match y with | .inl w => e = .ret ∧ s.le (sparse 32 [(6, .c (.v (.bool false)))] []) | .inr w0 => (fun (w : Unit) => e = .exit 0 ∧ s.le (sparse 32 [] [])) w0)) zb ?_ ?_
 ·intro v1 z h K hK hY; replace h := oz h; cbv; revert h; refine fk ?_ ?_ <;> intro h <;> cbv
  ·revert h; refine ra fun c14 h => ?_; revert h; refine ra fun c15 h => ?_; revert h; refine rk0 (hf_impl_IsValidIndex_1 _ _) fun y16 h => ?_; cbv; revert h; refine fk ?_ ?_ <;> intro h <;> cbv
   ·exact dy
   exact dm
  exact dy
 intro y3 h e12 s13 q11 hne; rcases y3 with y3k0 | y3m0
 ·replace h := h; obtain ⟨rfl, q11⟩ := q11; cbv; injection h with h; subst h; exact ⟨_, q11, lR _, zo, rfl⟩
 ·obtain ⟨rfl, q11⟩ := q11; cbv; refine ⟨_, q11, ?_⟩; cbv; exact df

noncomputable def L_impl_IsValidIndex_x2 (a0 : TSpatialIndex) : (Int) → Option ((Int) ⊕ ((Unit) ⊕ (Unit))) := fun x2 =>
 letO x2 fun v1 =>
 br (std.lt v1 (std.ofN (len a0.fEntries)))
 (req (std.inR v1 (len a0.fEntries)) <|
 ((
    (F_impl_within (gd a0.fEntries (std.toN v1)).fId 1 9999).bind fun y22 =>
    br (!(y22))
    (some true)
    ((F_impl_IsValidRect (gd a0.fEntries (std.toN v1)).fBox).bind fun y24 =>
    br (!(y24))
    (some true)
    (br (std.lt 0 v1)
    (req (std.inR (std.sub .i64 v1 1) (len a0.fEntries)) <|
    some (std.le (gd a0.fEntries (std.toN v1)).fId (gd a0.fEntries (std.toN (std.sub .i64 v1 1))).fId))
    (some false)))
  ) : Option (Bool)).bind fun y15 =>
 letO y15 fun w21 =>
 br w21
 (some (.inr (.inl ())))
 (some (.inl (std.add .i64 v1 1))))
 (some (.inr (.inr ())))
/-- impl.IsValidIndex -/
noncomputable def F_impl_IsValidIndex (a0 : TSpatialIndex) : Option (Bool) :=
 br (std.lt 40 (std.ofN (len a0.fEntries)))
 (some false)
 ((whileP (σ := Int) (ρ := (Unit) ⊕ (Unit)) (L_impl_IsValidIndex_x2 a0) 0).bind fun y3 =>
 (match y3 with
  | .inl y3k0 => (
    some false)
  | .inr y3m0 =>
    (F_impl_indexOf a0.fEntries).bind fun y32 =>
    (F_slices_EqualFunc_LLint64_LLint64_Lint64_Lint64_mbbFimpl_IsValidIndex_1 a0.fBuckets y32.fBuckets).bind fun y34 =>
    some y34))
set_option maxHeartbeats 4000000 in
theorem run_impl_IsValidIndex (a0 : TSpatialIndex) (r : Bool) (h : F_impl_IsValidIndex a0 = some r) : Fun Try.prog 18 [.agg [.bs (len a0.fEntries) 5 (row gd (encSpatialEntry) a0.fEntries), .bs (len a0.fBuckets) 1 (row gd (encL len gd 1 (encI .i64)) a0.fBuckets)]] [] (.c (.v (.bool r))) [] true := by
 refine ow [6] Try.func18 Try.ntmps18 ?_; unfold F_impl_IsValidIndex at h; unfold L_impl_IsValidIndex_x2 at h; have hf_impl_IsValidRect := @run_impl_IsValidRect; have hf_impl_indexOf := @run_impl_indexOf; have hf_impl_within := @run_impl_within
 have hf_slices_EqualFunc_LLint64_LLint64_Lint64_Lint64_mbbFimpl_IsValidIndex_1 := @run_slices_EqualFunc_LLint64_LLint64_Lint64_Lint64_mbbFimpl_IsValidIndex_1; generalize hLEN : @len = LEN, hGD : @gd = GD, hA : std = A, hP : Try.prog = P at *; cbv; revert h; refine fk ?_ ?_ <;> intro h <;> cbv
 ·exact df
 revert h; refine lc (fun x => (sparse 51 [(1, .c (.ptr 64 0)), (10, .c (.bs (LEN a0.fEntries) 5 (row GD (encSpatialEntry) a0.fEntries))), (11, .c (.v (.int .i64 (A.ofN (LEN a0.fEntries))))), (12, .c (.v (.int .i64 x)))] [(64, .var [.bs (LEN a0.fEntries) 5 (row GD (encSpatialEntry) a0.fEntries), .bs (LEN a0.fBuckets) 1 (row GD (encL LEN GD 1 (encI .i64)) a0.fBuckets)])])) (fun y e s => (match y with | .inl w => e = .ret ∧ s.le (sparse 51 [(2, .c (.v (.bool false)))] []) | .inr w0 => (fun (w : Unit) => e = .exit 0 ∧ s.le (sparse 51 [(1, .c (.ptr 64 0))] [(64, .var [.bs (LEN a0.fEntries) 5 (row GD (encSpatialEntry) a0.fEntries), .bs (LEN a0.fBuckets) 1 (row GD (encL LEN GD 1 (encI .i64)) a0.fBuckets)])])) w0)) zb ?_ ?_
 ·intro v1 z h K hK hY; replace h := oz h; cbv; revert h; refine fk ?_ ?_ <;> intro h <;> cbv
  ·revert h; refine ra fun c14 h => ?_
   revert h; refine cu (fun y15 => (sparse 51 [(1, .c (.ptr 64 0)), (10, .c (.bs (LEN a0.fEntries) 5 (row GD (encSpatialEntry) a0.fEntries))), (11, .c (.v (.int .i64 (A.ofN (LEN a0.fEntries))))), (12, .c (.v (.int .i64 v1))), (42, .c (.v (.bool y15)))] [(64, .var [.bs (LEN a0.fEntries) 5 (row GD (encSpatialEntry) a0.fEntries), .bs (LEN a0.fBuckets) 1 (row GD (encL LEN GD 1 (encI .i64)) a0.fBuckets)])])) ?_ fun w21 => rz fun h => ?_
   ·intro y15 S hS h; cbv; revert h; refine rk0 (hf_impl_within _ _ _) fun y22 h => ?_; cbv; revert h; refine fk ?_ ?_ <;> intro h <;> cbv
    ·exact dn
    revert h; refine rk0 (hf_impl_IsValidRect _) fun y24 h => ?_; cbv; revert h; refine fk ?_ ?_ <;> intro h <;> cbv
    ·exact dn
    revert h; refine fk ?_ ?_ <;> intro h <;> cbv
    ·revert h; refine ra fun c26 h => ?_; exact dn
    exact dn
   cbv; revert h; refine fk ?_ ?_ <;> intro h <;> cbv
   ·exact dy
   exact dm
  exact dy
 intro y3 h e12 s13 q11 hne; rcases y3 with y3k0 | y3m0
 ·replace h := h; obtain ⟨rfl, q11⟩ := q11; cbv; injection h with h; subst h; exact ⟨_, q11, lR _, zo, rfl⟩
 ·obtain ⟨rfl, q11⟩ := q11; cbv; refine ⟨_, q11, ?_⟩; cbv; revert h; refine rk [] [(64000, 3072), (64002, 3074)] (hf_impl_indexOf _) (fun _ => zf) fun y32 h => ⟨_, rfl, _, _, rfl, fun _ _ _ _ => .refl _, _, _, rfl, fun _ _ _ _ => .refl _, ?_⟩
  cbv; revert h; refine rk [] [] (hf_slices_EqualFunc_LLint64_LLint64_Lint64_Lint64_mbbFimpl_IsValidIndex_1 _ _) (fun _ => zg (les_cons (lR _) (les_cons (give_osD (fun _ _ => rfl) (fun _ _ => rfl) rfl rfl rfl) (les_cons (lR _) (les_nil))))) fun y34 h => ?_; cbv; exact df

/-- impl.common -/
noncomputable def F_impl_common (a0 : TRect) (a1 : TRect) : Option (TRect) :=
 some (TRect.mk (std.imax a0.fX0 a1.fX0) (std.imax a0.fY0 a1.fY0) (std.imin a0.fX1 a1.fX1) (std.imin a0.fY1 a1.fY1))
set_option maxHeartbeats 4000000 in
theorem run_impl_common (a0 : TRect) (a1 : TRect) (r : TRect) (h : F_impl_common a0 a1 = some r) : Fun Try.prog 42 [.agg [.v (.int .i64 a0.fX0), .v (.int .i64 a0.fY0), .v (.int .i64 a0.fX1), .v (.int .i64 a0.fY1)], .agg [.v (.int .i64 a1.fX0), .v (.int .i64 a1.fY0), .v (.int .i64 a1.fX1), .v (.int .i64 a1.fY1)]] [] (.agg [.v (.int .i64 r.fX0), .v (.int .i64 r.fY0), .v (.int .i64 r.fX1), .v (.int .i64 r.fY1)]) [] true := by
 refine ow [] Try.func42 Try.ntmps42 ?_ (hv := (fun _ => ⟨(by simp [AV.flat, AV.flat1, AC.flat]), trivial⟩)); unfold F_impl_common at h; generalize hLEN : @len = LEN, hGD : @gd = GD, hA : std = A, hP : Try.prog = P at *; cbv; exact df

/-- impl.RectsOverlap -/
noncomputable def F_impl_RectsOverlap (a0 : TRect) (a1 : TRect) : Option (Bool) :=
 ((
    (F_impl_IsValidRect a0).bind fun y8 =>
    br y8
    ((F_impl_IsValidRect a1).bind fun y10 =>
    br y10
    ((F_impl_common a0 a1).bind fun y12 =>
    (F_impl_IsValidRect y12).bind fun y14 =>
    some y14)
    (some false))
    (some false)
  ) : Option (Bool)).bind fun y1 =>
 letO y1 fun w7 =>
 some w7
set_option maxHeartbeats 4000000 in
theorem run_impl_RectsOverlap (a0 : TRect) (a1 : TRect) (r : Bool) (h : F_impl_RectsOverlap a0 a1 = some r) : Fun Try.prog 20 [.agg [.v (.int .i64 a0.fX0), .v (.int .i64 a0.fY0), .v (.int .i64 a0.fX1), .v (.int .i64 a0.fY1)], .agg [.v (.int .i64 a1.fX0), .v (.int .i64 a1.fY0), .v (.int .i64 a1.fX1), .v (.int .i64 a1.fY1)]] [] (.c (.v (.bool r))) [] true := by
 refine ow [1] Try.func20 Try.ntmps20 ?_; unfold F_impl_RectsOverlap at h; have hf_impl_IsValidRect := @run_impl_IsValidRect; have hf_impl_common := @run_impl_common; generalize hLEN : @len = LEN, hGD : @gd = GD, hA : std = A, hP : Try.prog = P at *; cbv; revert h; refine cu (fun y1 => (sparse 17 [(4, .c (.v (.bool y1)))] [])) ?_ fun w7 => rz fun h => ?_
 ·intro y1 S hS h; cbv; revert h; refine rk0 (hf_impl_IsValidRect _) fun y8 h => ?_; cbv; revert h; refine fk ?_ ?_ <;> intro h <;> cbv
  ·revert h; refine rk0 (hf_impl_IsValidRect _) fun y10 h => ?_; cbv; revert h; refine fk ?_ ?_ <;> intro h <;> cbv
   ·revert h; refine rk0 (hf_impl_common _ _) fun y12 h => ?_; cbv; revert h; refine rk0 (hf_impl_IsValidRect _) fun y14 h => ?_; cbv; exact dn
   exact dn
  exact dn
 cbv; exact df

noncomputable def L_impl_EntriesIn_x17 (a0 : TSpatialIndex) (a1 : TRect) : (Int × (List Int)) → Option ((Int × (List Int)) ⊕ (((List Int)))) := fun x17 =>
 letO x17.1 fun v15 =>
 letO x17.2 fun v16 =>
 br (std.lt v15 (std.ofN (len a0.fEntries)))
 (req (std.inR v15 (len a0.fEntries)) <|
 (F_impl_RectsOverlap (gd a0.fEntries (std.toN v15)).fBox a1).bind fun y30 =>
 ((
    br y30
    (letO ([(gd a0.fEntries (std.toN v15)).fId] : List Int) fun l39 =>
    req (std.room (std.nadd (len v16) (len l39)) 8) <|
    letO (v16 ++ l39) fun l41 =>
    some l41)
    (some v16)
  ) : Option ((List Int))).bind fun y32 =>
 letO y32 fun w38 =>
 some (.inl (std.add .i64 v15 1, w38)))
 (some (.inr v16))
/-- impl.EntriesIn -/
noncomputable def F_impl_EntriesIn (a0 : TSpatialIndex) (a1 : TRect) : Option (List Int) :=
 ((
    (F_impl_IsValidIndex (TSpatialIndex.mk a0.fEntries a0.fBuckets)).bind fun y8 =>
    br (!(y8))
    (some true)
    ((F_impl_IsValidRect a1).bind fun y10 =>
    some (!(y10)))
  ) : Option (Bool)).bind fun y1 =>
 letO y1 fun w7 =>
 br w7
 (some ([] : List Int))
 (letO ([] : List Int) fun l13 =>
 (whileP (σ := Int × (List Int)) (ρ := ((List Int))) (L_impl_EntriesIn_x17 a0 a1) (0, l13)).bind fun y18 =>
 letO y18 fun y18k0 =>
 letO y18k0 fun w46 =>
 some w46)
set_option maxHeartbeats 4000000 in
theorem run_impl_EntriesIn (a0 : TSpatialIndex) (a1 : TRect) (r : List Int) (h : F_impl_EntriesIn a0 a1 = some r) : Fun Try.prog 7 [.agg [.bs (len a0.fEntries) 5 (row gd (encSpatialEntry) a0.fEntries), .bs (len a0.fBuckets) 1 (row gd (encL len gd 1 (encI .i64)) a0.fBuckets)], .agg [.v (.int .i64 a1.fX0), .v (.int .i64 a1.fY0), .v (.int .i64 a1.fX1), .v (.int .i64 a1.fY1)]] [] (.c (.os 64000 0 (len r))) [(64000, .arr .rw [] (len r) 1 (row gd (encI .i64) r))] true := by
 refine ow [1, 100027] Try.func7 Try.ntmps7 ?_ (hv := (fun _ => ⟨trivial, ⟨fun i _ j _ => val_flat (rfl), trivial⟩⟩)); unfold F_impl_EntriesIn at h; unfold L_impl_EntriesIn_x17 at h; have hf_impl_IsValidIndex := @run_impl_IsValidIndex; have hf_impl_IsValidRect := @run_impl_IsValidRect; have hf_impl_RectsOverlap := @run_impl_RectsOverlap
 generalize hLEN : @len = LEN, hGD : @gd = GD, hA : std = A, hP : Try.prog = P at *; cbv
 revert h; refine cu (fun y1 => (sparse 35 [(2, .c (.ptr 128 0)), (3, .c (.ptr 192 0)), (15, .c (.v (.bool y1)))] [(128, .var [.bs (LEN a0.fEntries) 5 (row GD (encSpatialEntry) a0.fEntries), .bs (LEN a0.fBuckets) 1 (row GD (encL LEN GD 1 (encI .i64)) a0.fBuckets)]), (192, .var [.v (.int .i64 a1.fX0), .v (.int .i64 a1.fY0), .v (.int .i64 a1.fX1), .v (.int .i64 a1.fY1)])])) ?_ fun w7 => rz fun h => ?_
 ·intro y1 S hS h; cbv; revert h; refine rk0 (hf_impl_IsValidIndex _) fun y8 h => ?_; cbv; revert h; refine fk ?_ ?_ <;> intro h <;> cbv
  ·exact dn
  revert h; refine rk0 (hf_impl_IsValidRect _) fun y10 h => ?_; cbv; exact dn
 cbv; revert h; refine fk ?_ ?_ <;> intro h <;> cbv
 ·injection h with h; subst h; refine ⟨(sparse 35 [(4, .c (.os 64000 0 (LEN ([] : List Int))))] [(64000, .arr .rw [] (LEN ([] : List Int)) 1 (row GD (encI .i64) ([] : List Int)))]), ?_, ?_⟩
  ·refine St.le_trans (le_nilT 4 64000 1 (row GD (encI .i64) ([] : List Int)) (by decide) rfl) ?_; subst hLEN; exact zb
  ·subst hLEN; exact ⟨lR _, zo, rfl⟩
 revert h; refine rl fun l13 hl13 h => ?_; have e14 : 0 = LEN l13 := by subst hl13 hLEN; rfl
 refine ⟨_, (co e14), _, row GD (encI .i64) l13, e14, wkOf ?_, ?_⟩
 ·intro i hi j hj; rw [← e14] at hi; subst hl13; subst hGD; omega
 cbv
 revert h; refine ln (.exit 0) (fun x => (sparse 35 [(3, .c (.ptr 192 0)), (5, .c (.os 1024 0 (LEN x.2))), (18, .c (.bs (LEN a0.fEntries) 5 (row GD (encSpatialEntry) a0.fEntries))), (19, .c (.v (.int .i64 (A.ofN (LEN a0.fEntries))))), (20, .c (.v (.int .i64 x.1)))] [(192, .var [.v (.int .i64 a1.fX0), .v (.int .i64 a1.fY0), .v (.int .i64 a1.fX1), .v (.int .i64 a1.fY1)]), (1024, .arr .rw [] (LEN x.2) 1 (row GD (encI .i64) x.2))])) (fun w => (sparse 35 [(5, .c (.os 1024 0 (LEN w)))] [(1024, .arr .rw [] (LEN w) 1 (row GD (encI .i64) w))])) zb ?_ ?_
 ·rintro ⟨v15, v16⟩ z h K hK hY; replace h := oz (oz h); dsimp only at h; cbv; revert h; refine fk ?_ ?_ <;> intro h <;> cbv
  ·revert h; refine ra fun c29 h => ?_; revert h; refine rk0 (hf_impl_RectsOverlap _ _) fun y30 h => ?_; cbv
   revert h; refine cu (fun y32 => some (sparse 35 [(3, .c (.ptr 192 0)), (5, .c (.os 1024 0 (LEN y32))), (18, .c (.bs (LEN a0.fEntries) 5 (row GD (encSpatialEntry) a0.fEntries))), (19, .c (.v (.int .i64 (A.ofN (LEN a0.fEntries))))), (20, .c (.v (.int .i64 v15)))] [(192, .var [.v (.int .i64 a1.fX0), .v (.int .i64 a1.fY0), .v (.int .i64 a1.fX1), .v (.int .i64 a1.fY1)]), (1024, .arr .rw [] (LEN y32) 1 (row GD (encI .i64) y32))])) ?_ fun w38 => rz fun h => ?_
   ·intro y32 S hS h; cbv; revert h; refine fk ?_ ?_ <;> intro h <;> cbv
    ·revert h; refine rl fun l39 hl39 h => ?_; have e40 : 1 = LEN l39 := by subst hl39 hLEN; rfl
     refine ⟨_, (co e40), _, row GD (encI .i64) l39, e40, wkOf ?_, ?_⟩
     ·intro i hi j hj; rw [← e40] at hi; subst hl39; subst hGD; obtain rfl : i = 0 := (by omega); all_goals obtain rfl : j = 0 := by omega
      all_goals rfl
     cbv; revert h; refine rq fun c43 => rl fun l41 hl41 h => ?_; have e42 := nl hA hLEN hl41; refine ⟨c43, _, (co e42), _, row GD (encI .i64) l41, e42, wkOf ?_, ?_⟩
     ·subst hGD hLEN hA; exact app_os (off := 0) (fun _ _ => rfl) hl41 (Nat.le_refl _)
     cbv; exact dn
    exact dn
   cbv; exact dm
  exact dx
 intro w46 h s q26; replace h := oz (oz h); cbv; refine ⟨_, q26, ?_⟩; cbv; injection h with h; subst h; exact ⟨_, le_ren 1024 64000 (by decide) rfl, lR _, zo, rfl⟩

def lays22_ren : Go.Shelf.Ren := ⟨fun | 5 => 22 | 8 => 44 | 7 => 43 | 19 => 63 | 20 => 64 | 10 => 54 | 11 => 55 | 12 => 56 | 13 => 57 | 14 => 58 | 15 => 59 | 16 => 60 | 17 => 61 | 18 => 62 | 30 => 66 | 31 => 67 | 32 => 68 | 33 => 69 | 34 => 70 | 35 => 71 | 40 => 72 | n => n, fun | 23 => 32 | 25 => 2 | 3 => 3 | 32 => 73 | 22 => 32 | 0 => 0 | 44 => 90 | 46 => 92 | 4 => 4 | 36 => 82 | 35 => 81 | 41 => 87 | 5 => 5 | 9 => 9 | 53 => 93 | 57 => 97 | 63 => 100 | 64 => 101 | n => n, fun | n => n⟩
theorem lays22 : Go.Proofs.SlLaysM.n5 Try.prog lays22_ren := {
 mixed := by kernel_rfl,
 f5 := ⟨Try.f22.name, by decide, Try.func22.trans (congrArg some (by kernel_rfl))⟩,
 f7 := ⟨Try.f43.name, by decide, Try.func43.trans (congrArg some (by kernel_rfl))⟩,
 f8 := Try.func44.trans (congrArg some (by kernel_rfl)),
 f10 := ⟨Try.f54.name, by decide, Try.func54.trans (congrArg some (by kernel_rfl))⟩,
 f11 := ⟨Try.f55.name, by decide, Try.func55.trans (congrArg some (by kernel_rfl))⟩,
 f12 := ⟨Try.f56.name, by decide, Try.func56.trans (congrArg some (by kernel_rfl))⟩,
 f13 := ⟨Try.f57.name, by decide, Try.func57.trans (congrArg some (by kernel_rfl))⟩,
 f14 := ⟨Try.f58.name, by decide, Try.func58.trans (congrArg some (by kernel_rfl))⟩,
 f15 := ⟨Try.f59.name, by decide, Try.func59.trans (congrArg some (by kernel_rfl))⟩,
 f16 := ⟨Try.f60.name, by decide, Try.func60.trans (congrArg some (by kernel_rfl))⟩,
 f17 := ⟨Try.f61.name, by decide, Try.func61.trans (congrArg some (by kernel_rfl))⟩,
 f18 := ⟨Try.f62.name, by decide, Try.func62.trans (congrArg some (by kernel_rfl))⟩,
 f19 := Try.func63.trans (congrArg some (by kernel_rfl)),
 f20 := Try.func64.trans (congrArg some (by kernel_rfl)),
 f30 := ⟨Try.f66.name, by decide, Try.func66.trans (congrArg some (by kernel_rfl))⟩,
 f31 := Try.func67.trans (congrArg some (by kernel_rfl)),
 f32 := Try.func68.trans (congrArg some (by kernel_rfl)),
 f33 := ⟨Try.f69.name, by decide, Try.func69.trans (congrArg some (by kernel_rfl))⟩,
 f34 := ⟨Try.f70.name, by decide, Try.func70.trans (congrArg some (by kernel_rfl))⟩,
 f35 := ⟨Try.f71.name, by decide, Try.func71.trans (congrArg some (by kernel_rfl))⟩,
 f40 := ⟨Try.f72.name, by decide, Try.func72.trans (congrArg some (by kernel_rfl))⟩,
 t0 := Try.underlying0,
 a0 := Try.isAgg0,
 z0 := Try.sizeOf0,
 v0 := Try.zeroValue0,
 t3 := Try.underlying3,
 a3 := Try.isAgg3,
 z3 := Try.sizeOf3,
 v3 := Try.zeroValue3,
 t4 := Try.underlying4,
 a4 := Try.isAgg4,
 z4 := Try.sizeOf4,
 v4 := Try.zeroValue4,
 t5 := Try.underlying5,
 a5 := Try.isAgg5,
 z5 := Try.sizeOf5,
 v5 := Try.zeroValue5,
 t9 := Try.underlying9,
 a9 := Try.isAgg9,
 z9 := Try.sizeOf9,
 v9 := Try.zeroValue9,
 t22 := Try.underlying32,
 a22 := Try.isAgg32,
 z22 := Try.sizeOf32,
 v22 := Try.zeroValue32,
 t23 := Try.underlying32,
 a23 := Try.isAgg32,
 z23 := Try.sizeOf32,
 v23 := Try.zeroValue32,
 t25 := Try.underlying2,
 a25 := Try.isAgg2,
 z25 := Try.sizeOf2,
 v25 := Try.zeroValue2,
 t32 := Try.underlying73,
 a32 := Try.isAgg73,
 z32 := Try.sizeOf73,
 v32 := Try.zeroValue73,
 t35 := Try.underlying81,
 a35 := Try.isAgg81,
 z35 := Try.sizeOf81,
 v35 := Try.zeroValue81,
 t36 := Try.underlying82,
 a36 := Try.isAgg82,
 z36 := Try.sizeOf82,
 v36 := Try.zeroValue82,
 t41 := Try.underlying87,
 a41 := Try.isAgg87,
 z41 := Try.sizeOf87,
 v41 := Try.zeroValue87,
 t44 := Try.underlying90,
 a44 := Try.isAgg90,
 z44 := Try.sizeOf90,
 v44 := Try.zeroValue90,
 t46 := Try.underlying92,
 a46 := Try.isAgg92,
 z46 := Try.sizeOf92,
 v46 := Try.zeroValue92,
 t53 := Try.underlying93,
 a53 := Try.isAgg93,
 z53 := Try.sizeOf93,
 v53 := Try.zeroValue93,
 t57 := Try.underlying97,
 a57 := Try.isAgg97,
 z57 := Try.sizeOf97,
 v57 := Try.zeroValue97,
 t63 := Try.underlying100,
 a63 := Try.isAgg100,
 z63 := Try.sizeOf100,
 v63 := Try.zeroValue100,
 t64 := Try.underlying101,
 a64 := Try.isAgg101,
 z64 := Try.sizeOf101,
 v64 := Try.zeroValue101 }
open Classical in
/-- slices.Sort[[]int64,int64] -/
noncomputable def F_slices_Sort_Lint64_int64_mo (a0 : List Int) : Option (List Int) := if a0.length < 4611686018427387904 then some (a0.mergeSort fun x y => decide (x ≤ y)) else none
theorem run_slices_Sort_Lint64_int64_mo (a0 : List Int) (r : List Int) (h : F_slices_Sort_Lint64_int64_mo a0 = some r) : Fun Try.prog 22 [.c (.os 5 0 (len a0))] [(5, .arr .rw [] (len a0) 1 (row gd (encI .i64) a0))] (.tup []) [(5, .arr .rw [] (len r) 1 (row gd (encI .i64) r))] true := by
 unfold F_slices_Sort_Lint64_int64_mo at h
 split at h
 ·rename_i h1
  injection h with h
  have e : len r = a0.length := by subst h; exact List.length_mergeSort a0
  rw [e]
  exact Fun.sort Try.func22 (by kernel_rfl) (by kernel_rfl) (fun blk off cap zs w h2 h3 h4 => AnyM.slices_Sort_int lays22 blk off cap zs w h2 h3 h4) (fun ad w => (AnyM.slices_Sort_int_none lays22 ad 0 w).mono fun e w' h => ⟨h.1, 0, h.2⟩) a0 r h1 h.symm _ _ (fun _ _ => rfl) (fun _ _ => rfl)
 ·cases h
def lays23_ren : Go.Shelf.Ren := ⟨fun | 43 => 23 | n => n, fun | 22 => 32 | 23 => 2 | 3 => 3 | 4 => 4 | 0 => 0 | n => n, fun | n => n⟩
theorem lays23 : Go.Proofs.SlLaysN.n43 Try.prog lays23_ren := {
 mixed := by kernel_rfl,
 f43 := ⟨Try.f23.name, by decide, Try.func23.trans (congrArg some (by kernel_rfl))⟩,
 t0 := Try.underlying0,
 a0 := Try.isAgg0,
 z0 := Try.sizeOf0,
 v0 := Try.zeroValue0,
 t3 := Try.underlying3,
 a3 := Try.isAgg3,
 z3 := Try.sizeOf3,
 v3 := Try.zeroValue3,
 t4 := Try.underlying4,
 a4 := Try.isAgg4,
 z4 := Try.sizeOf4,
 v4 := Try.zeroValue4,
 t22 := Try.underlying32,
 a22 := Try.isAgg32,
 z22 := Try.sizeOf32,
 v22 := Try.zeroValue32,
 t23 := Try.underlying2,
 a23 := Try.isAgg2,
 z23 := Try.sizeOf2,
 v23 := Try.zeroValue2,
 i23 := by kernel_rfl }
open Classical in
/-- slices.Compact[[]int64,int64] -/
noncomputable def F_slices_Compact_Lint64_int64_mo (a0 : List Int) : Option (List Int) := if a0.length < 4611686018427387904 then some (Lib.compactUpTo a0.toArray a0.length) else none
theorem run_slices_Compact_Lint64_int64_mo (a0 : List Int) (r : List Int) (h : F_slices_Compact_Lint64_int64_mo a0 = some r) : Fun Try.prog 23 [.c (.os 5 0 (len a0))] [(5, .arr .rw [] (len a0) 1 (row gd (encI .i64) a0))] (.c (.os 64000 0 (len r))) [(64000, .arr .rw [] (len r) 1 (row gd (encI .i64) r))] true := by
 unfold F_slices_Compact_Lint64_int64_mo at h
 split at h
 ·rename_i h1
  injection h with h
  exact Fun.compact Try.func23 (by kernel_rfl) (by kernel_rfl) (fun blk off cap d w h2 h3 h4 => AnyG.slices_Compact_int_arr lays23 blk off cap d w h2 h3 h4) (fun ad w => (AnyG.slices_Compact_int_empty lays23 ad 0 w).mono fun e w' h => ⟨h.1, 0, h.2⟩) a0 r h1 h.symm _ _ (fun _ _ => rfl) (fun _ _ => rfl)
 ·cases h

noncomputable def L_impl_CandidateCount_x19 (a0 : TSpatialIndex) (y15 : (List Int)) : (Int × (List Int)) → Option ((Int × (List Int)) ⊕ (((List Int)))) := fun x19 =>
 letO x19.1 fun v17 =>
 letO x19.2 fun v18 =>
 br (std.lt v17 (std.ofN (len y15)))
 (req (std.inR v17 (len y15)) <|
 req (std.inR (gd y15 (std.nadd 0 (std.toN v17))) (len a0.fBuckets)) <|
 req (std.room (std.nadd (len v18) (len (gd a0.fBuckets (std.toN (gd y15 (std.nadd 0 (std.toN v17))))))) 8) <|
 letO (v18 ++ (gd a0.fBuckets (std.toN (gd y15 (std.nadd 0 (std.toN v17)))))) fun l33 =>
 some (.inl (std.add .i64 v17 1, l33)))
 (some (.inr v18))
/-- impl.CandidateCount -/
noncomputable def F_impl_CandidateCount (a0 : TSpatialIndex) (a1 : TRect) : Option (Int) :=
 ((
    (F_impl_IsValidIndex a0).bind fun y8 =>
    br (!(y8))
    (some true)
    ((F_impl_IsValidRect a1).bind fun y10 =>
    some (!(y10)))
  ) : Option (Bool)).bind fun y1 =>
 letO y1 fun w7 =>
 br w7
 (some (-1))
 (letO ([] : List Int) fun l13 =>
 (F_impl_buckets a1).bind fun y15 =>
 (whileP (σ := Int × (List Int)) (ρ := ((List Int))) (L_impl_CandidateCount_x19 a0 y15) (0, l13)).bind fun y20 =>
 letO y20 fun y20k0 =>
 letO y20k0 fun w37 =>
 (F_slices_Sort_Lint64_int64_mo w37).bind fun y38 =>
 req (len y38 = len w37) <|
 (F_slices_Compact_Lint64_int64_mo y38).bind fun y40 =>
 req (len w37 = len y38) <|
 some (std.ofN (len y40)))
set_option maxHeartbeats 4000000 in
theorem run_impl_CandidateCount (a0 : TSpatialIndex) (a1 : TRect) (r : Int) (h : F_impl_CandidateCount a0 a1 = some r) : Fun Try.prog 8 [.agg [.bs (len a0.fEntries) 5 (row gd (encSpatialEntry) a0.fEntries), .bs (len a0.fBuckets) 1 (row gd (encL len gd 1 (encI .i64)) a0.fBuckets)], .agg [.v (.int .i64 a1.fX0), .v (.int .i64 a1.fY0), .v (.int .i64 a1.fX1), .v (.int .i64 a1.fY1)]] [] (.c (.v (.int .i64 r))) [] true := by
 refine ow [1] Try.func8 Try.ntmps8 ?_; unfold F_impl_CandidateCount at h; unfold L_impl_CandidateCount_x19 at h; have hf_impl_IsValidIndex := @run_impl_IsValidIndex; have hf_impl_IsValidRect := @run_impl_IsValidRect; have hf_impl_buckets := @run_impl_buckets; have hf_slices_Compact_Lint64_int64_mo := @run_slices_Compact_Lint64_int64_mo
 have hf_slices_Sort_Lint64_int64_mo := @run_slices_Sort_Lint64_int64_mo; generalize hLEN : @len = LEN, hGD : @gd = GD, hA : std = A, hP : Try.prog = P at *; cbv
 revert h; refine cu (fun y1 => (sparse 37 [(2, .c (.ptr 128 0)), (3, .c (.ptr 192 0)), (15, .c (.v (.bool y1)))] [(128, .var [.bs (LEN a0.fEntries) 5 (row GD (encSpatialEntry) a0.fEntries), .bs (LEN a0.fBuckets) 1 (row GD (encL LEN GD 1 (encI .i64)) a0.fBuckets)]), (192, .var [.v (.int .i64 a1.fX0), .v (.int .i64 a1.fY0), .v (.int .i64 a1.fX1), .v (.int .i64 a1.fY1)])])) ?_ fun w7 => rz fun h => ?_
 ·intro y1 S hS h; cbv; revert h; refine rk0 (hf_impl_IsValidIndex _) fun y8 h => ?_; cbv; revert h; refine fk ?_ ?_ <;> intro h <;> cbv
  ·exact dn
  revert h; refine rk0 (hf_impl_IsValidRect _) fun y10 h => ?_; cbv; exact dn
 cbv; revert h; refine fk ?_ ?_ <;> intro h <;> cbv
 ·exact df
 revert h; refine rl fun l13 hl13 h => ?_; have e14 : 0 = LEN l13 := by subst hl13 hLEN; rfl
 refine ⟨_, (co e14), _, row GD (encI .i64) l13, e14, wkOf ?_, ?_⟩
 ·intro i hi j hj; rw [← e14] at hi; subst hl13; subst hGD; omega
 cbv; revert h; refine rk [] [(64000, 1152)] (hf_impl_buckets _) (fun _ => zf) fun y15 h => ⟨_, rfl, _, _, rfl, fun _ _ _ _ => .refl _, ?_⟩
 cbv
 revert h; refine ln (.exit 0) (fun x => (sparse 37 [(2, .c (.ptr 128 0)), (5, .c (.os 1024 0 (LEN x.2))), (18, .c (.os 1152 0 (LEN y15))), (19, .c (.v (.int .i64 (A.ofN (LEN y15))))), (20, .c (.v (.int .i64 x.1)))] [(128, .var [.bs (LEN a0.fEntries) 5 (row GD (encSpatialEntry) a0.fEntries), .bs (LEN a0.fBuckets) 1 (row GD (encL LEN GD 1 (encI .i64)) a0.fBuckets)]), (1024, .arr .rw [] (LEN x.2) 1 (row GD (encI .i64) x.2)), (1152, .arr .rw [] (LEN y15) 1 (row GD (encI .i64) y15))])) (fun w => (sparse 37 [(5, .c (.os 1024 0 (LEN w)))] [(1024, .arr .rw [] (LEN w) 1 (row GD (encI .i64) w))])) zb ?_ ?_
 ·rintro ⟨v17, v18⟩ z h K hK hY; replace h := oz (oz h); dsimp only at h; cbv; revert h; refine fk ?_ ?_ <;> intro h <;> cbv
  ·revert h; refine ra fun c31 h => ?_; refine ai c31 ?_; revert h; refine ra fun c32 h => ?_; revert h; refine rq fun c35 => rl fun l33 hl33 h => ?_; have e34 := nl hA hLEN hl33; refine ⟨c35, _, (co e34), _, row GD (encI .i64) l33, e34, wkOf ?_, ?_⟩
   ·subst hGD hLEN hA; exact app_bs (fun _ _ => rfl) hl33 (Nat.le_refl _)
   cbv; exact dm
  exact dx
 intro w37 h s q28; replace h := oz (oz h); cbv; refine ⟨_, q28, ?_⟩; cbv; revert h; refine rb fun y38 hy39 => rq fun c43 h => ?_; refine rc [(5, 1024)] [(5, 1024)] (hf_slices_Sort_Lint64_int64_mo _ _ hy39) yf ⟨_, rfl, LEN w37, _, c43, fun _ _ _ _ => .refl _, ?_⟩; cbv; revert h; refine rb fun y40 hy41 => rq fun c42 h => ?_
 refine rc [(5, 1024)] [(64000, 2240)] (hf_slices_Compact_Lint64_int64_mo _ _ hy41) (zg (les_cons (AV.le_of_eq (congrArg (fun n => AV.c (AC.os 5 0 n)) c42)) (les_nil))) ⟨_, rfl, _, _, rfl, fun _ _ _ _ => .refl _, ?_⟩; cbv; exact df

/-- impl.BucketsOf -/
noncomputable def F_impl_BucketsOf (a0 : TRect) : Option (List Int) :=
 (F_impl_IsValidRect a0).bind fun y1 =>
 br (!(y1))
 (some ([] : List Int))
 ((F_impl_buckets a0).bind fun y3 =>
 some y3)
set_option maxHeartbeats 4000000 in
theorem run_impl_BucketsOf (a0 : TRect) (r : List Int) (h : F_impl_BucketsOf a0 = some r) : Fun Try.prog 9 [.agg [.v (.int .i64 a0.fX0), .v (.int .i64 a0.fY0), .v (.int .i64 a0.fX1), .v (.int .i64 a0.fY1)]] [] (.c (.os 64000 0 (len r))) [(64000, .arr .rw [] (len r) 1 (row gd (encI .i64) r))] true := by
 refine ow [] Try.func9 Try.ntmps9 ?_ (hv := (fun _ => ⟨trivial, ⟨fun i _ j _ => val_flat (rfl), trivial⟩⟩)); unfold F_impl_BucketsOf at h; have hf_impl_IsValidRect := @run_impl_IsValidRect; have hf_impl_buckets := @run_impl_buckets; generalize hLEN : @len = LEN, hGD : @gd = GD, hA : std = A, hP : Try.prog = P at *; cbv; revert h; refine rk0 (hf_impl_IsValidRect _) fun y1 h => ?_; cbv
 revert h; refine fk ?_ ?_ <;> intro h <;> cbv
 ·injection h with h; subst h; refine ⟨(sparse 8 [(2, .c (.os 64000 0 (LEN ([] : List Int))))] [(64000, .arr .rw [] (LEN ([] : List Int)) 1 (row GD (encI .i64) ([] : List Int)))]), ?_, ?_⟩
  ·refine St.le_trans (le_nilT 2 64000 1 (row GD (encI .i64) ([] : List Int)) (by decide) rfl) ?_; subst hLEN; exact zb
  ·subst hLEN; exact ⟨lR _, zo, rfl⟩
 revert h; refine rk [] [(64000, 448)] (hf_impl_buckets _) (fun _ => zf) fun y3 h => ⟨_, rfl, _, _, rfl, fun _ _ _ _ => .refl _, ?_⟩
 cbv; injection h with h; subst h; exact ⟨_, le_ren 448 64000 (by decide) rfl, lR _, zo, rfl⟩

/-- laws.FnCandidates -/
noncomputable def F_laws_FnCandidates (a0 : List Int) : Option (Bool) :=
 (F_laws_big a0).bind fun y1 =>
 br y1
 (some true)
 ((F_spec_DrawEntriesIn a0).bind fun y3 =>
 (F_impl_EntriesIn y3.1 y3.2).bind fun y5 =>
 (F_impl_CandidateCount y3.1 y3.2).bind fun y7 =>
 br (std.lt y7 0)
 (some (std.eq (std.ofN (len y5)) 0))
 (((
    br (std.le (std.ofN (len y5)) y7)
    (br (std.le y7 (std.ofN (len y3.1.fEntries)))
    ((F_impl_BucketsOf y3.2).bind fun y16 =>
    some (std.lt 0 (std.ofN (len y16))))
    (some false))
    (some false)
  ) : Option (Bool)).bind fun y9 =>
 letO y9 fun w15 =>
 some w15))
set_option maxHeartbeats 4000000 in
theorem run_laws_FnCandidates (a0 : List Int) (r : Bool) (h : F_laws_FnCandidates a0 = some r) : Fun Try.prog 3 [.c (.bs (len a0) 1 (row gd (encI .u8) a0))] [] (.c (.v (.bool r))) [] true := by
 refine ow [8] Try.func3 Try.ntmps3 ?_; unfold F_laws_FnCandidates at h; have hf_impl_BucketsOf := @run_impl_BucketsOf; have hf_impl_CandidateCount := @run_impl_CandidateCount; have hf_impl_EntriesIn := @run_impl_EntriesIn; have hf_laws_big := @run_laws_big; have hf_spec_DrawEntriesIn := @run_spec_DrawEntriesIn; generalize hLEN : @len = LEN, hGD : @gd = GD, hA : std = A, hP : Try.prog = P at *; cbv
 revert h; refine rk0 (hf_laws_big _) fun y1 h => ?_; cbv; revert h; refine fk ?_ ?_ <;> intro h <;> cbv
 ·exact df
 revert h; refine rk [] [(64000, 704), (64002, 706)] (hf_spec_DrawEntriesIn _) (fun _ => zf) fun y3 h => ⟨_, rfl, _, _, rfl, fun _ _ _ _ => .refl _, _, _, rfl, fun _ _ _ _ => .refl _, ?_⟩
 cbv; revert h; refine rk [] [(64000, 1024)] (hf_impl_EntriesIn _ _) (fun _ => zg (les_cons (le_agg ⟨give_os (pl_encSpatialEntry) rfl rfl rfl, give_osD (fun _ _ => rfl) (fun _ _ => rfl) rfl rfl rfl, trivial⟩) (les_cons (lR _) (les_nil)))) fun y5 h => ⟨_, rfl, _, _, rfl, fun _ _ _ _ => .refl _, ?_⟩
 cbv; revert h; refine rk [] [] (hf_impl_CandidateCount _ _) (fun _ => zg (les_cons (le_agg ⟨give_os (pl_encSpatialEntry) rfl rfl rfl, give_osD (fun _ _ => rfl) (fun _ _ => rfl) rfl rfl rfl, trivial⟩) (les_cons (lR _) (les_nil)))) fun y7 h => ?_; cbv; revert h; refine fk ?_ ?_ <;> intro h <;> cbv
 ·exact df
 revert h; refine cu (fun y9 => (sparse 42 [(2, .c (.v (.bool y9)))] [])) ?_ fun w15 => rz fun h => ?_
 ·intro y9 S hS h; cbv; revert h; refine fk ?_ ?_ <;> intro h <;> cbv
  ·revert h; refine fk ?_ ?_ <;> intro h <;> cbv
   ·revert h; refine rk [] [(64000, 2432)] (hf_impl_BucketsOf _) (fun _ => zf) fun y16 h => ⟨_, rfl, _, _, rfl, fun _ _ _ _ => .refl _, ?_⟩
    cbv; exact dn
   exact dn
  exact dn
 cbv; exact df
theorem op_5 (d : Nat) : Opens T (d + 1) 5 (clI .u8) (wfI .u8) := op_int .u8 (show T 5 = some d5 from rfl) rfl
theorem op_22 (d : Nat) : Opens T (d + 2) 22 (clL 1 (encI .u8)) (wfL (wfI .u8)) := op_slice (e := 5) (sz := 1) (show T 22 = some d22 from rfl) rfl (show T 5 = some d5 from rfl) rfl (fun x j hj => by match j, hj with | 0, _ => rfl | (j_ + 1), h_ => exact absurd h_ (by omega)) (op_5 d)
theorem open_22 {H : Type} {enc : TypeId × Value → H} {W : World} {spare : Nat → Bool} {held : Bool} {r : Reach} {base : Nat} {v : Value} {x : DataW H} {ps : List MemPlace}
    (hv : Value.okWide Try.prog W r base 22 v) (h : DataW.Trod enc Try.prog W 0 spare held 22 v x ps) : ∃ e : List Int, (wfL (wfI .u8)) e ∧ RelV (RelI (fun b => b < W.heap.size) W) (.c (.bs (len e) 1 (row gd (encI .u8) e))) v := by
  refine opened_one tok (op_22 0) (fun _ => rfl) (by kernel_rfl) ?_ h
  have ht : Try.prog.underlying 22 = some (.slice 5) := (tok 22 d22 rfl).1
  unfold Value.okWide at hv
  rw [ht] at hv
  cases v <;> first | rfl | exact False.elim hv
end Go.Proofs.Ythjpkcpoepnolaa.AM
