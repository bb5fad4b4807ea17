/-
  What the functions that the law reaches compute, and that they do. No condition.
-/
import Derived.Test.YtlenieingkfjaaaAmSW
namespace Go.Proofs.Ytlenieingkfjaaa.AM
open Go Go.Proofs Go.RowKit
set_option linter.unusedVariables false
set_option linter.unusedSimpArgs false
set_option maxRecDepth 100000

/-- impl.named -/
noncomputable def F_impl_named (a0 : TLibrary) (a1 : ByteArray) : Option (Int) :=
 (F_slices_IndexFunc_Limpl_Cell_impl_Cell_mbFimpl_named_1p a0.fCells a1).bind fun y1 =>
 some y1
set_option maxHeartbeats 4000000 in
theorem run_impl_named (a0 : TLibrary) (a1 : ByteArray) (r : Int) (h : F_impl_named a0 a1 = some r) : Fun Try.prog 145 [.agg [.bs (len a0.fCells) 4 (row gd (encCell len gd) a0.fCells)], .c (.v (.string a1))] [] (.c (.v (.int .i64 r))) [] true := by
 refine Fun.of_wp (oneOf []) tok mixed Try.func145 (by kernel_rfl) rfl Try.ntmps145 rfl trivial (fun _ => ⟨trivial, trivial⟩) ?_
 unfold F_impl_named at h
 have hf_slices_IndexFunc_Limpl_Cell_impl_Cell_mbFimpl_named_1p := @run_slices_IndexFunc_Limpl_Cell_impl_Cell_mbFimpl_named_1p
 generalize hLEN : @len = LEN at *
 generalize hGD : @gd = GD at *
 generalize hA : std = A at *
 generalize hP : Try.prog = P at *
 cbv
 replace h := of_bind h
 obtain ⟨y1, hy2, h⟩ := h
 refine ⟨{ args := [.c (.bs (LEN a0.fCells) 4 (row GD (encCell LEN GD) a0.fCells)), .c (.fn 209 1 fun j => ([.bp 1 (encS a1)] : List AC).getD j .junk)], o0 := [], r := .c (.v (.int .i64 y1)), o1 := [], fl := true, σ := [], τ := [] }, hf_slices_IndexFunc_Limpl_Cell_impl_Cell_mbFimpl_named_1p _ _ _ hy2, ⟨les_cons (lR _) (les_cons (le_fn (by intro j hj; match j, hj with | 0, _ => exact le_bp (show 1 ≤ 1 from by decide) (by intro j hj; match j, hj with | 0, _ => exact rle_refl _ | (j_ + 1), h_ => exact absurd h_ (by omega)) | (j_ + 1), h_ => exact absurd h_ (by omega))) (les_nil)), trivial, rfl, rfl, rfl, rfl, trivial, rfl⟩, ?_⟩
 cbv
 injection h with h
 subst h
 refine ⟨(sparse 9 [(4, .c (.v (.int .i64 y1)))] []), ?_, ?_⟩
 ·exact le_sparse rfl ⟨lR _, trivial⟩ trivial rfl
 ·exact ⟨lR _, trivial, rfl⟩

noncomputable def L_impl_IsValidLibrary_x10 (a0 : TLibrary) : (Int) → Option ((Int) ⊕ ((Bool) ⊕ (Unit))) := fun x10 =>
 letO x10 fun v9 =>
 br (std.lt v9 (std.ofN (len a0.fCells)))
 (req (std.inR v9 (len a0.fCells)) <|
 ((
    (F_impl_validCell (gd a0.fCells (std.toN v9)) v9).bind fun y30 =>
    br (!(y30))
    (some true)
    ((F_impl_named (TLibrary.mk a0.fCells) (gd a0.fCells (std.toN v9)).fName).bind fun y32 =>
    some (std.not (std.eq y32 v9)))
  ) : Option (Bool)).bind fun y23 =>
 letO y23 fun w29 =>
 br w29
 (some (.inr (.inl false)))
 (some (.inl (std.add .i64 v9 1))))
 (some (.inr (.inr ())))
/-- impl.IsValidLibrary -/
noncomputable def F_impl_IsValidLibrary (a0 : TLibrary) : Option (Bool) :=
 ((
    br (std.lt (std.ofN (len a0.fCells)) 1)
    (some true)
    (some (std.lt 8 (std.ofN (len a0.fCells))))
  ) : Option (Bool)).bind fun y1 =>
 letO y1 fun w7 =>
 br w7
 (some false)
 ((whileP (σ := Int) (ρ := (Bool) ⊕ (Unit)) (L_impl_IsValidLibrary_x10 a0) 0).bind fun y11 =>
 (match y11 with
  | .inl y11k0 => (
    letO y11k0 fun w37 =>
    some w37)
  | .inr y11m0 =>
    some true))
set_option maxHeartbeats 4000000 in
theorem run_impl_IsValidLibrary (a0 : TLibrary) (r : Bool) (h : F_impl_IsValidLibrary a0 = some r) : Fun Try.prog 94 [.agg [.bs (len a0.fCells) 4 (row gd (encCell len gd) a0.fCells)]] [] (.c (.v (.bool r))) [] true := by
 refine Fun.of_wp (oneOf [1, 6]) tok mixed Try.func94 (by kernel_rfl) rfl Try.ntmps94 rfl trivial (fun _ => ⟨trivial, trivial⟩) ?_
 unfold F_impl_IsValidLibrary at h
 unfold L_impl_IsValidLibrary_x10 at h
 have hf_impl_named := @run_impl_named
 have hf_impl_validCell := @run_impl_validCell
 generalize hLEN : @len = LEN at *
 generalize hGD : @gd = GD at *
 generalize hA : std = A at *
 generalize hP : Try.prog = P at *
 cbv
 replace h := of_bind h
 obtain ⟨y1, hy2, h⟩ := h
 obtain ⟨S5, hS6⟩ : ∃ S, S = (sparse 36 [(1, .c (.ptr 64 0)), (14, .c (.v (.bool y1)))] [(64, .var [.bs (LEN a0.fCells) 4 (row GD (encCell LEN GD) a0.fCells)])]) := ⟨_, rfl⟩
 refine ⟨S5, ?_, ?_⟩
 ·clear h
  have h := hy2
  clear hy2
  cbv
  refine fork (fun b8 => ?_) (fun b8 => ?_)
  ·replace h := of_br_t b8 h
   cbv
   injection h with h
   subst h
   subst hS6
   show St.le _ _
   exact le_sparse rfl ⟨lR _, lR _, trivial⟩ ⟨rfl, trivial⟩ rfl
  ·replace h := of_br_f b8 h
   cbv
   injection h with h
   subst h
   subst hS6
   show St.le _ _
   exact le_sparse rfl ⟨lR _, lR _, trivial⟩ ⟨rfl, trivial⟩ rfl
 ·clear hy2
  subst hS6
  replace h := of_let h
  obtain ⟨w7, hw7, h⟩ := h
  have hw7 : w7 = y1 := hw7
  subst hw7
  cbv
  refine fork (fun b38 => ?_) (fun b38 => ?_)
  ·replace h := of_br_t b38 h
   cbv
   injection h with h
   subst h
   refine ⟨(sparse 36 [(2, .c (.v (.bool false)))] []), ?_, ?_⟩
   ·exact le_sparse rfl ⟨lR _, trivial⟩ trivial rfl
   ·exact ⟨lR _, trivial, rfl⟩
  ·replace h := of_br_f b38 h
   cbv
   replace h := of_bind h
   obtain ⟨y11, hr12, hN13⟩ := h
   refine loop_cut hr12 (fun x => (sparse 36 [(1, .c (.ptr 64 0)), (16, .c (.bs (LEN a0.fCells) 4 (row GD (encCell LEN GD) a0.fCells))), (17, .c (.v (.int .i64 (A.ofN (LEN a0.fCells))))), (18, .c (.v (.int .i64 x)))] [(64, .var [.bs (LEN a0.fCells) 4 (row GD (encCell LEN GD) a0.fCells)])])) ?_ (fun y e s => (match y with | .inl w => e = .ret ∧ s.le (sparse 36 [(2, .c (.v (.bool w)))] []) | .inr w0 => (fun (w : Unit) => e = .exit 0 ∧ s.le (sparse 36 [] [])) w0)) ?_ ?_
   ·clear hr12 hN13
    show St.le _ _
    exact le_sparse rfl ⟨lR _, lR _, lR _, lR _, trivial⟩ ⟨rfl, trivial⟩ rfl
   ·clear hr12 hN13
    intro x z17 h K15 hK16 hY14
    replace h := of_let h
    obtain ⟨v9, hv9, h⟩ := h
    have hv9 : v9 = x := hv9
    subst hv9
    cbv
    refine fork (fun b36 => ?_) (fun b36 => ?_)
    ·replace h := of_br_t b36 h
     cbv
     replace h := of_req h
     obtain ⟨c22, h⟩ := h
     refine ⟨⟨c22, trivial⟩, ?_⟩
     replace h := of_bind h
     obtain ⟨y23, hy24, h⟩ := h
     obtain ⟨S27, hS28⟩ : ∃ S, S = (sparse 36 [(1, .c (.ptr 64 0)), (16, .c (.bs (LEN a0.fCells) 4 (row GD (encCell LEN GD) a0.fCells))), (17, .c (.v (.int .i64 (A.ofN (LEN a0.fCells))))), (18, .c (.v (.int .i64 v9))), (34, .c (.v (.bool y23)))] [(64, .var [.bs (LEN a0.fCells) 4 (row GD (encCell LEN GD) a0.fCells)])]) := ⟨_, rfl⟩
     refine ⟨S27, ?_, ?_⟩
     ·clear h
      have h := hy24
      clear hy24
      cbv
      replace h := of_bind h
      obtain ⟨y30, hy31, h⟩ := h
      refine ⟨{ args := [.agg [.v (.string (GD a0.fCells (A.toN v9)).fName), .bs (LEN (GD a0.fCells (A.toN v9)).fShapes) 5 (row GD (encShape) (GD a0.fCells (A.toN v9)).fShapes), .bs (LEN (GD a0.fCells (A.toN v9)).fLabels) 4 (row GD (encLabel) (GD a0.fCells (A.toN v9)).fLabels), .bs (LEN (GD a0.fCells (A.toN v9)).fInstances) 8 (row GD (encInstance) (GD a0.fCells (A.toN v9)).fInstances)], .c (.v (.int .i64 v9))], o0 := [], r := .c (.v (.bool y30)), o1 := [], fl := true, σ := [], τ := [] }, hf_impl_validCell _ _ _ hy31, ⟨les_cons (lR _) (les_cons (lR _) (les_nil)), trivial, rfl, rfl, rfl, rfl, trivial, rfl⟩, ?_⟩
      cbv
      refine fork (fun b34 => ?_) (fun b34 => ?_)
      ·replace h := of_br_t b34 h
       cbv
       injection h with h
       subst h
       subst hS28
       show St.le _ _
       exact le_sparse rfl ⟨lR _, lR _, lR _, lR _, lR _, trivial⟩ ⟨rfl, trivial⟩ rfl
      ·replace h := of_br_f b34 h
       cbv
       replace h := of_bind h
       obtain ⟨y32, hy33, h⟩ := h
       refine ⟨{ args := [.agg [.bs (LEN a0.fCells) 4 (row GD (encCell LEN GD) a0.fCells)], .c (.v (.string (GD a0.fCells (A.toN v9)).fName))], o0 := [], r := .c (.v (.int .i64 y32)), o1 := [], fl := true, σ := [], τ := [] }, hf_impl_named _ _ _ hy33, ⟨les_cons (lR _) (les_cons (lR _) (les_nil)), trivial, rfl, rfl, rfl, rfl, trivial, rfl⟩, ?_⟩
       cbv
       injection h with h
       subst h
       subst hS28
       show St.le _ _
       exact le_sparse rfl ⟨lR _, lR _, lR _, lR _, lR _, trivial⟩ ⟨rfl, trivial⟩ rfl
     ·clear hy24
      subst hS28
      replace h := of_let h
      obtain ⟨w29, hw29, h⟩ := h
      have hw29 : w29 = y23 := hw29
      subst hw29
      cbv
      refine fork (fun b35 => ?_) (fun b35 => ?_)
      ·replace h := of_br_t b35 h
       cbv
       injection h with h
       refine hY14 _ h.symm _ _ (And.intro rfl ?_) (by intro hh; cases hh)
       exact le_sparse rfl ⟨lR _, trivial⟩ trivial rfl
      ·replace h := of_br_f b35 h
       cbv
       injection h with h
       refine hK16 _ h.symm _ ?_
       exact le_sparse rfl ⟨lR _, lR _, lR _, lR _, trivial⟩ ⟨rfl, trivial⟩ rfl
    ·replace h := of_br_f b36 h
     cbv
     injection h with h
     refine hY14 _ h.symm _ _ (And.intro rfl ?_) (by intro hh; cases hh)
     exact le_sparse rfl trivial trivial rfl
   ·clear hr12
    have h := hN13
    clear hN13
    intro e20 s21 q19 hne
    rcases y11 with y11k0 | y11m0
    ·replace h := h
     obtain ⟨rfl, q19⟩ := q19
     replace h := of_let h
     obtain ⟨w37, hw37, h⟩ := h
     have hw37 : w37 = y11k0 := hw37
     subst hw37
     cbv
     injection h with h
     subst h
     refine ⟨(sparse 36 [(2, .c (.v (.bool w37)))] []), ?_, ?_⟩
     ·refine St.le_trans q19 ?_
      exact le_sparse rfl ⟨lR _, trivial⟩ trivial rfl
     ·exact ⟨lR _, trivial, rfl⟩
    ·obtain ⟨rfl, q19⟩ := q19
     cbv
     refine ⟨_, q19, ?_⟩
     cbv
     injection h with h
     subst h
     refine ⟨(sparse 36 [(2, .c (.v (.bool true)))] []), ?_, ?_⟩
     ·exact le_sparse rfl ⟨lR _, trivial⟩ trivial rfl
     ·exact ⟨lR _, trivial, rfl⟩

/-- impl.two -/
noncomputable def F_impl_two_mnb (a0 : List Int) (a1 : Int) : Option (List Int) :=
 req (std.nneg 8) <|
 letO ([std.conv .u8 (std.shr .i64 a1 8), std.conv .u8 a1] : List Int) fun l2 =>
 req (std.room (std.nadd 0 (len l2)) 1) <|
 letO (([] : List Int) ++ l2) fun l4 =>
 some l4
set_option maxHeartbeats 4000000 in
theorem run_impl_two_mnb (a0 : List Int) (a1 : Int) (r : List Int) (h : F_impl_two_mnb a0 a1 = some r) : Fun Try.prog 96 [.c (.v (.slice none 0 0)), .c (.v (.int .i64 a1))] [] (.c (.os 64000 0 (len r))) [(64000, .arr .rw [] (len r) 1 (row gd (encI .u8) r))] true := by
 refine Fun.of_wp (oneOf []) tok mixed Try.func96 (by kernel_rfl) rfl Try.ntmps96 rfl trivial (fun _ => ⟨trivial, ⟨fun i _ j _ => val_flat (rfl), trivial⟩⟩) ?_
 unfold F_impl_two_mnb at h
 generalize hLEN : @len = LEN at *
 generalize hGD : @gd = GD at *
 generalize hA : std = A at *
 generalize hP : Try.prog = P at *
 cbv
 replace h := of_req h
 obtain ⟨c1, h⟩ := h
 refine ⟨c1, ?_⟩
 replace h := of_let h
 obtain ⟨l2, hl2, h⟩ := h
 have e3 : 2 = LEN l2 := by subst hl2 hLEN; rfl
 refine ⟨_, congrArg (fun n => AV.c (AC.os 704 0 n)) e3, _, row GD (encI .u8) l2, e3, wkOf ?_, ?_⟩
 ·intro i hi j hj
  rw [← e3] at hi
  subst hl2
  subst hGD
  obtain rfl | rfl : i = 0 ∨ i = 1 := (by omega)
  all_goals obtain rfl : j = 0 := by omega
  all_goals rfl
 cbv
 replace h := of_req h
 obtain ⟨c6, h⟩ := h
 replace h := of_let h
 obtain ⟨l4, hl4, h⟩ := h
 have e5 : A.nadd 0 (LEN l2) = LEN l4 := by subst hl4 hLEN hA; simp [std, len]
 refine ⟨c6, _, congrArg (fun n => AV.c (AC.os 768 0 n)) e5, _, row GD (encI .u8) l4, e5, wkOf ?_, ?_⟩
 ·subst hGD hLEN hA
  exact app_nil_os (off := 0) (fun _ _ => rfl) hl4 (Nat.le_refl _)
 cbv
 injection h with h
 subst h
 refine ⟨(sparse 13 [(4, .c (.os 64000 0 (LEN l4)))] [(64000, .arr .rw [] (LEN l4) 1 (row GD (encI .u8) l4))]), ?_, ?_⟩
 ·refine St.le_trans (le_ren 768 64000 (by decide) rfl) ?_
  exact le_sparse rfl ⟨lR _, trivial⟩ ⟨oS, trivial⟩ rfl
 ·exact ⟨lR _, ⟨oS, trivial⟩, rfl⟩

noncomputable def L_impl_Checksum16_x3 (a0 : ByteArray) : (Int × Int) → Option ((Int × Int) ⊕ ((Int))) := fun x3 =>
 letO x3.1 fun v1 =>
 letO x3.2 fun v2 =>
 br (std.lt v2 (std.ofN (std.slen a0)))
 (req (std.inR v2 (std.slen a0)) <|
 req (std.nz 65521) <|
 some (.inl (std.rem (std.add .i64 (std.add .i64 (std.mul .i64 31 v1) (std.conv .i64 (std.sat a0 (std.toN v2)))) 1) 65521, std.add .i64 v2 1)))
 (some (.inr v1))
/-- impl.Checksum16 -/
noncomputable def F_impl_Checksum16 (a0 : ByteArray) : Option (Int) :=
 (whileP (σ := Int × Int) (ρ := (Int)) (L_impl_Checksum16_x3 a0) (1, 0)).bind fun y4 =>
 letO y4 fun y4k0 =>
 letO y4k0 fun w18 =>
 some w18
set_option maxHeartbeats 4000000 in
theorem run_impl_Checksum16 (a0 : ByteArray) (r : Int) (h : F_impl_Checksum16 a0 = some r) : Fun Try.prog 41 [.c (.v (.string a0))] [] (.c (.v (.int .i64 r))) [] true := by
 refine Fun.of_wp (oneOf []) tok mixed Try.func41 (by kernel_rfl) rfl Try.ntmps41 rfl trivial (fun _ => ⟨trivial, trivial⟩) ?_
 unfold F_impl_Checksum16 at h
 unfold L_impl_Checksum16_x3 at h
 generalize hLEN : @len = LEN at *
 generalize hGD : @gd = GD at *
 generalize hA : std = A at *
 generalize hP : Try.prog = P at *
 cbv
 replace h := of_bind h
 obtain ⟨y4, hr5, hN6⟩ := h
 refine loop_cut hr5 (fun x => (sparse 21 [(0, .c (.v (.string a0))), (3, .c (.v (.int .i64 x.1))), (4, .c (.v (.int .i64 x.2)))] [])) ?_ (fun y e s => (fun (w : Int) => e = .exit 0 ∧ s.le (sparse 21 [(3, .c (.v (.int .i64 w)))] [])) y) ?_ ?_
 ·clear hr5 hN6
  show St.le _ _
  exact le_sparse rfl ⟨lR _, lR _, lR _, trivial⟩ trivial rfl
 ·clear hr5 hN6
  intro x z10 h K8 hK9 hY7
  obtain ⟨x0_, x1_⟩ := x
  replace h := of_let h
  obtain ⟨v1, hv1, h⟩ := h
  have hv1 : v1 = x0_ := hv1
  subst hv1
  replace h := of_let h
  obtain ⟨v2, hv2, h⟩ := h
  have hv2 : v2 = x1_ := hv2
  subst hv2
  cbv
  refine fork (fun b17 => ?_) (fun b17 => ?_)
  ·replace h := of_br_t b17 h
   cbv
   replace h := of_req h
   obtain ⟨c15, h⟩ := h
   refine ⟨c15, ?_⟩
   replace h := of_req h
   obtain ⟨c16, h⟩ := h
   refine ⟨c16, ?_⟩
   injection h with h
   refine hK9 _ h.symm _ ?_
   exact le_sparse rfl ⟨lR _, lR _, lR _, trivial⟩ trivial rfl
  ·replace h := of_br_f b17 h
   cbv
   injection h with h
   refine hY7 _ h.symm _ _ (And.intro rfl ?_) (by intro hh; cases hh)
   exact le_sparse rfl ⟨lR _, trivial⟩ trivial rfl
 ·clear hr5
  have h := hN6
  clear hN6
  intro e13 s14 q12 hne
  replace h := of_let h
  obtain ⟨y4k0, hyk, h⟩ := h
  have hyk : y4k0 = y4 := hyk
  subst hyk
  obtain ⟨rfl, q12⟩ := q12
  replace h := of_let h
  obtain ⟨w18, hw18, h⟩ := h
  have hw18 : w18 = y4k0 := hw18
  subst hw18
  cbv
  refine ⟨_, q12, ?_⟩
  cbv
  injection h with h
  subst h
  refine ⟨(sparse 21 [(2, .c (.v (.int .i64 w18)))] []), ?_, ?_⟩
  ·exact le_sparse rfl ⟨lR _, trivial⟩ trivial rfl
  ·exact ⟨lR _, trivial, rfl⟩

/-- impl.two -/
noncomputable def F_impl_two_mob (a0 : List Int) (a1 : Int) : Option (List Int) :=
 req (std.nneg 8) <|
 letO ([std.conv .u8 (std.shr .i64 a1 8), std.conv .u8 a1] : List Int) fun l2 =>
 req (std.room (std.nadd (len a0) (len l2)) 1) <|
 letO (a0 ++ l2) fun l4 =>
 some l4
set_option maxHeartbeats 4000000 in
theorem run_impl_two_mob (a0 : List Int) (a1 : Int) (r : List Int) (h : F_impl_two_mob a0 a1 = some r) : Fun Try.prog 96 [.c (.os 5 0 (len a0)), .c (.v (.int .i64 a1))] [(5, .arr .rw [] (len a0) 1 (row gd (encI .u8) a0))] (.c (.os 64000 0 (len r))) [(64000, .arr .rw [] (len r) 1 (row gd (encI .u8) r))] true := by
 refine Fun.of_wp (oneOf []) tok mixed Try.func96 (by kernel_rfl) rfl Try.ntmps96 rfl ⟨fun i _ j _ k hk => (noref (plain_nil (rfl)) hk).elim, trivial⟩ (fun _ => ⟨trivial, ⟨fun i _ j _ => val_flat (rfl), trivial⟩⟩) ?_
 unfold F_impl_two_mob at h
 generalize hLEN : @len = LEN at *
 generalize hGD : @gd = GD at *
 generalize hA : std = A at *
 generalize hP : Try.prog = P at *
 cbv
 replace h := of_req h
 obtain ⟨c1, h⟩ := h
 refine ⟨c1, ?_⟩
 replace h := of_let h
 obtain ⟨l2, hl2, h⟩ := h
 have e3 : 2 = LEN l2 := by subst hl2 hLEN; rfl
 refine ⟨_, congrArg (fun n => AV.c (AC.os 704 0 n)) e3, _, row GD (encI .u8) l2, e3, wkOf ?_, ?_⟩
 ·intro i hi j hj
  rw [← e3] at hi
  subst hl2
  subst hGD
  obtain rfl | rfl : i = 0 ∨ i = 1 := (by omega)
  all_goals obtain rfl : j = 0 := by omega
  all_goals rfl
 cbv
 replace h := of_req h
 obtain ⟨c6, h⟩ := h
 replace h := of_let h
 obtain ⟨l4, hl4, h⟩ := h
 have e5 : A.nadd (LEN a0) (LEN l2) = LEN l4 := by subst hl4 hLEN hA; simp [std, len]
 refine ⟨c6, _, congrArg (fun n => AV.c (AC.os 768 0 n)) e5, _, row GD (encI .u8) l4, e5, wkOf ?_, ?_⟩
 ·subst hGD hLEN hA
  exact app_os (off := 0) (fun _ _ => rfl) hl4 (Nat.le_refl _)
 cbv
 injection h with h
 subst h
 refine ⟨(sparse 13 [(4, .c (.os 64000 0 (LEN l4)))] [(64000, .arr .rw [] (LEN l4) 1 (row GD (encI .u8) l4))]), ?_, ?_⟩
 ·refine St.le_trans (le_ren 768 64000 (by decide) rfl) ?_
  exact le_sparse rfl ⟨lR _, trivial⟩ ⟨oS, trivial⟩ rfl
 ·exact ⟨lR _, ⟨oS, trivial⟩, rfl⟩

/-- impl.StreamRecord -/
noncomputable def F_impl_StreamRecord (a0 : Int) (a1 : ByteArray) : Option (ByteArray) :=
 ((
    (F_impl_within a0 1 7).bind fun y8 =>
    br (!(y8))
    (some true)
    (some (std.lt 200 (std.ofN (std.slen a1))))
  ) : Option (Bool)).bind fun y1 =>
 letO y1 fun w7 =>
 br w7
 (some (ByteArray.mk #[]))
 ((F_impl_two_mnb ([] : List Int) (std.add .i64 (std.ofN (std.slen a1)) 5)).bind fun y11 =>
 letO ([std.conv .u8 a0] : List Int) fun l13 =>
 req (std.room (std.nadd (len y11) (len l13)) 1) <|
 letO (y11 ++ l13) fun l15 =>
 req (std.room (std.nadd (len l15) (std.slen a1)) 1) <|
 letO (l15 ++ strL a1) fun l18 =>
 (F_impl_Checksum16 (std.ofBytes (len l18) (fun i => gd l18 (0 + i)))).bind fun y21 =>
 (F_impl_two_mob l18 y21).bind fun y23 =>
 some (std.ofBytes (len y23) (fun i => gd y23 (0 + i))))
set_option maxHeartbeats 4000000 in
theorem run_impl_StreamRecord (a0 : Int) (a1 : ByteArray) (r : ByteArray) (h : F_impl_StreamRecord a0 a1 = some r) : Fun Try.prog 36 [.c (.v (.int .i64 a0)), .c (.v (.string a1))] [] (.c (.v (.string r))) [] true := by
 refine Fun.of_wp (oneOf [1]) tok mixed Try.func36 (by kernel_rfl) rfl Try.ntmps36 rfl trivial (fun _ => ⟨trivial, trivial⟩) ?_
 unfold F_impl_StreamRecord at h
 have hf_impl_Checksum16 := @run_impl_Checksum16
 have hf_impl_two_mnb := @run_impl_two_mnb
 have hf_impl_two_mob := @run_impl_two_mob
 have hf_impl_within := @run_impl_within
 generalize hLEN : @len = LEN at *
 generalize hGD : @gd = GD at *
 generalize hA : std = A at *
 generalize hP : Try.prog = P at *
 cbv
 replace h := of_bind h
 obtain ⟨y1, hy2, h⟩ := h
 obtain ⟨S5, hS6⟩ : ∃ S, S = (sparse 31 [(0, .c (.v (.int .i64 a0))), (1, .c (.v (.string a1))), (13, .c (.v (.bool y1)))] []) := ⟨_, rfl⟩
 refine ⟨S5, ?_, ?_⟩
 ·clear h
  have h := hy2
  clear hy2
  cbv
  replace h := of_bind h
  obtain ⟨y8, hy9, h⟩ := h
  refine ⟨{ args := [.c (.v (.int .i64 a0)), .c (.v (.int .i64 1)), .c (.v (.int .i64 7))], o0 := [], r := .c (.v (.bool y8)), o1 := [], fl := true, σ := [], τ := [] }, hf_impl_within _ _ _ _ hy9, ⟨les_cons (lR _) (les_cons (lR _) (les_cons (lR _) (les_nil))), trivial, rfl, rfl, rfl, rfl, trivial, rfl⟩, ?_⟩
  cbv
  refine fork (fun b10 => ?_) (fun b10 => ?_)
  ·replace h := of_br_t b10 h
   cbv
   injection h with h
   subst h
   subst hS6
   show St.le _ _
   exact le_sparse rfl ⟨lR _, lR _, lR _, trivial⟩ trivial rfl
  ·replace h := of_br_f b10 h
   cbv
   injection h with h
   subst h
   subst hS6
   show St.le _ _
   exact le_sparse rfl ⟨lR _, lR _, lR _, trivial⟩ trivial rfl
 ·clear hy2
  subst hS6
  replace h := of_let h
  obtain ⟨w7, hw7, h⟩ := h
  have hw7 : w7 = y1 := hw7
  subst hw7
  cbv
  refine fork (fun b25 => ?_) (fun b25 => ?_)
  ·replace h := of_br_t b25 h
   cbv
   injection h with h
   subst h
   refine ⟨(sparse 31 [(4, .c (.v (.string (ByteArray.mk #[]))))] []), ?_, ?_⟩
   ·exact le_sparse rfl ⟨lR _, trivial⟩ trivial rfl
   ·exact ⟨lR _, trivial, rfl⟩
  ·replace h := of_br_f b25 h
   cbv
   replace h := of_bind h
   obtain ⟨y11, hy12, h⟩ := h
   refine ⟨{ args := [.c (.v (.slice none 0 0)), .c (.v (.int .i64 (A.add .i64 (A.ofN (A.slen a1)) 5)))], o0 := [], r := .c (.os 64000 0 (LEN y11)), o1 := [(64000, .arr .rw [] (LEN y11) 1 (row GD (encI .u8) y11))], fl := true, σ := [], τ := [(64000, 1088)] }, hf_impl_two_mnb _ _ _ hy12, ⟨les_cons (lR _) (les_cons (lR _) (les_nil)), trivial, rfl, rfl, rfl, rfl, ⟨fun h => absurd (show (64000 : Nat) % 2 = 1 from h) (by decide), trivial⟩, rfl⟩, _, rfl, _, _, rfl, fun _ _ _ _ => .refl _, ?_⟩
   cbv
   replace h := of_let h
   obtain ⟨l13, hl13, h⟩ := h
   have e14 : 1 = LEN l13 := by subst hl13 hLEN; rfl
   refine ⟨_, congrArg (fun n => AV.c (AC.os 1344 0 n)) e14, _, row GD (encI .u8) l13, e14, wkOf ?_, ?_⟩
   ·intro i hi j hj
    rw [← e14] at hi
    subst hl13
    subst hGD
    obtain rfl : i = 0 := (by omega)
    all_goals obtain rfl : j = 0 := by omega
    all_goals rfl
   cbv
   replace h := of_req h
   obtain ⟨c17, h⟩ := h
   replace h := of_let h
   obtain ⟨l15, hl15, h⟩ := h
   have e16 : A.nadd (LEN y11) (LEN l13) = LEN l15 := by subst hl15 hLEN hA; simp [std, len]
   refine ⟨c17, _, congrArg (fun n => AV.c (AC.os 1088 0 n)) e16, _, row GD (encI .u8) l15, e16, wkOf ?_, ?_⟩
   ·subst hGD hLEN hA
    exact app_os (off := 0) (fun _ _ => rfl) hl15 (Nat.le_refl _)
   cbv
   replace h := of_req h
   obtain ⟨c20, h⟩ := h
   replace h := of_let h
   obtain ⟨l18, hl18, h⟩ := h
   have e19 : A.nadd (LEN l15) (A.slen a1) = LEN l18 := by subst hl18 hLEN hA; exact (strapp_len _ _).symm
   refine ⟨c20, _, congrArg (fun n => AV.c (AC.os 1088 0 n)) e19, _, row GD (encI .u8) l18, e19, wkOf ?_, ?_⟩
   ·subst hGD hLEN hA
    exact app_str hl18 (Nat.le_refl _)
   cbv
   refine ⟨fun _ _ => rfl, ?_⟩
   replace h := of_bind h
   obtain ⟨y21, hy22, h⟩ := h
   refine ⟨{ args := [.c (.v (.string (A.ofBytes (LEN l18) (fun i => GD l18 (0 + i)))))], o0 := [], r := .c (.v (.int .i64 y21)), o1 := [], fl := true, σ := [], τ := [] }, hf_impl_Checksum16 _ _ hy22, ⟨les_cons (lR _) (les_nil), trivial, rfl, rfl, rfl, rfl, trivial, rfl⟩, ?_⟩
   cbv
   replace h := of_bind h
   obtain ⟨y23, hy24, h⟩ := h
   refine ⟨{ args := [.c (.os 5 0 (LEN l18)), .c (.v (.int .i64 y21))], o0 := [(5, .arr .rw [] (LEN l18) 1 (row GD (encI .u8) l18))], r := .c (.os 64000 0 (LEN y23)), o1 := [(64000, .arr .rw [] (LEN y23) 1 (row GD (encI .u8) y23))], fl := true, σ := [(5, 1088)], τ := [(64000, 1856)] }, hf_impl_two_mob _ _ _ hy24, ⟨les_cons (lR _) (les_cons (lR _) (les_nil)), ⟨oS, trivial⟩, rfl, rfl, rfl, rfl, ⟨fun h => absurd (show (64000 : Nat) % 2 = 1 from h) (by decide), trivial⟩, rfl⟩, _, rfl, _, _, rfl, fun _ _ _ _ => .refl _, ?_⟩
   cbv
   refine ⟨fun _ _ => rfl, ?_⟩
   injection h with h
   subst h
   refine ⟨(sparse 31 [(4, .c (.v (.string (A.ofBytes (LEN y23) (fun i => GD y23 (0 + i))))))] []), ?_, ?_⟩
   ·exact le_sparse rfl ⟨lR _, trivial⟩ trivial rfl
   ·exact ⟨lR _, trivial, rfl⟩
/-- impl.nameBytes -/
noncomputable def F_impl_nameBytes_mnb (a0 : List Int) (a1 : ByteArray) : Option (List Int) :=
 letO ([std.conv .u8 (std.ofN (std.slen a1))] : List Int) fun l1 =>
 req (std.room (std.nadd 0 (len l1)) 1) <|
 letO (([] : List Int) ++ l1) fun l3 =>
 req (std.room (std.nadd (len l3) (std.slen a1)) 1) <|
 letO (l3 ++ strL a1) fun l6 =>
 some l6
set_option maxHeartbeats 4000000 in
theorem run_impl_nameBytes_mnb (a0 : List Int) (a1 : ByteArray) (r : List Int) (h : F_impl_nameBytes_mnb a0 a1 = some r) : Fun Try.prog 146 [.c (.v (.slice none 0 0)), .c (.v (.string a1))] [] (.c (.os 64000 0 (len r))) [(64000, .arr .rw [] (len r) 1 (row gd (encI .u8) r))] true := by
 refine Fun.of_wp (oneOf []) tok mixed Try.func146 (by kernel_rfl) rfl Try.ntmps146 rfl trivial (fun _ => ⟨trivial, ⟨fun i _ j _ => val_flat (rfl), trivial⟩⟩) ?_
 unfold F_impl_nameBytes_mnb at h
 generalize hLEN : @len = LEN at *
 generalize hGD : @gd = GD at *
 generalize hA : std = A at *
 generalize hP : Try.prog = P at *
 cbv
 replace h := of_let h
 obtain ⟨l1, hl1, h⟩ := h
 have e2 : 1 = LEN l1 := by subst hl1 hLEN; rfl
 refine ⟨_, congrArg (fun n => AV.c (AC.os 576 0 n)) e2, _, row GD (encI .u8) l1, e2, wkOf ?_, ?_⟩
 ·intro i hi j hj
  rw [← e2] at hi
  subst hl1
  subst hGD
  obtain rfl : i = 0 := (by omega)
  all_goals obtain rfl : j = 0 := by omega
  all_goals rfl
 cbv
 replace h := of_req h
 obtain ⟨c5, h⟩ := h
 replace h := of_let h
 obtain ⟨l3, hl3, h⟩ := h
 have e4 : A.nadd 0 (LEN l1) = LEN l3 := by subst hl3 hLEN hA; simp [std, len]
 refine ⟨c5, _, congrArg (fun n => AV.c (AC.os 640 0 n)) e4, _, row GD (encI .u8) l3, e4, wkOf ?_, ?_⟩
 ·subst hGD hLEN hA
  exact app_nil_os (off := 0) (fun _ _ => rfl) hl3 (Nat.le_refl _)
 cbv
 replace h := of_req h
 obtain ⟨c8, h⟩ := h
 replace h := of_let h
 obtain ⟨l6, hl6, h⟩ := h
 have e7 : A.nadd (LEN l3) (A.slen a1) = LEN l6 := by subst hl6 hLEN hA; exact (strapp_len _ _).symm
 refine ⟨c8, _, congrArg (fun n => AV.c (AC.os 640 0 n)) e7, _, row GD (encI .u8) l6, e7, wkOf ?_, ?_⟩
 ·subst hGD hLEN hA
  exact app_str hl6 (Nat.le_refl _)
 cbv
 injection h with h
 subst h
 refine ⟨(sparse 13 [(4, .c (.os 64000 0 (LEN l6)))] [(64000, .arr .rw [] (LEN l6) 1 (row GD (encI .u8) l6))]), ?_, ?_⟩
 ·refine St.le_trans (le_ren 640 64000 (by decide) rfl) ?_
  exact le_sparse rfl ⟨lR _, trivial⟩ ⟨oS, trivial⟩ rfl
 ·exact ⟨lR _, ⟨oS, trivial⟩, rfl⟩

noncomputable def L_impl_coordinates_mob_x3 (a1 : List Int) : (Int × (List Int)) → Option ((Int × (List Int)) ⊕ (((List Int)))) := fun x3 =>
 letO x3.1 fun v1 =>
 letO x3.2 fun v2 =>
 br (std.lt v1 (std.ofN (len a1)))
 (req (std.inR v1 (len a1)) <|
 (F_impl_two_mob v2 (std.add .i64 (gd a1 (std.toN v1)) 32768)).bind fun y16 =>
 some (.inl (std.add .i64 v1 1, y16)))
 (some (.inr v2))
/-- impl.coordinates -/
noncomputable def F_impl_coordinates_mob (a0 : List Int) (a1 : List Int) : Option (List Int) :=
 (whileP (σ := Int × (List Int)) (ρ := ((List Int))) (L_impl_coordinates_mob_x3 a1) (0, a0)).bind fun y4 =>
 letO y4 fun y4k0 =>
 letO y4k0 fun w19 =>
 some w19
set_option maxHeartbeats 4000000 in
theorem run_impl_coordinates_mob (a0 : List Int) (a1 : List Int) (r : List Int) (h : F_impl_coordinates_mob a0 a1 = some r) : Fun Try.prog 210 [.c (.os 5 0 (len a0)), .c (.bs (len a1) 1 (row gd (encI .i64) a1))] [(5, .arr .rw [] (len a0) 1 (row gd (encI .u8) a0))] (.c (.os 64000 0 (len r))) [(64000, .arr .rw [] (len r) 1 (row gd (encI .u8) r))] true := by
 refine Fun.of_wp (oneOf []) tok mixed Try.func210 (by kernel_rfl) rfl Try.ntmps210 rfl ⟨fun i _ j _ k hk => (noref (plain_nil (rfl)) hk).elim, trivial⟩ (fun _ => ⟨trivial, ⟨fun i _ j _ => val_flat (rfl), trivial⟩⟩) ?_
 unfold F_impl_coordinates_mob at h
 unfold L_impl_coordinates_mob_x3 at h
 have hf_impl_two_mob := @run_impl_two_mob
 generalize hLEN : @len = LEN at *
 generalize hGD : @gd = GD at *
 generalize hA : std = A at *
 generalize hP : Try.prog = P at *
 cbv
 replace h := of_bind h
 obtain ⟨y4, hr5, hN6⟩ := h
 refine loop_cut hr5 (fun x => (sparse 19 [(0, .c (.os 1024 0 (LEN x.2))), (7, .c (.bs (LEN a1) 1 (row GD (encI .i64) a1))), (8, .c (.v (.int .i64 (A.ofN (LEN a1))))), (9, .c (.v (.int .i64 x.1)))] [(1024, .arr .rw [] (LEN x.2) 1 (row GD (encI .u8) x.2))])) ?_ (fun y e s => (fun (w : (List Int)) => e = .exit 0 ∧ s.le (sparse 19 [(0, .c (.os 1024 0 (LEN w)))] [(1024, .arr .rw [] (LEN w) 1 (row GD (encI .u8) w))])) y) ?_ ?_
 ·clear hr5 hN6
  show St.le _ _
  refine St.le_trans (le_ren 5 1024 (by decide) rfl) ?_
  exact le_sparse rfl ⟨lR _, lR _, lR _, lR _, trivial⟩ ⟨oS, trivial⟩ rfl
 ·clear hr5 hN6
  intro x z10 h K8 hK9 hY7
  obtain ⟨x0_, x1_⟩ := x
  replace h := of_let h
  obtain ⟨v1, hv1, h⟩ := h
  have hv1 : v1 = x0_ := hv1
  subst hv1
  replace h := of_let h
  obtain ⟨v2, hv2, h⟩ := h
  have hv2 : v2 = x1_ := hv2
  subst hv2
  cbv
  refine fork (fun b18 => ?_) (fun b18 => ?_)
  ·replace h := of_br_t b18 h
   cbv
   replace h := of_req h
   obtain ⟨c15, h⟩ := h
   refine ⟨⟨c15, trivial⟩, ?_⟩
   replace h := of_bind h
   obtain ⟨y16, hy17, h⟩ := h
   refine ⟨{ args := [.c (.os 5 0 (LEN v2)), .c (.v (.int .i64 (A.add .i64 (GD a1 (A.toN v1)) 32768)))], o0 := [(5, .arr .rw [] (LEN v2) 1 (row GD (encI .u8) v2))], r := .c (.os 64000 0 (LEN y16)), o1 := [(64000, .arr .rw [] (LEN y16) 1 (row GD (encI .u8) y16))], fl := true, σ := [(5, 1024)], τ := [(64000, 1024)] }, hf_impl_two_mob _ _ _ hy17, ⟨les_cons (lR _) (les_cons (lR _) (les_nil)), ⟨oS, trivial⟩, rfl, rfl, rfl, rfl, ⟨fun h => absurd (show (64000 : Nat) % 2 = 1 from h) (by decide), trivial⟩, rfl⟩, _, rfl, _, _, rfl, fun _ _ _ _ => .refl _, ?_⟩
   cbv
   injection h with h
   refine hK9 _ h.symm _ ?_
   exact le_sparse rfl ⟨lR _, lR _, lR _, lR _, trivial⟩ ⟨oS, trivial⟩ rfl
  ·replace h := of_br_f b18 h
   cbv
   injection h with h
   refine hY7 _ h.symm _ _ (And.intro rfl ?_) (by intro hh; cases hh)
   exact le_sparse rfl ⟨lR _, trivial⟩ ⟨oS, trivial⟩ rfl
 ·clear hr5
  have h := hN6
  clear hN6
  intro e13 s14 q12 hne
  replace h := of_let h
  obtain ⟨y4k0, hyk, h⟩ := h
  have hyk : y4k0 = y4 := hyk
  subst hyk
  obtain ⟨rfl, q12⟩ := q12
  replace h := of_let h
  obtain ⟨w19, hw19, h⟩ := h
  have hw19 : w19 = y4k0 := hw19
  subst hw19
  cbv
  refine ⟨_, q12, ?_⟩
  cbv
  injection h with h
  subst h
  refine ⟨(sparse 19 [(4, .c (.os 64000 0 (LEN w19)))] [(64000, .arr .rw [] (LEN w19) 1 (row GD (encI .u8) w19))]), ?_, ?_⟩
  ·refine St.le_trans (le_ren 1024 64000 (by decide) rfl) ?_
   exact le_sparse rfl ⟨lR _, trivial⟩ ⟨oS, trivial⟩ rfl
  ·exact ⟨lR _, ⟨oS, trivial⟩, rfl⟩

/-- impl.shapeBytes -/
noncomputable def F_impl_shapeBytes_mnb (a0 : List Int) (a1 : TShape) : Option (List Int) :=
 letO ([std.conv .u8 a1.fLayer] : List Int) fun l1 =>
 req (std.room (std.nadd 0 (len l1)) 1) <|
 letO (([] : List Int) ++ l1) fun l3 =>
 letO ([a1.fBox.fX0, a1.fBox.fY0, a1.fBox.fX1, a1.fBox.fY1] : List Int) fun l6 =>
 (F_impl_coordinates_mob l3 l6).bind fun y8 =>
 some y8
set_option maxHeartbeats 4000000 in
theorem run_impl_shapeBytes_mnb (a0 : List Int) (a1 : TShape) (r : List Int) (h : F_impl_shapeBytes_mnb a0 a1 = some r) : Fun Try.prog 147 [.c (.v (.slice none 0 0)), .agg [.v (.int .i64 a1.fLayer), .v (.int .i64 a1.fBox.fX0), .v (.int .i64 a1.fBox.fY0), .v (.int .i64 a1.fBox.fX1), .v (.int .i64 a1.fBox.fY1)]] [] (.c (.os 64000 0 (len r))) [(64000, .arr .rw [] (len r) 1 (row gd (encI .u8) r))] true := by
 refine Fun.of_wp (oneOf []) tok mixed Try.func147 (by kernel_rfl) rfl Try.ntmps147 rfl trivial (fun _ => ⟨trivial, ⟨fun i _ j _ => val_flat (rfl), trivial⟩⟩) ?_
 unfold F_impl_shapeBytes_mnb at h
 have hf_impl_coordinates_mob := @run_impl_coordinates_mob
 generalize hLEN : @len = LEN at *
 generalize hGD : @gd = GD at *
 generalize hA : std = A at *
 generalize hP : Try.prog = P at *
 cbv
 replace h := of_let h
 obtain ⟨l1, hl1, h⟩ := h
 have e2 : 1 = LEN l1 := by subst hl1 hLEN; rfl
 refine ⟨_, congrArg (fun n => AV.c (AC.os 576 0 n)) e2, _, row GD (encI .u8) l1, e2, wkOf ?_, ?_⟩
 ·intro i hi j hj
  rw [← e2] at hi
  subst hl1
  subst hGD
  obtain rfl : i = 0 := (by omega)
  all_goals obtain rfl : j = 0 := by omega
  all_goals rfl
 cbv
 replace h := of_req h
 obtain ⟨c5, h⟩ := h
 replace h := of_let h
 obtain ⟨l3, hl3, h⟩ := h
 have e4 : A.nadd 0 (LEN l1) = LEN l3 := by subst hl3 hLEN hA; simp [std, len]
 refine ⟨c5, _, congrArg (fun n => AV.c (AC.os 640 0 n)) e4, _, row GD (encI .u8) l3, e4, wkOf ?_, ?_⟩
 ·subst hGD hLEN hA
  exact app_nil_os (off := 0) (fun _ _ => rfl) hl3 (Nat.le_refl _)
 cbv
 replace h := of_let h
 obtain ⟨l6, hl6, h⟩ := h
 have e7 : 4 = LEN l6 := by subst hl6 hLEN; rfl
 refine ⟨_, congrArg (fun n => AV.c (AC.os 1472 0 n)) e7, _, row GD (encI .i64) l6, e7, wkOf ?_, ?_⟩
 ·intro i hi j hj
  rw [← e7] at hi
  subst hl6
  subst hGD
  obtain rfl | rfl | rfl | rfl : i = 0 ∨ i = 1 ∨ i = 2 ∨ i = 3 := (by omega)
  all_goals obtain rfl : j = 0 := by omega
  all_goals rfl
 cbv
 replace h := of_bind h
 obtain ⟨y8, hy9, h⟩ := h
 refine ⟨{ args := [.c (.os 5 0 (LEN l3)), .c (.bs (LEN l6) 1 (row GD (encI .i64) l6))], o0 := [(5, .arr .rw [] (LEN l3) 1 (row GD (encI .u8) l3))], r := .c (.os 64000 0 (LEN y8)), o1 := [(64000, .arr .rw [] (LEN y8) 1 (row GD (encI .u8) y8))], fl := true, σ := [(5, 640)], τ := [(64000, 1536)] }, hf_impl_coordinates_mob _ _ _ hy9, ⟨les_cons (lR _) (les_cons (give_os (fun _ _ => rfl) rfl rfl rfl) (les_nil)), ⟨oS, trivial⟩, rfl, rfl, rfl, rfl, ⟨fun h => absurd (show (64000 : Nat) % 2 = 1 from h) (by decide), trivial⟩, rfl⟩, _, rfl, _, _, rfl, fun _ _ _ _ => .refl _, ?_⟩
 cbv
 injection h with h
 subst h
 refine ⟨(sparse 25 [(4, .c (.os 64000 0 (LEN y8)))] [(64000, .arr .rw [] (LEN y8) 1 (row GD (encI .u8) y8))]), ?_, ?_⟩
 ·refine St.le_trans (le_ren 1536 64000 (by decide) rfl) ?_
  exact le_sparse rfl ⟨lR _, trivial⟩ ⟨oS, trivial⟩ rfl
 ·exact ⟨lR _, ⟨oS, trivial⟩, rfl⟩

/-- impl.nameBytes -/
noncomputable def F_impl_nameBytes_mob (a0 : List Int) (a1 : ByteArray) : Option (List Int) :=
 letO ([std.conv .u8 (std.ofN (std.slen a1))] : List Int) fun l1 =>
 req (std.room (std.nadd (len a0) (len l1)) 1) <|
 letO (a0 ++ l1) fun l3 =>
 req (std.room (std.nadd (len l3) (std.slen a1)) 1) <|
 letO (l3 ++ strL a1) fun l6 =>
 some l6
set_option maxHeartbeats 4000000 in
theorem run_impl_nameBytes_mob (a0 : List Int) (a1 : ByteArray) (r : List Int) (h : F_impl_nameBytes_mob a0 a1 = some r) : Fun Try.prog 146 [.c (.os 5 0 (len a0)), .c (.v (.string a1))] [(5, .arr .rw [] (len a0) 1 (row gd (encI .u8) a0))] (.c (.os 64000 0 (len r))) [(64000, .arr .rw [] (len r) 1 (row gd (encI .u8) r))] true := by
 refine Fun.of_wp (oneOf []) tok mixed Try.func146 (by kernel_rfl) rfl Try.ntmps146 rfl ⟨fun i _ j _ k hk => (noref (plain_nil (rfl)) hk).elim, trivial⟩ (fun _ => ⟨trivial, ⟨fun i _ j _ => val_flat (rfl), trivial⟩⟩) ?_
 unfold F_impl_nameBytes_mob at h
 generalize hLEN : @len = LEN at *
 generalize hGD : @gd = GD at *
 generalize hA : std = A at *
 generalize hP : Try.prog = P at *
 cbv
 replace h := of_let h
 obtain ⟨l1, hl1, h⟩ := h
 have e2 : 1 = LEN l1 := by subst hl1 hLEN; rfl
 refine ⟨_, congrArg (fun n => AV.c (AC.os 576 0 n)) e2, _, row GD (encI .u8) l1, e2, wkOf ?_, ?_⟩
 ·intro i hi j hj
  rw [← e2] at hi
  subst hl1
  subst hGD
  obtain rfl : i = 0 := (by omega)
  all_goals obtain rfl : j = 0 := by omega
  all_goals rfl
 cbv
 replace h := of_req h
 obtain ⟨c5, h⟩ := h
 replace h := of_let h
 obtain ⟨l3, hl3, h⟩ := h
 have e4 : A.nadd (LEN a0) (LEN l1) = LEN l3 := by subst hl3 hLEN hA; simp [std, len]
 refine ⟨c5, _, congrArg (fun n => AV.c (AC.os 640 0 n)) e4, _, row GD (encI .u8) l3, e4, wkOf ?_, ?_⟩
 ·subst hGD hLEN hA
  exact app_os (off := 0) (fun _ _ => rfl) hl3 (Nat.le_refl _)
 cbv
 replace h := of_req h
 obtain ⟨c8, h⟩ := h
 replace h := of_let h
 obtain ⟨l6, hl6, h⟩ := h
 have e7 : A.nadd (LEN l3) (A.slen a1) = LEN l6 := by subst hl6 hLEN hA; exact (strapp_len _ _).symm
 refine ⟨c8, _, congrArg (fun n => AV.c (AC.os 640 0 n)) e7, _, row GD (encI .u8) l6, e7, wkOf ?_, ?_⟩
 ·subst hGD hLEN hA
  exact app_str hl6 (Nat.le_refl _)
 cbv
 injection h with h
 subst h
 refine ⟨(sparse 13 [(4, .c (.os 64000 0 (LEN l6)))] [(64000, .arr .rw [] (LEN l6) 1 (row GD (encI .u8) l6))]), ?_, ?_⟩
 ·refine St.le_trans (le_ren 640 64000 (by decide) rfl) ?_
  exact le_sparse rfl ⟨lR _, trivial⟩ ⟨oS, trivial⟩ rfl
 ·exact ⟨lR _, ⟨oS, trivial⟩, rfl⟩

/-- impl.labelBytes -/
noncomputable def F_impl_labelBytes_mnb (a0 : List Int) (a1 : TLabel) : Option (List Int) :=
 letO ([std.conv .u8 a1.fLayer] : List Int) fun l1 =>
 req (std.room (std.nadd 0 (len l1)) 1) <|
 letO (([] : List Int) ++ l1) fun l3 =>
 letO ([a1.fAt.fX, a1.fAt.fY] : List Int) fun l6 =>
 (F_impl_coordinates_mob l3 l6).bind fun y8 =>
 (F_impl_nameBytes_mob y8 a1.fName).bind fun y10 =>
 some y10
set_option maxHeartbeats 4000000 in
theorem run_impl_labelBytes_mnb (a0 : List Int) (a1 : TLabel) (r : List Int) (h : F_impl_labelBytes_mnb a0 a1 = some r) : Fun Try.prog 148 [.c (.v (.slice none 0 0)), .agg [.v (.int .i64 a1.fLayer), .v (.int .i64 a1.fAt.fX), .v (.int .i64 a1.fAt.fY), .v (.string a1.fName)]] [] (.c (.os 64000 0 (len r))) [(64000, .arr .rw [] (len r) 1 (row gd (encI .u8) r))] true := by
 refine Fun.of_wp (oneOf []) tok mixed Try.func148 (by kernel_rfl) rfl Try.ntmps148 rfl trivial (fun _ => ⟨trivial, ⟨fun i _ j _ => val_flat (rfl), trivial⟩⟩) ?_
 unfold F_impl_labelBytes_mnb at h
 have hf_impl_coordinates_mob := @run_impl_coordinates_mob
 have hf_impl_nameBytes_mob := @run_impl_nameBytes_mob
 generalize hLEN : @len = LEN at *
 generalize hGD : @gd = GD at *
 generalize hA : std = A at *
 generalize hP : Try.prog = P at *
 cbv
 replace h := of_let h
 obtain ⟨l1, hl1, h⟩ := h
 have e2 : 1 = LEN l1 := by subst hl1 hLEN; rfl
 refine ⟨_, congrArg (fun n => AV.c (AC.os 576 0 n)) e2, _, row GD (encI .u8) l1, e2, wkOf ?_, ?_⟩
 ·intro i hi j hj
  rw [← e2] at hi
  subst hl1
  subst hGD
  obtain rfl : i = 0 := (by omega)
  all_goals obtain rfl : j = 0 := by omega
  all_goals rfl
 cbv
 replace h := of_req h
 obtain ⟨c5, h⟩ := h
 replace h := of_let h
 obtain ⟨l3, hl3, h⟩ := h
 have e4 : A.nadd 0 (LEN l1) = LEN l3 := by subst hl3 hLEN hA; simp [std, len]
 refine ⟨c5, _, congrArg (fun n => AV.c (AC.os 640 0 n)) e4, _, row GD (encI .u8) l3, e4, wkOf ?_, ?_⟩
 ·subst hGD hLEN hA
  exact app_nil_os (off := 0) (fun _ _ => rfl) hl3 (Nat.le_refl _)
 cbv
 replace h := of_let h
 obtain ⟨l6, hl6, h⟩ := h
 have e7 : 2 = LEN l6 := by subst hl6 hLEN; rfl
 refine ⟨_, congrArg (fun n => AV.c (AC.os 1088 0 n)) e7, _, row GD (encI .i64) l6, e7, wkOf ?_, ?_⟩
 ·intro i hi j hj
  rw [← e7] at hi
  subst hl6
  subst hGD
  obtain rfl | rfl : i = 0 ∨ i = 1 := (by omega)
  all_goals obtain rfl : j = 0 := by omega
  all_goals rfl
 cbv
 replace h := of_bind h
 obtain ⟨y8, hy9, h⟩ := h
 refine ⟨{ args := [.c (.os 5 0 (LEN l3)), .c (.bs (LEN l6) 1 (row GD (encI .i64) l6))], o0 := [(5, .arr .rw [] (LEN l3) 1 (row GD (encI .u8) l3))], r := .c (.os 64000 0 (LEN y8)), o1 := [(64000, .arr .rw [] (LEN y8) 1 (row GD (encI .u8) y8))], fl := true, σ := [(5, 640)], τ := [(64000, 1152)] }, hf_impl_coordinates_mob _ _ _ hy9, ⟨les_cons (lR _) (les_cons (give_os (fun _ _ => rfl) rfl rfl rfl) (les_nil)), ⟨oS, trivial⟩, rfl, rfl, rfl, rfl, ⟨fun h => absurd (show (64000 : Nat) % 2 = 1 from h) (by decide), trivial⟩, rfl⟩, _, rfl, _, _, rfl, fun _ _ _ _ => .refl _, ?_⟩
 cbv
 replace h := of_bind h
 obtain ⟨y10, hy11, h⟩ := h
 refine ⟨{ args := [.c (.os 5 0 (LEN y8)), .c (.v (.string a1.fName))], o0 := [(5, .arr .rw [] (LEN y8) 1 (row GD (encI .u8) y8))], r := .c (.os 64000 0 (LEN y10)), o1 := [(64000, .arr .rw [] (LEN y10) 1 (row GD (encI .u8) y10))], fl := true, σ := [(5, 1152)], τ := [(64000, 1344)] }, hf_impl_nameBytes_mob _ _ _ hy11, ⟨les_cons (lR _) (les_cons (lR _) (les_nil)), ⟨oS, trivial⟩, rfl, rfl, rfl, rfl, ⟨fun h => absurd (show (64000 : Nat) % 2 = 1 from h) (by decide), trivial⟩, rfl⟩, _, rfl, _, _, rfl, fun _ _ _ _ => .refl _, ?_⟩
 cbv
 injection h with h
 subst h
 refine ⟨(sparse 22 [(4, .c (.os 64000 0 (LEN y10)))] [(64000, .arr .rw [] (LEN y10) 1 (row GD (encI .u8) y10))]), ?_, ?_⟩
 ·refine St.le_trans (le_ren 1344 64000 (by decide) rfl) ?_
  exact le_sparse rfl ⟨lR _, trivial⟩ ⟨oS, trivial⟩ rfl
 ·exact ⟨lR _, ⟨oS, trivial⟩, rfl⟩

/-- impl.placeBytes -/
noncomputable def F_impl_placeBytes_mob (a0 : List Int) (a1 : TInstance) : Option (List Int) :=
 letO ([std.conv .u8 a1.fPlace.fOrientation] : List Int) fun l1 =>
 req (std.room (std.nadd (len a0) (len l1)) 1) <|
 letO (a0 ++ l1) fun l3 =>
 letO ([a1.fPlace.fX, a1.fPlace.fY] : List Int) fun l6 =>
 (F_impl_coordinates_mob l3 l6).bind fun y8 =>
 letO ([std.conv .u8 a1.fColumns, std.conv .u8 a1.fRows] : List Int) fun l10 =>
 req (std.room (std.nadd (len y8) (len l10)) 1) <|
 letO (y8 ++ l10) fun l12 =>
 letO ([a1.fStepX, a1.fStepY] : List Int) fun l15 =>
 (F_impl_coordinates_mob l12 l15).bind fun y17 =>
 some y17
set_option maxHeartbeats 4000000 in
theorem run_impl_placeBytes_mob (a0 : List Int) (a1 : TInstance) (r : List Int) (h : F_impl_placeBytes_mob a0 a1 = some r) : Fun Try.prog 149 [.c (.os 5 0 (len a0)), .agg [.v (.int .i64 a1.fCell), .v (.int .i64 a1.fPlace.fOrientation), .v (.int .i64 a1.fPlace.fX), .v (.int .i64 a1.fPlace.fY), .v (.int .i64 a1.fColumns), .v (.int .i64 a1.fRows), .v (.int .i64 a1.fStepX), .v (.int .i64 a1.fStepY)]] [(5, .arr .rw [] (len a0) 1 (row gd (encI .u8) a0))] (.c (.os 64000 0 (len r))) [(64000, .arr .rw [] (len r) 1 (row gd (encI .u8) r))] true := by
 refine Fun.of_wp (oneOf []) tok mixed Try.func149 (by kernel_rfl) rfl Try.ntmps149 rfl ⟨fun i _ j _ k hk => (noref (plain_nil (rfl)) hk).elim, trivial⟩ (fun _ => ⟨trivial, ⟨fun i _ j _ => val_flat (rfl), trivial⟩⟩) ?_
 unfold F_impl_placeBytes_mob at h
 have hf_impl_coordinates_mob := @run_impl_coordinates_mob
 generalize hLEN : @len = LEN at *
 generalize hGD : @gd = GD at *
 generalize hA : std = A at *
 generalize hP : Try.prog = P at *
 cbv
 replace h := of_let h
 obtain ⟨l1, hl1, h⟩ := h
 have e2 : 1 = LEN l1 := by subst hl1 hLEN; rfl
 refine ⟨_, congrArg (fun n => AV.c (AC.os 640 0 n)) e2, _, row GD (encI .u8) l1, e2, wkOf ?_, ?_⟩
 ·intro i hi j hj
  rw [← e2] at hi
  subst hl1
  subst hGD
  obtain rfl : i = 0 := (by omega)
  all_goals obtain rfl : j = 0 := by omega
  all_goals rfl
 cbv
 replace h := of_req h
 obtain ⟨c5, h⟩ := h
 replace h := of_let h
 obtain ⟨l3, hl3, h⟩ := h
 have e4 : A.nadd (LEN a0) (LEN l1) = LEN l3 := by subst hl3 hLEN hA; simp [std, len]
 refine ⟨c5, _, congrArg (fun n => AV.c (AC.os 704 0 n)) e4, _, row GD (encI .u8) l3, e4, wkOf ?_, ?_⟩
 ·subst hGD hLEN hA
  exact app_os (off := 0) (fun _ _ => rfl) hl3 (Nat.le_refl _)
 cbv
 replace h := of_let h
 obtain ⟨l6, hl6, h⟩ := h
 have e7 : 2 = LEN l6 := by subst hl6 hLEN; rfl
 refine ⟨_, congrArg (fun n => AV.c (AC.os 1152 0 n)) e7, _, row GD (encI .i64) l6, e7, wkOf ?_, ?_⟩
 ·intro i hi j hj
  rw [← e7] at hi
  subst hl6
  subst hGD
  obtain rfl | rfl : i = 0 ∨ i = 1 := (by omega)
  all_goals obtain rfl : j = 0 := by omega
  all_goals rfl
 cbv
 replace h := of_bind h
 obtain ⟨y8, hy9, h⟩ := h
 refine ⟨{ args := [.c (.os 5 0 (LEN l3)), .c (.bs (LEN l6) 1 (row GD (encI .i64) l6))], o0 := [(5, .arr .rw [] (LEN l3) 1 (row GD (encI .u8) l3))], r := .c (.os 64000 0 (LEN y8)), o1 := [(64000, .arr .rw [] (LEN y8) 1 (row GD (encI .u8) y8))], fl := true, σ := [(5, 704)], τ := [(64000, 1216)] }, hf_impl_coordinates_mob _ _ _ hy9, ⟨les_cons (lR _) (les_cons (give_os (fun _ _ => rfl) rfl rfl rfl) (les_nil)), ⟨oS, trivial⟩, rfl, rfl, rfl, rfl, ⟨fun h => absurd (show (64000 : Nat) % 2 = 1 from h) (by decide), trivial⟩, rfl⟩, _, rfl, _, _, rfl, fun _ _ _ _ => .refl _, ?_⟩
 cbv
 replace h := of_let h
 obtain ⟨l10, hl10, h⟩ := h
 have e11 : 2 = LEN l10 := by subst hl10 hLEN; rfl
 refine ⟨_, congrArg (fun n => AV.c (AC.os 1728 0 n)) e11, _, row GD (encI .u8) l10, e11, wkOf ?_, ?_⟩
 ·intro i hi j hj
  rw [← e11] at hi
  subst hl10
  subst hGD
  obtain rfl | rfl : i = 0 ∨ i = 1 := (by omega)
  all_goals obtain rfl : j = 0 := by omega
  all_goals rfl
 cbv
 replace h := of_req h
 obtain ⟨c14, h⟩ := h
 replace h := of_let h
 obtain ⟨l12, hl12, h⟩ := h
 have e13 : A.nadd (LEN y8) (LEN l10) = LEN l12 := by subst hl12 hLEN hA; simp [std, len]
 refine ⟨c14, _, congrArg (fun n => AV.c (AC.os 1216 0 n)) e13, _, row GD (encI .u8) l12, e13, wkOf ?_, ?_⟩
 ·subst hGD hLEN hA
  exact app_os (off := 0) (fun _ _ => rfl) hl12 (Nat.le_refl _)
 cbv
 replace h := of_let h
 obtain ⟨l15, hl15, h⟩ := h
 have e16 : 2 = LEN l15 := by subst hl15 hLEN; rfl
 refine ⟨_, congrArg (fun n => AV.c (AC.os 2112 0 n)) e16, _, row GD (encI .i64) l15, e16, wkOf ?_, ?_⟩
 ·intro i hi j hj
  rw [← e16] at hi
  subst hl15
  subst hGD
  obtain rfl | rfl : i = 0 ∨ i = 1 := (by omega)
  all_goals obtain rfl : j = 0 := by omega
  all_goals rfl
 cbv
 replace h := of_bind h
 obtain ⟨y17, hy18, h⟩ := h
 refine ⟨{ args := [.c (.os 5 0 (LEN l12)), .c (.bs (LEN l15) 1 (row GD (encI .i64) l15))], o0 := [(5, .arr .rw [] (LEN l12) 1 (row GD (encI .u8) l12))], r := .c (.os 64000 0 (LEN y17)), o1 := [(64000, .arr .rw [] (LEN y17) 1 (row GD (encI .u8) y17))], fl := true, σ := [(5, 1216)], τ := [(64000, 2176)] }, hf_impl_coordinates_mob _ _ _ hy18, ⟨les_cons (lR _) (les_cons (give_os (fun _ _ => rfl) rfl rfl rfl) (les_nil)), ⟨oS, trivial⟩, rfl, rfl, rfl, rfl, ⟨fun h => absurd (show (64000 : Nat) % 2 = 1 from h) (by decide), trivial⟩, rfl⟩, _, rfl, _, _, rfl, fun _ _ _ _ => .refl _, ?_⟩
 cbv
 injection h with h
 subst h
 refine ⟨(sparse 35 [(4, .c (.os 64000 0 (LEN y17)))] [(64000, .arr .rw [] (LEN y17) 1 (row GD (encI .u8) y17))]), ?_, ?_⟩
 ·refine St.le_trans (le_ren 2176 64000 (by decide) rfl) ?_
  exact le_sparse rfl ⟨lR _, trivial⟩ ⟨oS, trivial⟩ rfl
 ·exact ⟨lR _, ⟨oS, trivial⟩, rfl⟩
noncomputable def L_impl_cellRecords_x51 (a0 : TLibrary) (a1 : TCell) : (ByteArray × Int) → Option ((ByteArray × Int) ⊕ ((ByteArray))) := fun x51 =>
 letO x51.1 fun v49 =>
 letO x51.2 fun v50 =>
 br (std.lt v50 (std.ofN (len a1.fInstances)))
 (req (std.inR v50 (len a1.fInstances)) <|
 req (std.inR (gd a1.fInstances (std.toN v50)).fCell (len a0.fCells)) <|
 (F_impl_nameBytes_mnb ([] : List Int) (gd a0.fCells (std.toN (gd a1.fInstances (std.toN v50)).fCell)).fName).bind fun y65 =>
 (F_impl_placeBytes_mob y65 (gd a1.fInstances (std.toN v50))).bind fun y67 =>
 (F_impl_StreamRecord 5 (std.ofBytes (len y67) (fun i => gd y67 (0 + i)))).bind fun y69 =>
 req (std.room (std.nadd (std.slen v49) (std.slen y69)) 1) <|
 some (.inl (std.scat v49 y69, std.add .i64 v50 1)))
 (some (.inr v49))
noncomputable def L_impl_cellRecords_x29 (a1 : TCell) : (ByteArray × Int) → Option ((ByteArray × Int) ⊕ ((ByteArray))) := fun x29 =>
 letO x29.1 fun v27 =>
 letO x29.2 fun v28 =>
 br (std.lt v28 (std.ofN (len a1.fLabels)))
 (req (std.inR v28 (len a1.fLabels)) <|
 (F_impl_labelBytes_mnb ([] : List Int) (gd a1.fLabels (std.toN v28))).bind fun y42 =>
 (F_impl_StreamRecord 4 (std.ofBytes (len y42) (fun i => gd y42 (0 + i)))).bind fun y44 =>
 req (std.room (std.nadd (std.slen v27) (std.slen y44)) 1) <|
 some (.inl (std.scat v27 y44, std.add .i64 v28 1)))
 (some (.inr v27))
noncomputable def L_impl_cellRecords_x7 (a1 : TCell) : (ByteArray × Int) → Option ((ByteArray × Int) ⊕ ((ByteArray))) := fun x7 =>
 letO x7.1 fun v5 =>
 letO x7.2 fun v6 =>
 br (std.lt v6 (std.ofN (len a1.fShapes)))
 (req (std.inR v6 (len a1.fShapes)) <|
 (F_impl_shapeBytes_mnb ([] : List Int) (gd a1.fShapes (std.toN v6))).bind fun y20 =>
 (F_impl_StreamRecord 3 (std.ofBytes (len y20) (fun i => gd y20 (0 + i)))).bind fun y22 =>
 req (std.room (std.nadd (std.slen v5) (std.slen y22)) 1) <|
 some (.inl (std.scat v5 y22, std.add .i64 v6 1)))
 (some (.inr v5))
/-- impl.cellRecords -/
noncomputable def F_impl_cellRecords (a0 : TLibrary) (a1 : TCell) : Option (ByteArray) :=
 (F_impl_nameBytes_mnb ([] : List Int) a1.fName).bind fun y1 =>
 (F_impl_StreamRecord 2 (std.ofBytes (len y1) (fun i => gd y1 (0 + i)))).bind fun y3 =>
 (whileP (σ := ByteArray × Int) (ρ := (ByteArray)) (L_impl_cellRecords_x7 a1) (y3, 0)).bind fun y8 =>
 letO y8 fun y8k0 =>
 letO y8k0 fun w26 =>
 (whileP (σ := ByteArray × Int) (ρ := (ByteArray)) (L_impl_cellRecords_x29 a1) (w26, 0)).bind fun y30 =>
 letO y30 fun y30k0 =>
 letO y30k0 fun w48 =>
 (whileP (σ := ByteArray × Int) (ρ := (ByteArray)) (L_impl_cellRecords_x51 a0 a1) (w48, 0)).bind fun y52 =>
 letO y52 fun y52k0 =>
 letO y52k0 fun w73 =>
 letO ([std.conv .u8 (std.ofN (len a1.fShapes)), std.conv .u8 (std.ofN (len a1.fLabels)), std.conv .u8 (std.ofN (len a1.fInstances))] : List Int) fun l74 =>
 (F_impl_StreamRecord 6 (std.ofBytes (len l74) (fun i => gd l74 (0 + i)))).bind fun y76 =>
 req (std.room (std.nadd (std.slen w73) (std.slen y76)) 1) <|
 some (std.scat w73 y76)
set_option maxHeartbeats 4000000 in
theorem run_impl_cellRecords (a0 : TLibrary) (a1 : TCell) (r : ByteArray) (h : F_impl_cellRecords a0 a1 = some r) : Fun Try.prog 95 [.agg [.bs (len a0.fCells) 4 (row gd (encCell len gd) a0.fCells)], .agg [.v (.string a1.fName), .bs (len a1.fShapes) 5 (row gd (encShape) a1.fShapes), .bs (len a1.fLabels) 4 (row gd (encLabel) a1.fLabels), .bs (len a1.fInstances) 8 (row gd (encInstance) a1.fInstances)]] [] (.c (.v (.string r))) [] true := by
 refine Fun.of_wp (oneOf []) tok mixed Try.func95 (by kernel_rfl) rfl Try.ntmps95 rfl trivial (fun _ => ⟨trivial, trivial⟩) ?_
 unfold F_impl_cellRecords at h
 unfold L_impl_cellRecords_x7 at h
 unfold L_impl_cellRecords_x29 at h
 unfold L_impl_cellRecords_x51 at h
 have hf_impl_StreamRecord := @run_impl_StreamRecord
 have hf_impl_labelBytes_mnb := @run_impl_labelBytes_mnb
 have hf_impl_nameBytes_mnb := @run_impl_nameBytes_mnb
 have hf_impl_placeBytes_mob := @run_impl_placeBytes_mob
 have hf_impl_shapeBytes_mnb := @run_impl_shapeBytes_mnb
 generalize hLEN : @len = LEN at *
 generalize hGD : @gd = GD at *
 generalize hA : std = A at *
 generalize hP : Try.prog = P at *
 cbv
 replace h := of_bind h
 obtain ⟨y1, hy2, h⟩ := h
 refine ⟨{ args := [.c (.v (.slice none 0 0)), .c (.v (.string a1.fName))], o0 := [], r := .c (.os 64000 0 (LEN y1)), o1 := [(64000, .arr .rw [] (LEN y1) 1 (row GD (encI .u8) y1))], fl := true, σ := [], τ := [(64000, 896)] }, hf_impl_nameBytes_mnb _ _ _ hy2, ⟨les_cons (lR _) (les_cons (lR _) (les_nil)), trivial, rfl, rfl, rfl, rfl, ⟨fun h => absurd (show (64000 : Nat) % 2 = 1 from h) (by decide), trivial⟩, rfl⟩, _, rfl, _, _, rfl, fun _ _ _ _ => .refl _, ?_⟩
 cbv
 refine ⟨fun _ _ => rfl, ?_⟩
 replace h := of_bind h
 obtain ⟨y3, hy4, h⟩ := h
 refine ⟨{ args := [.c (.v (.int .i64 2)), .c (.v (.string (A.ofBytes (LEN y1) (fun i => GD y1 (0 + i)))))], o0 := [], r := .c (.v (.string y3)), o1 := [], fl := true, σ := [], τ := [] }, hf_impl_StreamRecord _ _ _ hy4, ⟨les_cons (lR _) (les_cons (lR _) (les_nil)), trivial, rfl, rfl, rfl, rfl, trivial, rfl⟩, ?_⟩
 cbv
 replace h := of_bind h
 obtain ⟨y8, hr9, hN10⟩ := h
 refine loop_cut hr9 (fun x => (sparse 84 [(2, .c (.ptr 128 0)), (3, .c (.ptr 192 0)), (5, .c (.v (.string x.1))), (18, .c (.bs (LEN a1.fShapes) 5 (row GD (encShape) a1.fShapes))), (19, .c (.v (.int .i64 (A.ofN (LEN a1.fShapes))))), (20, .c (.v (.int .i64 x.2)))] [(128, .var [.bs (LEN a0.fCells) 4 (row GD (encCell LEN GD) a0.fCells)]), (192, .var [.v (.string a1.fName), .bs (LEN a1.fShapes) 5 (row GD (encShape) a1.fShapes), .bs (LEN a1.fLabels) 4 (row GD (encLabel) a1.fLabels), .bs (LEN a1.fInstances) 8 (row GD (encInstance) a1.fInstances)])])) ?_ (fun y e s => (fun (w : ByteArray) => e = .exit 0 ∧ s.le (sparse 84 [(2, .c (.ptr 128 0)), (3, .c (.ptr 192 0)), (5, .c (.v (.string w)))] [(128, .var [.bs (LEN a0.fCells) 4 (row GD (encCell LEN GD) a0.fCells)]), (192, .var [.v (.string a1.fName), .bs (LEN a1.fShapes) 5 (row GD (encShape) a1.fShapes), .bs (LEN a1.fLabels) 4 (row GD (encLabel) a1.fLabels), .bs (LEN a1.fInstances) 8 (row GD (encInstance) a1.fInstances)])])) y) ?_ ?_
 ·clear hr9 hN10
  show St.le _ _
  exact le_sparse rfl ⟨lR _, lR _, lR _, lR _, lR _, lR _, trivial⟩ ⟨rfl, rfl, trivial⟩ rfl
 ·clear hr9 hN10
  intro x z14 h K12 hK13 hY11
  obtain ⟨x0_, x1_⟩ := x
  replace h := of_let h
  obtain ⟨v5, hv5, h⟩ := h
  have hv5 : v5 = x0_ := hv5
  subst hv5
  replace h := of_let h
  obtain ⟨v6, hv6, h⟩ := h
  have hv6 : v6 = x1_ := hv6
  subst hv6
  cbv
  refine fork (fun b25 => ?_) (fun b25 => ?_)
  ·replace h := of_br_t b25 h
   cbv
   replace h := of_req h
   obtain ⟨c19, h⟩ := h
   refine ⟨⟨c19, trivial⟩, ?_⟩
   replace h := of_bind h
   obtain ⟨y20, hy21, h⟩ := h
   refine ⟨{ args := [.c (.v (.slice none 0 0)), .agg [.v (.int .i64 (GD a1.fShapes (A.toN v6)).fLayer), .v (.int .i64 (GD a1.fShapes (A.toN v6)).fBox.fX0), .v (.int .i64 (GD a1.fShapes (A.toN v6)).fBox.fY0), .v (.int .i64 (GD a1.fShapes (A.toN v6)).fBox.fX1), .v (.int .i64 (GD a1.fShapes (A.toN v6)).fBox.fY1)]], o0 := [], r := .c (.os 64000 0 (LEN y20)), o1 := [(64000, .arr .rw [] (LEN y20) 1 (row GD (encI .u8) y20))], fl := true, σ := [], τ := [(64000, 1664)] }, hf_impl_shapeBytes_mnb _ _ _ hy21, ⟨les_cons (lR _) (les_cons (lR _) (les_nil)), trivial, rfl, rfl, rfl, rfl, ⟨fun h => absurd (show (64000 : Nat) % 2 = 1 from h) (by decide), trivial⟩, rfl⟩, _, rfl, _, _, rfl, fun _ _ _ _ => .refl _, ?_⟩
   cbv
   refine ⟨fun _ _ => rfl, ?_⟩
   replace h := of_bind h
   obtain ⟨y22, hy23, h⟩ := h
   refine ⟨{ args := [.c (.v (.int .i64 3)), .c (.v (.string (A.ofBytes (LEN y20) (fun i => GD y20 (0 + i)))))], o0 := [], r := .c (.v (.string y22)), o1 := [], fl := true, σ := [], τ := [] }, hf_impl_StreamRecord _ _ _ hy23, ⟨les_cons (lR _) (les_cons (lR _) (les_nil)), trivial, rfl, rfl, rfl, rfl, trivial, rfl⟩, ?_⟩
   cbv
   replace h := of_req h
   obtain ⟨c24, h⟩ := h
   refine ⟨c24, ?_⟩
   injection h with h
   refine hK13 _ h.symm _ ?_
   exact le_sparse rfl ⟨lR _, lR _, lR _, lR _, lR _, lR _, trivial⟩ ⟨rfl, rfl, trivial⟩ rfl
  ·replace h := of_br_f b25 h
   cbv
   injection h with h
   refine hY11 _ h.symm _ _ (And.intro rfl ?_) (by intro hh; cases hh)
   exact le_sparse rfl ⟨lR _, lR _, lR _, trivial⟩ ⟨rfl, rfl, trivial⟩ rfl
 ·clear hr9
  have h := hN10
  clear hN10
  intro e17 s18 q16 hne
  replace h := of_let h
  obtain ⟨y8k0, hyk, h⟩ := h
  have hyk : y8k0 = y8 := hyk
  subst hyk
  obtain ⟨rfl, q16⟩ := q16
  replace h := of_let h
  obtain ⟨w26, hw26, h⟩ := h
  have hw26 : w26 = y8k0 := hw26
  subst hw26
  cbv
  refine ⟨_, q16, ?_⟩
  cbv
  replace h := of_bind h
  obtain ⟨y30, hr31, hN32⟩ := h
  refine loop_cut hr31 (fun x => (sparse 84 [(2, .c (.ptr 128 0)), (3, .c (.ptr 192 0)), (5, .c (.v (.string x.1))), (32, .c (.bs (LEN a1.fLabels) 4 (row GD (encLabel) a1.fLabels))), (33, .c (.v (.int .i64 (A.ofN (LEN a1.fLabels))))), (34, .c (.v (.int .i64 x.2)))] [(128, .var [.bs (LEN a0.fCells) 4 (row GD (encCell LEN GD) a0.fCells)]), (192, .var [.v (.string a1.fName), .bs (LEN a1.fShapes) 5 (row GD (encShape) a1.fShapes), .bs (LEN a1.fLabels) 4 (row GD (encLabel) a1.fLabels), .bs (LEN a1.fInstances) 8 (row GD (encInstance) a1.fInstances)])])) ?_ (fun y e s => (fun (w : ByteArray) => e = .exit 2 ∧ s.le (sparse 84 [(2, .c (.ptr 128 0)), (3, .c (.ptr 192 0)), (5, .c (.v (.string w)))] [(128, .var [.bs (LEN a0.fCells) 4 (row GD (encCell LEN GD) a0.fCells)]), (192, .var [.v (.string a1.fName), .bs (LEN a1.fShapes) 5 (row GD (encShape) a1.fShapes), .bs (LEN a1.fLabels) 4 (row GD (encLabel) a1.fLabels), .bs (LEN a1.fInstances) 8 (row GD (encInstance) a1.fInstances)])])) y) ?_ ?_
  ·clear hr31 hN32
   show St.le _ _
   exact le_sparse rfl ⟨lR _, lR _, lR _, lR _, lR _, lR _, trivial⟩ ⟨rfl, rfl, trivial⟩ rfl
  ·clear hr31 hN32
   intro x z36 h K34 hK35 hY33
   obtain ⟨x0_, x1_⟩ := x
   replace h := of_let h
   obtain ⟨v27, hv27, h⟩ := h
   have hv27 : v27 = x0_ := hv27
   subst hv27
   replace h := of_let h
   obtain ⟨v28, hv28, h⟩ := h
   have hv28 : v28 = x1_ := hv28
   subst hv28
   cbv
   refine fork (fun b47 => ?_) (fun b47 => ?_)
   ·replace h := of_br_t b47 h
    cbv
    replace h := of_req h
    obtain ⟨c41, h⟩ := h
    refine ⟨⟨c41, trivial⟩, ?_⟩
    replace h := of_bind h
    obtain ⟨y42, hy43, h⟩ := h
    refine ⟨{ args := [.c (.v (.slice none 0 0)), .agg [.v (.int .i64 (GD a1.fLabels (A.toN v28)).fLayer), .v (.int .i64 (GD a1.fLabels (A.toN v28)).fAt.fX), .v (.int .i64 (GD a1.fLabels (A.toN v28)).fAt.fY), .v (.string (GD a1.fLabels (A.toN v28)).fName)]], o0 := [], r := .c (.os 64000 0 (LEN y42)), o1 := [(64000, .arr .rw [] (LEN y42) 1 (row GD (encI .u8) y42))], fl := true, σ := [], τ := [(64000, 2560)] }, hf_impl_labelBytes_mnb _ _ _ hy43, ⟨les_cons (lR _) (les_cons (lR _) (les_nil)), trivial, rfl, rfl, rfl, rfl, ⟨fun h => absurd (show (64000 : Nat) % 2 = 1 from h) (by decide), trivial⟩, rfl⟩, _, rfl, _, _, rfl, fun _ _ _ _ => .refl _, ?_⟩
    cbv
    refine ⟨fun _ _ => rfl, ?_⟩
    replace h := of_bind h
    obtain ⟨y44, hy45, h⟩ := h
    refine ⟨{ args := [.c (.v (.int .i64 4)), .c (.v (.string (A.ofBytes (LEN y42) (fun i => GD y42 (0 + i)))))], o0 := [], r := .c (.v (.string y44)), o1 := [], fl := true, σ := [], τ := [] }, hf_impl_StreamRecord _ _ _ hy45, ⟨les_cons (lR _) (les_cons (lR _) (les_nil)), trivial, rfl, rfl, rfl, rfl, trivial, rfl⟩, ?_⟩
    cbv
    replace h := of_req h
    obtain ⟨c46, h⟩ := h
    refine ⟨c46, ?_⟩
    injection h with h
    refine hK35 _ h.symm _ ?_
    exact le_sparse rfl ⟨lR _, lR _, lR _, lR _, lR _, lR _, trivial⟩ ⟨rfl, rfl, trivial⟩ rfl
   ·replace h := of_br_f b47 h
    cbv
    injection h with h
    refine hY33 _ h.symm _ _ (And.intro rfl ?_) (by intro hh; cases hh)
    exact le_sparse rfl ⟨lR _, lR _, lR _, trivial⟩ ⟨rfl, rfl, trivial⟩ rfl
  ·clear hr31
   have h := hN32
   clear hN32
   intro e39 s40 q38 hne
   replace h := of_let h
   obtain ⟨y30k0, hyk, h⟩ := h
   have hyk : y30k0 = y30 := hyk
   subst hyk
   obtain ⟨rfl, q38⟩ := q38
   replace h := of_let h
   obtain ⟨w48, hw48, h⟩ := h
   have hw48 : w48 = y30k0 := hw48
   subst hw48
   cbv
   refine ⟨_, q38, ?_⟩
   cbv
   replace h := of_bind h
   obtain ⟨y52, hr53, hN54⟩ := h
   refine loop_cut hr53 (fun x => (sparse 84 [(2, .c (.ptr 128 0)), (3, .c (.ptr 192 0)), (5, .c (.v (.string x.1))), (46, .c (.bs (LEN a1.fInstances) 8 (row GD (encInstance) a1.fInstances))), (47, .c (.v (.int .i64 (A.ofN (LEN a1.fInstances))))), (48, .c (.v (.int .i64 x.2)))] [(128, .var [.bs (LEN a0.fCells) 4 (row GD (encCell LEN GD) a0.fCells)]), (192, .var [.v (.string a1.fName), .bs (LEN a1.fShapes) 5 (row GD (encShape) a1.fShapes), .bs (LEN a1.fLabels) 4 (row GD (encLabel) a1.fLabels), .bs (LEN a1.fInstances) 8 (row GD (encInstance) a1.fInstances)])])) ?_ (fun y e s => (fun (w : ByteArray) => e = .exit 4 ∧ s.le (sparse 84 [(3, .c (.ptr 192 0)), (5, .c (.v (.string w)))] [(192, .var [.v (.string a1.fName), .bs (LEN a1.fShapes) 5 (row GD (encShape) a1.fShapes), .bs (LEN a1.fLabels) 4 (row GD (encLabel) a1.fLabels), .bs (LEN a1.fInstances) 8 (row GD (encInstance) a1.fInstances)])])) y) ?_ ?_
   ·clear hr53 hN54
    show St.le _ _
    exact le_sparse rfl ⟨lR _, lR _, lR _, lR _, lR _, lR _, trivial⟩ ⟨rfl, rfl, trivial⟩ rfl
   ·clear hr53 hN54
    intro x z58 h K56 hK57 hY55
    obtain ⟨x0_, x1_⟩ := x
    replace h := of_let h
    obtain ⟨v49, hv49, h⟩ := h
    have hv49 : v49 = x0_ := hv49
    subst hv49
    replace h := of_let h
    obtain ⟨v50, hv50, h⟩ := h
    have hv50 : v50 = x1_ := hv50
    subst hv50
    cbv
    refine fork (fun b72 => ?_) (fun b72 => ?_)
    ·replace h := of_br_t b72 h
     cbv
     replace h := of_req h
     obtain ⟨c63, h⟩ := h
     refine ⟨⟨c63, trivial⟩, ?_⟩
     replace h := of_req h
     obtain ⟨c64, h⟩ := h
     refine ⟨⟨c64, trivial⟩, ?_⟩
     replace h := of_bind h
     obtain ⟨y65, hy66, h⟩ := h
     refine ⟨{ args := [.c (.v (.slice none 0 0)), .c (.v (.string (GD a0.fCells (A.toN (GD a1.fInstances (A.toN v50)).fCell)).fName))], o0 := [], r := .c (.os 64000 0 (LEN y65)), o1 := [(64000, .arr .rw [] (LEN y65) 1 (row GD (encI .u8) y65))], fl := true, σ := [], τ := [(64000, 3840)] }, hf_impl_nameBytes_mnb _ _ _ hy66, ⟨les_cons (lR _) (les_cons (lR _) (les_nil)), trivial, rfl, rfl, rfl, rfl, ⟨fun h => absurd (show (64000 : Nat) % 2 = 1 from h) (by decide), trivial⟩, rfl⟩, _, rfl, _, _, rfl, fun _ _ _ _ => .refl _, ?_⟩
     cbv
     replace h := of_bind h
     obtain ⟨y67, hy68, h⟩ := h
     refine ⟨{ args := [.c (.os 5 0 (LEN y65)), .agg [.v (.int .i64 (GD a1.fInstances (A.toN v50)).fCell), .v (.int .i64 (GD a1.fInstances (A.toN v50)).fPlace.fOrientation), .v (.int .i64 (GD a1.fInstances (A.toN v50)).fPlace.fX), .v (.int .i64 (GD a1.fInstances (A.toN v50)).fPlace.fY), .v (.int .i64 (GD a1.fInstances (A.toN v50)).fColumns), .v (.int .i64 (GD a1.fInstances (A.toN v50)).fRows), .v (.int .i64 (GD a1.fInstances (A.toN v50)).fStepX), .v (.int .i64 (GD a1.fInstances (A.toN v50)).fStepY)]], o0 := [(5, .arr .rw [] (LEN y65) 1 (row GD (encI .u8) y65))], r := .c (.os 64000 0 (LEN y67)), o1 := [(64000, .arr .rw [] (LEN y67) 1 (row GD (encI .u8) y67))], fl := true, σ := [(5, 3840)], τ := [(64000, 3968)] }, hf_impl_placeBytes_mob _ _ _ hy68, ⟨les_cons (lR _) (les_cons (lR _) (les_nil)), ⟨oS, trivial⟩, rfl, rfl, rfl, rfl, ⟨fun h => absurd (show (64000 : Nat) % 2 = 1 from h) (by decide), trivial⟩, rfl⟩, _, rfl, _, _, rfl, fun _ _ _ _ => .refl _, ?_⟩
     cbv
     refine ⟨fun _ _ => rfl, ?_⟩
     replace h := of_bind h
     obtain ⟨y69, hy70, h⟩ := h
     refine ⟨{ args := [.c (.v (.int .i64 5)), .c (.v (.string (A.ofBytes (LEN y67) (fun i => GD y67 (0 + i)))))], o0 := [], r := .c (.v (.string y69)), o1 := [], fl := true, σ := [], τ := [] }, hf_impl_StreamRecord _ _ _ hy70, ⟨les_cons (lR _) (les_cons (lR _) (les_nil)), trivial, rfl, rfl, rfl, rfl, trivial, rfl⟩, ?_⟩
     cbv
     replace h := of_req h
     obtain ⟨c71, h⟩ := h
     refine ⟨c71, ?_⟩
     injection h with h
     refine hK57 _ h.symm _ ?_
     exact le_sparse rfl ⟨lR _, lR _, lR _, lR _, lR _, lR _, trivial⟩ ⟨rfl, rfl, trivial⟩ rfl
    ·replace h := of_br_f b72 h
     cbv
     injection h with h
     refine hY55 _ h.symm _ _ (And.intro rfl ?_) (by intro hh; cases hh)
     exact le_sparse rfl ⟨lR _, lR _, trivial⟩ ⟨rfl, trivial⟩ rfl
   ·clear hr53
    have h := hN54
    clear hN54
    intro e61 s62 q60 hne
    replace h := of_let h
    obtain ⟨y52k0, hyk, h⟩ := h
    have hyk : y52k0 = y52 := hyk
    subst hyk
    obtain ⟨rfl, q60⟩ := q60
    replace h := of_let h
    obtain ⟨w73, hw73, h⟩ := h
    have hw73 : w73 = y52k0 := hw73
    subst hw73
    cbv
    refine ⟨_, q60, ?_⟩
    cbv
    replace h := of_let h
    obtain ⟨l74, hl74, h⟩ := h
    have e75 : 3 = LEN l74 := by subst hl74 hLEN; rfl
    refine ⟨_, congrArg (fun n => AV.c (AC.os 5120 0 n)) e75, _, row GD (encI .u8) l74, e75, wkOf ?_, ?_⟩
    ·intro i hi j hj
     rw [← e75] at hi
     subst hl74
     subst hGD
     obtain rfl | rfl | rfl : i = 0 ∨ i = 1 ∨ i = 2 := (by omega)
     all_goals obtain rfl : j = 0 := by omega
     all_goals rfl
    cbv
    refine ⟨fun _ _ => rfl, ?_⟩
    replace h := of_bind h
    obtain ⟨y76, hy77, h⟩ := h
    refine ⟨{ args := [.c (.v (.int .i64 6)), .c (.v (.string (A.ofBytes (LEN l74) (fun i => GD l74 (0 + i)))))], o0 := [], r := .c (.v (.string y76)), o1 := [], fl := true, σ := [], τ := [] }, hf_impl_StreamRecord _ _ _ hy77, ⟨les_cons (lR _) (les_cons (lR _) (les_nil)), trivial, rfl, rfl, rfl, rfl, trivial, rfl⟩, ?_⟩
    cbv
    replace h := of_req h
    obtain ⟨c78, h⟩ := h
    refine ⟨c78, ?_⟩
    injection h with h
    subst h
    refine ⟨(sparse 84 [(4, .c (.v (.string (A.scat w73 y76))))] []), ?_, ?_⟩
    ·exact le_sparse rfl ⟨lR _, trivial⟩ trivial rfl
    ·exact ⟨lR _, trivial, rfl⟩

noncomputable def L_impl_LibraryStream_x9 (a0 : TLibrary) : (ByteArray × Int) → Option ((ByteArray × Int) ⊕ ((ByteArray))) := fun x9 =>
 letO x9.1 fun v7 =>
 letO x9.2 fun v8 =>
 br (std.lt v8 (std.ofN (len a0.fCells)))
 (req (std.inR v8 (len a0.fCells)) <|
 (F_impl_cellRecords a0 (gd a0.fCells (std.toN v8))).bind fun y22 =>
 req (std.room (std.nadd (std.slen v7) (std.slen y22)) 1) <|
 some (.inl (std.scat v7 y22, std.add .i64 v8 1)))
 (some (.inr v7))
/-- impl.LibraryStream -/
noncomputable def F_impl_LibraryStream (a0 : TLibrary) : Option (ByteArray) :=
 (F_impl_IsValidLibrary a0).bind fun y1 =>
 br (!(y1))
 (some (ByteArray.mk #[]))
 (letO ([1, std.conv .u8 (std.ofN (len a0.fCells))] : List Int) fun l3 =>
 (F_impl_StreamRecord 1 (std.ofBytes (len l3) (fun i => gd l3 (0 + i)))).bind fun y5 =>
 (whileP (σ := ByteArray × Int) (ρ := (ByteArray)) (L_impl_LibraryStream_x9 a0) (y5, 0)).bind fun y10 =>
 letO y10 fun y10k0 =>
 letO y10k0 fun w26 =>
 (F_impl_Checksum16 w26).bind fun y27 =>
 (F_impl_two_mnb ([] : List Int) y27).bind fun y29 =>
 (F_impl_StreamRecord 7 (std.ofBytes (len y29) (fun i => gd y29 (0 + i)))).bind fun y31 =>
 req (std.room (std.nadd (std.slen w26) (std.slen y31)) 1) <|
 some (std.scat w26 y31))
set_option maxHeartbeats 4000000 in
theorem run_impl_LibraryStream (a0 : TLibrary) (r : ByteArray) (h : F_impl_LibraryStream a0 = some r) : Fun Try.prog 34 [.agg [.bs (len a0.fCells) 4 (row gd (encCell len gd) a0.fCells)]] [] (.c (.v (.string r))) [] true := by
 refine Fun.of_wp (oneOf []) tok mixed Try.func34 (by kernel_rfl) rfl Try.ntmps34 rfl trivial (fun _ => ⟨trivial, trivial⟩) ?_
 unfold F_impl_LibraryStream at h
 unfold L_impl_LibraryStream_x9 at h
 have hf_impl_Checksum16 := @run_impl_Checksum16
 have hf_impl_IsValidLibrary := @run_impl_IsValidLibrary
 have hf_impl_StreamRecord := @run_impl_StreamRecord
 have hf_impl_cellRecords := @run_impl_cellRecords
 have hf_impl_two_mnb := @run_impl_two_mnb
 generalize hLEN : @len = LEN at *
 generalize hGD : @gd = GD at *
 generalize hA : std = A at *
 generalize hP : Try.prog = P at *
 cbv
 replace h := of_bind h
 obtain ⟨y1, hy2, h⟩ := h
 refine ⟨{ args := [.agg [.bs (LEN a0.fCells) 4 (row GD (encCell LEN GD) a0.fCells)]], o0 := [], r := .c (.v (.bool y1)), o1 := [], fl := true, σ := [], τ := [] }, hf_impl_IsValidLibrary _ _ hy2, ⟨les_cons (lR _) (les_nil), trivial, rfl, rfl, rfl, rfl, trivial, rfl⟩, ?_⟩
 cbv
 refine fork (fun b34 => ?_) (fun b34 => ?_)
 ·replace h := of_br_t b34 h
  cbv
  injection h with h
  subst h
  refine ⟨(sparse 36 [(2, .c (.v (.string (ByteArray.mk #[]))))] []), ?_, ?_⟩
  ·exact le_sparse rfl ⟨lR _, trivial⟩ trivial rfl
  ·exact ⟨lR _, trivial, rfl⟩
 ·replace h := of_br_f b34 h
  cbv
  replace h := of_let h
  obtain ⟨l3, hl3, h⟩ := h
  have e4 : 2 = LEN l3 := by subst hl3 hLEN; rfl
  refine ⟨_, congrArg (fun n => AV.c (AC.os 832 0 n)) e4, _, row GD (encI .u8) l3, e4, wkOf ?_, ?_⟩
  ·intro i hi j hj
   rw [← e4] at hi
   subst hl3
   subst hGD
   obtain rfl | rfl : i = 0 ∨ i = 1 := (by omega)
   all_goals obtain rfl : j = 0 := by omega
   all_goals rfl
  cbv
  refine ⟨fun _ _ => rfl, ?_⟩
  replace h := of_bind h
  obtain ⟨y5, hy6, h⟩ := h
  refine ⟨{ args := [.c (.v (.int .i64 1)), .c (.v (.string (A.ofBytes (LEN l3) (fun i => GD l3 (0 + i)))))], o0 := [], r := .c (.v (.string y5)), o1 := [], fl := true, σ := [], τ := [] }, hf_impl_StreamRecord _ _ _ hy6, ⟨les_cons (lR _) (les_cons (lR _) (les_nil)), trivial, rfl, rfl, rfl, rfl, trivial, rfl⟩, ?_⟩
  cbv
  replace h := of_bind h
  obtain ⟨y10, hr11, hN12⟩ := h
  refine loop_cut hr11 (fun x => (sparse 36 [(1, .c (.ptr 64 0)), (3, .c (.v (.string x.1))), (17, .c (.bs (LEN a0.fCells) 4 (row GD (encCell LEN GD) a0.fCells))), (18, .c (.v (.int .i64 (A.ofN (LEN a0.fCells))))), (19, .c (.v (.int .i64 x.2)))] [(64, .var [.bs (LEN a0.fCells) 4 (row GD (encCell LEN GD) a0.fCells)])])) ?_ (fun y e s => (fun (w : ByteArray) => e = .exit 0 ∧ s.le (sparse 36 [(3, .c (.v (.string w)))] [])) y) ?_ ?_
  ·clear hr11 hN12
   show St.le _ _
   exact le_sparse rfl ⟨lR _, lR _, lR _, lR _, lR _, trivial⟩ ⟨rfl, trivial⟩ rfl
  ·clear hr11 hN12
   intro x z16 h K14 hK15 hY13
   obtain ⟨x0_, x1_⟩ := x
   replace h := of_let h
   obtain ⟨v7, hv7, h⟩ := h
   have hv7 : v7 = x0_ := hv7
   subst hv7
   replace h := of_let h
   obtain ⟨v8, hv8, h⟩ := h
   have hv8 : v8 = x1_ := hv8
   subst hv8
   cbv
   refine fork (fun b25 => ?_) (fun b25 => ?_)
   ·replace h := of_br_t b25 h
    cbv
    replace h := of_req h
    obtain ⟨c21, h⟩ := h
    refine ⟨⟨c21, trivial⟩, ?_⟩
    replace h := of_bind h
    obtain ⟨y22, hy23, h⟩ := h
    refine ⟨{ args := [.agg [.bs (LEN a0.fCells) 4 (row GD (encCell LEN GD) a0.fCells)], .agg [.v (.string (GD a0.fCells (A.toN v8)).fName), .bs (LEN (GD a0.fCells (A.toN v8)).fShapes) 5 (row GD (encShape) (GD a0.fCells (A.toN v8)).fShapes), .bs (LEN (GD a0.fCells (A.toN v8)).fLabels) 4 (row GD (encLabel) (GD a0.fCells (A.toN v8)).fLabels), .bs (LEN (GD a0.fCells (A.toN v8)).fInstances) 8 (row GD (encInstance) (GD a0.fCells (A.toN v8)).fInstances)]], o0 := [], r := .c (.v (.string y22)), o1 := [], fl := true, σ := [], τ := [] }, hf_impl_cellRecords _ _ _ hy23, ⟨les_cons (lR _) (les_cons (lR _) (les_nil)), trivial, rfl, rfl, rfl, rfl, trivial, rfl⟩, ?_⟩
    cbv
    replace h := of_req h
    obtain ⟨c24, h⟩ := h
    refine ⟨c24, ?_⟩
    injection h with h
    refine hK15 _ h.symm _ ?_
    exact le_sparse rfl ⟨lR _, lR _, lR _, lR _, lR _, trivial⟩ ⟨rfl, trivial⟩ rfl
   ·replace h := of_br_f b25 h
    cbv
    injection h with h
    refine hY13 _ h.symm _ _ (And.intro rfl ?_) (by intro hh; cases hh)
    exact le_sparse rfl ⟨lR _, trivial⟩ trivial rfl
  ·clear hr11
   have h := hN12
   clear hN12
   intro e19 s20 q18 hne
   replace h := of_let h
   obtain ⟨y10k0, hyk, h⟩ := h
   have hyk : y10k0 = y10 := hyk
   subst hyk
   obtain ⟨rfl, q18⟩ := q18
   replace h := of_let h
   obtain ⟨w26, hw26, h⟩ := h
   have hw26 : w26 = y10k0 := hw26
   subst hw26
   cbv
   refine ⟨_, q18, ?_⟩
   cbv
   replace h := of_bind h
   obtain ⟨y27, hy28, h⟩ := h
   refine ⟨{ args := [.c (.v (.string w26))], o0 := [], r := .c (.v (.int .i64 y27)), o1 := [], fl := true, σ := [], τ := [] }, hf_impl_Checksum16 _ _ hy28, ⟨les_cons (lR _) (les_nil), trivial, rfl, rfl, rfl, rfl, trivial, rfl⟩, ?_⟩
   cbv
   replace h := of_bind h
   obtain ⟨y29, hy30, h⟩ := h
   refine ⟨{ args := [.c (.v (.slice none 0 0)), .c (.v (.int .i64 y27))], o0 := [], r := .c (.os 64000 0 (LEN y29)), o1 := [(64000, .arr .rw [] (LEN y29) 1 (row GD (encI .u8) y29))], fl := true, σ := [], τ := [(64000, 2048)] }, hf_impl_two_mnb _ _ _ hy30, ⟨les_cons (lR _) (les_cons (lR _) (les_nil)), trivial, rfl, rfl, rfl, rfl, ⟨fun h => absurd (show (64000 : Nat) % 2 = 1 from h) (by decide), trivial⟩, rfl⟩, _, rfl, _, _, rfl, fun _ _ _ _ => .refl _, ?_⟩
   cbv
   refine ⟨fun _ _ => rfl, ?_⟩
   replace h := of_bind h
   obtain ⟨y31, hy32, h⟩ := h
   refine ⟨{ args := [.c (.v (.int .i64 7)), .c (.v (.string (A.ofBytes (LEN y29) (fun i => GD y29 (0 + i)))))], o0 := [], r := .c (.v (.string y31)), o1 := [], fl := true, σ := [], τ := [] }, hf_impl_StreamRecord _ _ _ hy32, ⟨les_cons (lR _) (les_cons (lR _) (les_nil)), trivial, rfl, rfl, rfl, rfl, trivial, rfl⟩, ?_⟩
   cbv
   replace h := of_req h
   obtain ⟨c33, h⟩ := h
   refine ⟨c33, ?_⟩
   injection h with h
   subst h
   refine ⟨(sparse 36 [(2, .c (.v (.string (A.scat w26 y31))))] []), ?_, ?_⟩
   ·exact le_sparse rfl ⟨lR _, trivial⟩ trivial rfl
   ·exact ⟨lR _, trivial, rfl⟩

noncomputable def L_laws_roll_x3 (a0 : List Int) : (Int × Int) → Option ((Int × Int) ⊕ ((Int))) := fun x3 =>
 letO x3.1 fun v1 =>
 letO x3.2 fun v2 =>
 br (std.lt v1 (std.ofN (len a0)))
 (req (std.inR v1 (len a0)) <|
 some (.inl (std.add .i64 v1 1, std.add .u64 (std.add .u64 (std.mul .u64 v2 1099511628211) (std.conv .u64 (gd a0 (std.toN v1)))) 3)))
 (some (.inr v2))
/-- laws.roll -/
noncomputable def F_laws_roll (a0 : List Int) (a1 : Int) : Option (Tdice) :=
 (whileP (σ := Int × Int) (ρ := (Int)) (L_laws_roll_x3 a0) (0, std.add .u64 (std.mul .u64 a1 7919) (std.conv .u64 (std.ofN (len a0))))).bind fun y4 =>
 letO y4 fun y4k0 =>
 letO y4k0 fun w17 =>
 some (Tdice.mk a0 0 w17)
set_option maxHeartbeats 4000000 in
theorem run_laws_roll (a0 : List Int) (a1 : Int) (r : Tdice) (h : F_laws_roll a0 a1 = some r) : Fun Try.prog 42 [.c (.bs (len a0) 1 (row gd (encI .u8) a0)), .c (.v (.int .u64 a1))] [] (.c (.ptr 64000 0)) [(64000, .var [.bs (len r.gb) 1 (row gd (encI .u8) r.gb), .v (.int .i64 r.gi), .v (.int .u64 r.gh)])] false := by
 refine Fun.of_wp (oneOf []) tok mixed Try.func42 (by kernel_rfl) rfl Try.ntmps42 rfl trivial (fun h => by cases h) ?_
 unfold F_laws_roll at h
 unfold L_laws_roll_x3 at h
 generalize hLEN : @len = LEN at *
 generalize hGD : @gd = GD at *
 generalize hA : std = A at *
 generalize hP : Try.prog = P at *
 cbv
 replace h := of_bind h
 obtain ⟨y4, hr5, hN6⟩ := h
 refine loop_cut hr5 (fun x => (sparse 38 [(0, .c (.bs (LEN a0) 1 (row GD (encI .u8) a0))), (5, .c (.ptr 960 0)), (6, .c (.v (.int .i64 x.1)))] [(960, .var [.bs (LEN a0) 1 (row GD (encI .u8) a0), .v (.int .i64 0), .v (.int .u64 x.2)])])) ?_ (fun y e s => (fun (w : Int) => e = .exit 0 ∧ s.le (sparse 38 [(5, .c (.ptr 960 0))] [(960, .var [.bs (LEN a0) 1 (row GD (encI .u8) a0), .v (.int .i64 0), .v (.int .u64 w)])])) y) ?_ ?_
 ·clear hr5 hN6
  show St.le _ _
  exact le_sparse rfl ⟨lR _, lR _, lR _, trivial⟩ ⟨rfl, trivial⟩ rfl
 ·clear hr5 hN6
  intro x z10 h K8 hK9 hY7
  obtain ⟨x0_, x1_⟩ := x
  replace h := of_let h
  obtain ⟨v1, hv1, h⟩ := h
  have hv1 : v1 = x0_ := hv1
  subst hv1
  replace h := of_let h
  obtain ⟨v2, hv2, h⟩ := h
  have hv2 : v2 = x1_ := hv2
  subst hv2
  cbv
  refine fork (fun b16 => ?_) (fun b16 => ?_)
  ·replace h := of_br_t b16 h
   cbv
   replace h := of_req h
   obtain ⟨c15, h⟩ := h
   refine ⟨⟨c15, trivial⟩, ?_⟩
   injection h with h
   refine hK9 _ h.symm _ ?_
   exact le_sparse rfl ⟨lR _, lR _, lR _, trivial⟩ ⟨rfl, trivial⟩ rfl
  ·replace h := of_br_f b16 h
   cbv
   injection h with h
   refine hY7 _ h.symm _ _ (And.intro rfl ?_) (by intro hh; cases hh)
   exact le_sparse rfl ⟨lR _, trivial⟩ ⟨rfl, trivial⟩ rfl
 ·clear hr5
  have h := hN6
  clear hN6
  intro e13 s14 q12 hne
  replace h := of_let h
  obtain ⟨y4k0, hyk, h⟩ := h
  have hyk : y4k0 = y4 := hyk
  subst hyk
  obtain ⟨rfl, q12⟩ := q12
  replace h := of_let h
  obtain ⟨w17, hw17, h⟩ := h
  have hw17 : w17 = y4k0 := hw17
  subst hw17
  cbv
  refine ⟨_, q12, ?_⟩
  cbv
  injection h with h
  subst h
  refine ⟨(sparse 38 [(4, .c (.ptr 64000 0))] [(64000, .var [.bs (LEN a0) 1 (row GD (encI .u8) a0), .v (.int .i64 0), .v (.int .u64 w17)])]), ?_, ?_⟩
  ·refine St.le_trans (le_ren 960 64000 (by decide) rfl) ?_
   exact le_sparse rfl ⟨lR _, trivial⟩ ⟨rfl, trivial⟩ rfl
  ·exact ⟨lR _, ⟨rfl, trivial⟩, rfl⟩

/-- laws.dice).below -/
noncomputable def F_laws_dice_below_mPbb (a0 : Tdice) (a1 : Int) : Option (Int × Tdice) :=
 req (std.nneg 33) <|
 ((
    br (std.lt a0.gi (std.ofN (len a0.gb)))
    (req (std.inR a0.gi (len a0.gb)) <|
    some (std.add .i64 (std.conv .i64 (std.bitand .u64 (std.shr .u64 (std.add .u64 (std.mul .u64 a0.gh 6364136223846793005) 1442695040888963407) 33) 16777215)) (std.conv .i64 (gd a0.gb (std.toN a0.gi))), std.add .i64 a0.gi 1))
    (some (std.conv .i64 (std.bitand .u64 (std.shr .u64 (std.add .u64 (std.mul .u64 a0.gh 6364136223846793005) 1442695040888963407) 33) 16777215), a0.gi))
  ) : Option (Int × Int)).bind fun y2 =>
 letO y2.1 fun w8 =>
 letO y2.2 fun w9 =>
 req (std.nz a1) <|
 some (std.rem w8 a1, (Tdice.mk a0.gb w9 (std.add .u64 (std.mul .u64 a0.gh 6364136223846793005) 1442695040888963407)))
set_option maxHeartbeats 4000000 in
theorem run_laws_dice_below_mPbb (a0 : Tdice) (a1 : Int) (r : Int × Tdice) (h : F_laws_dice_below_mPbb a0 a1 = some r) : Fun Try.prog 43 [.c (.ptr 5 0), .c (.v (.int .i64 a1))] [(5, .var [.bs (len a0.gb) 1 (row gd (encI .u8) a0.gb), .v (.int .i64 a0.gi), .v (.int .u64 a0.gh)])] (.c (.v (.int .i64 r.1))) [(5, .var [.bs (len r.2.gb) 1 (row gd (encI .u8) r.2.gb), .v (.int .i64 r.2.gi), .v (.int .u64 r.2.gh)])] false := by
 refine Fun.of_wp (oneOf [100031]) tok mixed Try.func43 (by kernel_rfl) rfl Try.ntmps43 rfl trivial (fun h => by cases h) ?_
 unfold F_laws_dice_below_mPbb at h
 generalize hLEN : @len = LEN at *
 generalize hGD : @gd = GD at *
 generalize hA : std = A at *
 generalize hP : Try.prog = P at *
 cbv
 replace h := of_req h
 obtain ⟨c1, h⟩ := h
 refine ⟨c1, ?_⟩
 replace h := of_bind h
 obtain ⟨y2, hy3, h⟩ := h
 obtain ⟨S6, hS7⟩ : ∃ S, S = some (sparse 56 [(1, .c (.v (.int .i64 a1))), (5, .c (.v (.int .i64 y2.1)))] [(5, .var [.bs (LEN a0.gb) 1 (row GD (encI .u8) a0.gb), .v (.int .i64 y2.2), .v (.int .u64 (A.add .u64 (A.mul .u64 a0.gh 6364136223846793005) 1442695040888963407))])]) := ⟨_, rfl⟩
 refine ⟨S6, ?_, ?_⟩
 ·clear h
  have h := hy3
  clear hy3
  cbv
  refine fork (fun b11 => ?_) (fun b11 => ?_)
  ·replace h := of_br_t b11 h
   cbv
   replace h := of_req h
   obtain ⟨c10, h⟩ := h
   refine ⟨⟨c10, trivial⟩, ?_⟩
   injection h with h
   subst h
   subst hS7
   show St.le _ _
   exact le_sparse rfl ⟨lR _, lR _, trivial⟩ ⟨rfl, trivial⟩ rfl
  ·replace h := of_br_f b11 h
   cbv
   injection h with h
   subst h
   subst hS7
   show St.le _ _
   exact le_sparse rfl ⟨lR _, lR _, trivial⟩ ⟨rfl, trivial⟩ rfl
 ·clear hy3
  subst hS7
  obtain ⟨y2_0, y2_1⟩ := y2
  replace h := of_let h
  obtain ⟨w8, hw8, h⟩ := h
  have hw8 : w8 = y2_0 := hw8
  subst hw8
  replace h := of_let h
  obtain ⟨w9, hw9, h⟩ := h
  have hw9 : w9 = y2_1 := hw9
  subst hw9
  cbv
  replace h := of_req h
  obtain ⟨c12, h⟩ := h
  refine ⟨c12, ?_⟩
  injection h with h
  subst h
  refine ⟨(sparse 56 [(4, .c (.v (.int .i64 (A.rem w8 a1))))] [(5, .var [.bs (LEN a0.gb) 1 (row GD (encI .u8) a0.gb), .v (.int .i64 w9), .v (.int .u64 (A.add .u64 (A.mul .u64 a0.gh 6364136223846793005) 1442695040888963407))])]), ?_, ?_⟩
  ·exact le_sparse rfl ⟨lR _, trivial⟩ ⟨rfl, trivial⟩ rfl
  ·exact ⟨lR _, ⟨rfl, trivial⟩, rfl⟩

/-- spec.l09Has -/
noncomputable def F_spec_l09Has (a0 : TLibrary) (a1 : Int) : Option (Bool) :=
 ((
    (F_spec_IsValidLibrary a0).bind fun y8 =>
    br y8
    ((F_spec_l09In a1 0 (std.sub .i64 (std.ofN (len a0.fCells)) 1)).bind fun y10 =>
    some y10)
    (some false)
  ) : Option (Bool)).bind fun y1 =>
 letO y1 fun w7 =>
 some w7
set_option maxHeartbeats 4000000 in
theorem run_spec_l09Has (a0 : TLibrary) (a1 : Int) (r : Bool) (h : F_spec_l09Has a0 a1 = some r) : Fun Try.prog 87 [.agg [.bs (len a0.fCells) 4 (row gd (encCell len gd) a0.fCells)], .c (.v (.int .i64 a1))] [] (.c (.v (.bool r))) [] true := by
 refine Fun.of_wp (oneOf [1]) tok mixed Try.func87 (by kernel_rfl) rfl Try.ntmps87 rfl trivial (fun _ => ⟨trivial, trivial⟩) ?_
 unfold F_spec_l09Has at h
 have hf_spec_IsValidLibrary := @run_spec_IsValidLibrary
 have hf_spec_l09In := @run_spec_l09In
 generalize hLEN : @len = LEN at *
 generalize hGD : @gd = GD at *
 generalize hA : std = A at *
 generalize hP : Try.prog = P at *
 cbv
 replace h := of_bind h
 obtain ⟨y1, hy2, h⟩ := h
 obtain ⟨S5, hS6⟩ : ∃ S, S = (sparse 15 [(4, .c (.v (.bool y1)))] []) := ⟨_, rfl⟩
 refine ⟨S5, ?_, ?_⟩
 ·clear h
  have h := hy2
  clear hy2
  cbv
  replace h := of_bind h
  obtain ⟨y8, hy9, h⟩ := h
  refine ⟨{ args := [.agg [.bs (LEN a0.fCells) 4 (row GD (encCell LEN GD) a0.fCells)]], o0 := [], r := .c (.v (.bool y8)), o1 := [], fl := true, σ := [], τ := [] }, hf_spec_IsValidLibrary _ _ hy9, ⟨les_cons (lR _) (les_nil), trivial, rfl, rfl, rfl, rfl, trivial, rfl⟩, ?_⟩
  cbv
  refine fork (fun b12 => ?_) (fun b12 => ?_)
  ·replace h := of_br_t b12 h
   cbv
   replace h := of_bind h
   obtain ⟨y10, hy11, h⟩ := h
   refine ⟨{ args := [.c (.v (.int .i64 a1)), .c (.v (.int .i64 0)), .c (.v (.int .i64 (A.sub .i64 (A.ofN (LEN a0.fCells)) 1)))], o0 := [], r := .c (.v (.bool y10)), o1 := [], fl := true, σ := [], τ := [] }, hf_spec_l09In _ _ _ _ hy11, ⟨les_cons (lR _) (les_cons (lR _) (les_cons (lR _) (les_nil))), trivial, rfl, rfl, rfl, rfl, trivial, rfl⟩, ?_⟩
   cbv
   injection h with h
   subst h
   subst hS6
   show St.le _ _
   exact le_sparse rfl ⟨lR _, trivial⟩ trivial rfl
  ·replace h := of_br_f b12 h
   cbv
   injection h with h
   subst h
   subst hS6
   show St.le _ _
   exact le_sparse rfl ⟨lR _, trivial⟩ trivial rfl
 ·clear hy2
  subst hS6
  replace h := of_let h
  obtain ⟨w7, hw7, h⟩ := h
  have hw7 : w7 = y1 := hw7
  subst hw7
  cbv
  injection h with h
  subst h
  refine ⟨(sparse 15 [(4, .c (.v (.bool w7)))] []), ?_, ?_⟩
  ·exact le_sparse rfl ⟨lR _, trivial⟩ trivial rfl
  ·exact ⟨lR _, trivial, rfl⟩

/-- spec.CellRecords -/
noncomputable def F_spec_CellRecords (a0 : TLibrary) (a1 : Int) : Option (ByteArray) :=
 (F_spec_l09Has a0 a1).bind fun y1 =>
 br (!(y1))
 (some (ByteArray.mk #[]))
 ((F_spec_l14Cell a0 a1).bind fun y3 =>
 some y3)
set_option maxHeartbeats 4000000 in
theorem run_spec_CellRecords (a0 : TLibrary) (a1 : Int) (r : ByteArray) (h : F_spec_CellRecords a0 a1 = some r) : Fun Try.prog 44 [.agg [.bs (len a0.fCells) 4 (row gd (encCell len gd) a0.fCells)], .c (.v (.int .i64 a1))] [] (.c (.v (.string r))) [] true := by
 refine Fun.of_wp (oneOf []) tok mixed Try.func44 (by kernel_rfl) rfl Try.ntmps44 rfl trivial (fun _ => ⟨trivial, trivial⟩) ?_
 unfold F_spec_CellRecords at h
 have hf_spec_l09Has := @run_spec_l09Has
 have hf_spec_l14Cell := @run_spec_l14Cell
 generalize hLEN : @len = LEN at *
 generalize hGD : @gd = GD at *
 generalize hA : std = A at *
 generalize hP : Try.prog = P at *
 cbv
 replace h := of_bind h
 obtain ⟨y1, hy2, h⟩ := h
 refine ⟨{ args := [.agg [.bs (LEN a0.fCells) 4 (row GD (encCell LEN GD) a0.fCells)], .c (.v (.int .i64 a1))], o0 := [], r := .c (.v (.bool y1)), o1 := [], fl := true, σ := [], τ := [] }, hf_spec_l09Has _ _ _ hy2, ⟨les_cons (lR _) (les_cons (lR _) (les_nil)), trivial, rfl, rfl, rfl, rfl, trivial, rfl⟩, ?_⟩
 cbv
 refine fork (fun b5 => ?_) (fun b5 => ?_)
 ·replace h := of_br_t b5 h
  cbv
  injection h with h
  subst h
  refine ⟨(sparse 12 [(4, .c (.v (.string (ByteArray.mk #[]))))] []), ?_, ?_⟩
  ·exact le_sparse rfl ⟨lR _, trivial⟩ trivial rfl
  ·exact ⟨lR _, trivial, rfl⟩
 ·replace h := of_br_f b5 h
  cbv
  replace h := of_bind h
  obtain ⟨y3, hy4, h⟩ := h
  refine ⟨{ args := [.agg [.bs (LEN a0.fCells) 4 (row GD (encCell LEN GD) a0.fCells)], .c (.v (.int .i64 a1))], o0 := [], r := .c (.v (.string y3)), o1 := [], fl := true, σ := [], τ := [] }, hf_spec_l14Cell _ _ _ hy4, ⟨les_cons (lR _) (les_cons (lR _) (les_nil)), trivial, rfl, rfl, rfl, rfl, trivial, rfl⟩, ?_⟩
  cbv
  injection h with h
  subst h
  refine ⟨(sparse 12 [(4, .c (.v (.string y3)))] []), ?_, ?_⟩
  ·exact le_sparse rfl ⟨lR _, trivial⟩ trivial rfl
  ·exact ⟨lR _, trivial, rfl⟩
/-- impl.SplitRecord -/
noncomputable def F_impl_SplitRecord (a0 : ByteArray) (a1 : Int) : Option (Int × ByteArray × Int × Int) :=
 (F_impl_within a1 0 (std.ofN (std.slen a0))).bind fun y1 =>
 br (!(y1))
 (some ((0 : Int), (ByteArray.mk #[]), (0 : Int), (2 : Int)))
 (req (std.upTo a1 (std.slen a0)) <|
 br (std.lt (std.ofN (std.slen (std.ssub a0 (std.toN a1) (std.slen a0)))) 2)
 (some ((0 : Int), (ByteArray.mk #[]), (0 : Int), (7 : Int)))
 (req (std.inR 0 (std.slen (std.ssub a0 (std.toN a1) (std.slen a0)))) <|
 req (std.nneg 8) <|
 req (std.inR 1 (std.slen (std.ssub a0 (std.toN a1) (std.slen a0)))) <|
 br (std.lt (std.add .i64 (std.shl .i64 (std.conv .i64 (std.sat (std.ssub a0 (std.toN a1) (std.slen a0)) (std.toN 0))) 8) (std.conv .i64 (std.sat (std.ssub a0 (std.toN a1) (std.slen a0)) (std.toN 1)))) 5)
 (some ((0 : Int), (ByteArray.mk #[]), (0 : Int), (4 : Int)))
 (br (std.lt (std.ofN (std.slen (std.ssub a0 (std.toN a1) (std.slen a0)))) (std.add .i64 (std.shl .i64 (std.conv .i64 (std.sat (std.ssub a0 (std.toN a1) (std.slen a0)) (std.toN 0))) 8) (std.conv .i64 (std.sat (std.ssub a0 (std.toN a1) (std.slen a0)) (std.toN 1)))))
 (some ((0 : Int), (ByteArray.mk #[]), (0 : Int), (7 : Int)))
 (req (std.inR (std.sub .i64 (std.add .i64 (std.shl .i64 (std.conv .i64 (std.sat (std.ssub a0 (std.toN a1) (std.slen a0)) (std.toN 0))) 8) (std.conv .i64 (std.sat (std.ssub a0 (std.toN a1) (std.slen a0)) (std.toN 1)))) 2) (std.slen (std.ssub a0 (std.toN a1) (std.slen a0)))) <|
 req (std.nneg 8) <|
 req (std.inR (std.sub .i64 (std.add .i64 (std.shl .i64 (std.conv .i64 (std.sat (std.ssub a0 (std.toN a1) (std.slen a0)) (std.toN 0))) 8) (std.conv .i64 (std.sat (std.ssub a0 (std.toN a1) (std.slen a0)) (std.toN 1)))) 1) (std.slen (std.ssub a0 (std.toN a1) (std.slen a0)))) <|
 req (std.inR 2 (std.slen (std.ssub a0 (std.toN a1) (std.slen a0)))) <|
 req (std.upTo (std.sub .i64 (std.add .i64 (std.shl .i64 (std.conv .i64 (std.sat (std.ssub a0 (std.toN a1) (std.slen a0)) (std.toN 0))) 8) (std.conv .i64 (std.sat (std.ssub a0 (std.toN a1) (std.slen a0)) (std.toN 1)))) 2) (std.slen (std.ssub a0 (std.toN a1) (std.slen a0)))) <|
 req (std.upTo 3 (std.toN (std.sub .i64 (std.add .i64 (std.shl .i64 (std.conv .i64 (std.sat (std.ssub a0 (std.toN a1) (std.slen a0)) (std.toN 0))) 8) (std.conv .i64 (std.sat (std.ssub a0 (std.toN a1) (std.slen a0)) (std.toN 1)))) 2))) <|
 req (std.upTo (std.sub .i64 (std.add .i64 (std.shl .i64 (std.conv .i64 (std.sat (std.ssub a0 (std.toN a1) (std.slen a0)) (std.toN 0))) 8) (std.conv .i64 (std.sat (std.ssub a0 (std.toN a1) (std.slen a0)) (std.toN 1)))) 2) (std.slen (std.ssub a0 (std.toN a1) (std.slen a0)))) <|
 (F_impl_Checksum16 (std.ssub (std.ssub a0 (std.toN a1) (std.slen a0)) 0 (std.toN (std.sub .i64 (std.add .i64 (std.shl .i64 (std.conv .i64 (std.sat (std.ssub a0 (std.toN a1) (std.slen a0)) (std.toN 0))) 8) (std.conv .i64 (std.sat (std.ssub a0 (std.toN a1) (std.slen a0)) (std.toN 1)))) 2)))).bind fun y14 =>
 br (std.not (std.eq (std.add .i64 (std.shl .i64 (std.conv .i64 (std.sat (std.ssub a0 (std.toN a1) (std.slen a0)) (std.toN (std.sub .i64 (std.add .i64 (std.shl .i64 (std.conv .i64 (std.sat (std.ssub a0 (std.toN a1) (std.slen a0)) (std.toN 0))) 8) (std.conv .i64 (std.sat (std.ssub a0 (std.toN a1) (std.slen a0)) (std.toN 1)))) 2)))) 8) (std.conv .i64 (std.sat (std.ssub a0 (std.toN a1) (std.slen a0)) (std.toN (std.sub .i64 (std.add .i64 (std.shl .i64 (std.conv .i64 (std.sat (std.ssub a0 (std.toN a1) (std.slen a0)) (std.toN 0))) 8) (std.conv .i64 (std.sat (std.ssub a0 (std.toN a1) (std.slen a0)) (std.toN 1)))) 1))))) y14))
 (some ((0 : Int), (ByteArray.mk #[]), (0 : Int), (8 : Int)))
 (((
    (F_impl_within (std.conv .i64 (std.sat (std.ssub a0 (std.toN a1) (std.slen a0)) (std.toN 2))) 1 7).bind fun y23 =>
    br (!(y23))
    (some true)
    (some (std.lt 200 (std.ofN (std.slen (std.ssub (std.ssub a0 (std.toN a1) (std.slen a0)) (std.toN 3) (std.toN (std.sub .i64 (std.add .i64 (std.shl .i64 (std.conv .i64 (std.sat (std.ssub a0 (std.toN a1) (std.slen a0)) (std.toN 0))) 8) (std.conv .i64 (std.sat (std.ssub a0 (std.toN a1) (std.slen a0)) (std.toN 1)))) 2)))))))
  ) : Option (Bool)).bind fun y16 =>
 letO y16 fun w22 =>
 br w22
 (some ((0 : Int), (ByteArray.mk #[]), (0 : Int), (4 : Int)))
 (some (std.conv .i64 (std.sat (std.ssub a0 (std.toN a1) (std.slen a0)) (std.toN 2)), std.ssub (std.ssub a0 (std.toN a1) (std.slen a0)) (std.toN 3) (std.toN (std.sub .i64 (std.add .i64 (std.shl .i64 (std.conv .i64 (std.sat (std.ssub a0 (std.toN a1) (std.slen a0)) (std.toN 0))) 8) (std.conv .i64 (std.sat (std.ssub a0 (std.toN a1) (std.slen a0)) (std.toN 1)))) 2)), std.add .i64 a1 (std.add .i64 (std.shl .i64 (std.conv .i64 (std.sat (std.ssub a0 (std.toN a1) (std.slen a0)) (std.toN 0))) 8) (std.conv .i64 (std.sat (std.ssub a0 (std.toN a1) (std.slen a0)) (std.toN 1)))), (0 : Int))))))))
set_option maxHeartbeats 4000000 in
theorem run_impl_SplitRecord (a0 : ByteArray) (a1 : Int) (r : Int × ByteArray × Int × Int) (h : F_impl_SplitRecord a0 a1 = some r) : Fun Try.prog 154 [.c (.v (.string a0)), .c (.v (.int .i64 a1))] [] (.tup [.c (.v (.int .i64 r.1)), .c (.v (.string r.2.1)), .c (.v (.int .i64 r.2.2.1)), .c (.v (.int .i64 r.2.2.2))]) [] true := by
 refine Fun.of_wp (oneOf [15]) tok mixed Try.func154 (by kernel_rfl) rfl Try.ntmps154 rfl trivial (fun _ => ⟨(by simp [AV.flat, AV.flat1, AC.flat]), trivial⟩) ?_
 unfold F_impl_SplitRecord at h
 have hf_impl_Checksum16 := @run_impl_Checksum16
 have hf_impl_within := @run_impl_within
 generalize hLEN : @len = LEN at *
 generalize hGD : @gd = GD at *
 generalize hA : std = A at *
 generalize hP : Try.prog = P at *
 cbv
 replace h := of_bind h
 obtain ⟨y1, hy2, h⟩ := h
 refine ⟨{ args := [.c (.v (.int .i64 a1)), .c (.v (.int .i64 0)), .c (.v (.int .i64 (A.ofN (A.slen a0))))], o0 := [], r := .c (.v (.bool y1)), o1 := [], fl := true, σ := [], τ := [] }, hf_impl_within _ _ _ _ hy2, ⟨les_cons (lR _) (les_cons (lR _) (les_cons (lR _) (les_nil))), trivial, rfl, rfl, rfl, rfl, trivial, rfl⟩, ?_⟩
 cbv
 refine fork (fun b31 => ?_) (fun b31 => ?_)
 ·replace h := of_br_t b31 h
  cbv
  injection h with h
  subst h
  refine ⟨(sparse 81 [(4, .c (.v (.int .i64 0))), (5, .c (.v (.string (ByteArray.mk #[])))), (6, .c (.v (.int .i64 0))), (7, .c (.v (.int .i64 2)))] []), ?_, ?_⟩
  ·exact le_sparse rfl ⟨lR _, lR _, lR _, lR _, trivial⟩ trivial rfl
  ·exact ⟨lR _, trivial, rfl⟩
 ·replace h := of_br_f b31 h
  cbv
  replace h := of_req h
  obtain ⟨c3, h⟩ := h
  refine ⟨c3, ?_⟩
  refine fork (fun b30 => ?_) (fun b30 => ?_)
  ·replace h := of_br_t b30 h
   cbv
   injection h with h
   subst h
   refine ⟨(sparse 81 [(4, .c (.v (.int .i64 0))), (5, .c (.v (.string (ByteArray.mk #[])))), (6, .c (.v (.int .i64 0))), (7, .c (.v (.int .i64 7)))] []), ?_, ?_⟩
   ·exact le_sparse rfl ⟨lR _, lR _, lR _, lR _, trivial⟩ trivial rfl
   ·exact ⟨lR _, trivial, rfl⟩
  ·replace h := of_br_f b30 h
   cbv
   replace h := of_req h
   obtain ⟨c4, h⟩ := h
   refine ⟨c4, ?_⟩
   replace h := of_req h
   obtain ⟨c5, h⟩ := h
   refine ⟨c5, ?_⟩
   replace h := of_req h
   obtain ⟨c6, h⟩ := h
   refine ⟨c6, ?_⟩
   refine fork (fun b29 => ?_) (fun b29 => ?_)
   ·replace h := of_br_t b29 h
    cbv
    injection h with h
    subst h
    refine ⟨(sparse 81 [(4, .c (.v (.int .i64 0))), (5, .c (.v (.string (ByteArray.mk #[])))), (6, .c (.v (.int .i64 0))), (7, .c (.v (.int .i64 4)))] []), ?_, ?_⟩
    ·exact le_sparse rfl ⟨lR _, lR _, lR _, lR _, trivial⟩ trivial rfl
    ·exact ⟨lR _, trivial, rfl⟩
   ·replace h := of_br_f b29 h
    cbv
    refine fork (fun b28 => ?_) (fun b28 => ?_)
    ·replace h := of_br_t b28 h
     cbv
     injection h with h
     subst h
     refine ⟨(sparse 81 [(4, .c (.v (.int .i64 0))), (5, .c (.v (.string (ByteArray.mk #[])))), (6, .c (.v (.int .i64 0))), (7, .c (.v (.int .i64 7)))] []), ?_, ?_⟩
     ·exact le_sparse rfl ⟨lR _, lR _, lR _, lR _, trivial⟩ trivial rfl
     ·exact ⟨lR _, trivial, rfl⟩
    ·replace h := of_br_f b28 h
     cbv
     replace h := of_req h
     obtain ⟨c7, h⟩ := h
     refine ⟨c7, ?_⟩
     replace h := of_req h
     obtain ⟨c8, h⟩ := h
     refine ⟨c8, ?_⟩
     replace h := of_req h
     obtain ⟨c9, h⟩ := h
     refine ⟨c9, ?_⟩
     replace h := of_req h
     obtain ⟨c10, h⟩ := h
     refine ⟨c10, ?_⟩
     replace h := of_req h
     obtain ⟨c11, h⟩ := h
     replace h := of_req h
     obtain ⟨c12, h⟩ := h
     refine ⟨⟨c11, c12⟩, ?_⟩
     replace h := of_req h
     obtain ⟨c13, h⟩ := h
     refine ⟨c13, ?_⟩
     replace h := of_bind h
     obtain ⟨y14, hy15, h⟩ := h
     refine ⟨{ args := [.c (.v (.string (A.ssub (A.ssub a0 (A.toN a1) (A.slen a0)) 0 (A.toN (A.sub .i64 (A.add .i64 (A.shl .i64 (A.conv .i64 (A.sat (A.ssub a0 (A.toN a1) (A.slen a0)) (A.toN 0))) 8) (A.conv .i64 (A.sat (A.ssub a0 (A.toN a1) (A.slen a0)) (A.toN 1)))) 2)))))], o0 := [], r := .c (.v (.int .i64 y14)), o1 := [], fl := true, σ := [], τ := [] }, hf_impl_Checksum16 _ _ hy15, ⟨les_cons (lR _) (les_nil), trivial, rfl, rfl, rfl, rfl, trivial, rfl⟩, ?_⟩
     cbv
     refine fork (fun b27 => ?_) (fun b27 => ?_)
     ·replace h := of_br_t b27 h
      cbv
      injection h with h
      subst h
      refine ⟨(sparse 81 [(4, .c (.v (.int .i64 0))), (5, .c (.v (.string (ByteArray.mk #[])))), (6, .c (.v (.int .i64 0))), (7, .c (.v (.int .i64 8)))] []), ?_, ?_⟩
      ·exact le_sparse rfl ⟨lR _, lR _, lR _, lR _, trivial⟩ trivial rfl
      ·exact ⟨lR _, trivial, rfl⟩
     ·replace h := of_br_f b27 h
      cbv
      replace h := of_bind h
      obtain ⟨y16, hy17, h⟩ := h
      obtain ⟨S20, hS21⟩ : ∃ S, S = (sparse 81 [(1, .c (.v (.int .i64 a1))), (9, .c (.v (.int .i64 (A.add .i64 (A.shl .i64 (A.conv .i64 (A.sat (A.ssub a0 (A.toN a1) (A.slen a0)) (A.toN 0))) 8) (A.conv .i64 (A.sat (A.ssub a0 (A.toN a1) (A.slen a0)) (A.toN 1))))))), (11, .c (.v (.int .i64 (A.conv .i64 (A.sat (A.ssub a0 (A.toN a1) (A.slen a0)) (A.toN 2)))))), (12, .c (.v (.string (A.ssub (A.ssub a0 (A.toN a1) (A.slen a0)) (A.toN 3) (A.toN (A.sub .i64 (A.add .i64 (A.shl .i64 (A.conv .i64 (A.sat (A.ssub a0 (A.toN a1) (A.slen a0)) (A.toN 0))) 8) (A.conv .i64 (A.sat (A.ssub a0 (A.toN a1) (A.slen a0)) (A.toN 1)))) 2)))))), (67, .c (.v (.bool y16)))] []) := ⟨_, rfl⟩
      refine ⟨S20, ?_, ?_⟩
      ·clear h
       have h := hy17
       clear hy17
       cbv
       replace h := of_bind h
       obtain ⟨y23, hy24, h⟩ := h
       refine ⟨{ args := [.c (.v (.int .i64 (A.conv .i64 (A.sat (A.ssub a0 (A.toN a1) (A.slen a0)) (A.toN 2))))), .c (.v (.int .i64 1)), .c (.v (.int .i64 7))], o0 := [], r := .c (.v (.bool y23)), o1 := [], fl := true, σ := [], τ := [] }, hf_impl_within _ _ _ _ hy24, ⟨les_cons (lR _) (les_cons (lR _) (les_cons (lR _) (les_nil))), trivial, rfl, rfl, rfl, rfl, trivial, rfl⟩, ?_⟩
       cbv
       refine fork (fun b25 => ?_) (fun b25 => ?_)
       ·replace h := of_br_t b25 h
        cbv
        injection h with h
        subst h
        subst hS21
        show St.le _ _
        exact le_sparse rfl ⟨lR _, lR _, lR _, lR _, lR _, trivial⟩ trivial rfl
       ·replace h := of_br_f b25 h
        cbv
        injection h with h
        subst h
        subst hS21
        show St.le _ _
        exact le_sparse rfl ⟨lR _, lR _, lR _, lR _, lR _, trivial⟩ trivial rfl
      ·clear hy17
       subst hS21
       replace h := of_let h
       obtain ⟨w22, hw22, h⟩ := h
       have hw22 : w22 = y16 := hw22
       subst hw22
       cbv
       refine fork (fun b26 => ?_) (fun b26 => ?_)
       ·replace h := of_br_t b26 h
        cbv
        injection h with h
        subst h
        refine ⟨(sparse 81 [(4, .c (.v (.int .i64 0))), (5, .c (.v (.string (ByteArray.mk #[])))), (6, .c (.v (.int .i64 0))), (7, .c (.v (.int .i64 4)))] []), ?_, ?_⟩
        ·exact le_sparse rfl ⟨lR _, lR _, lR _, lR _, trivial⟩ trivial rfl
        ·exact ⟨lR _, trivial, rfl⟩
       ·replace h := of_br_f b26 h
        cbv
        injection h with h
        subst h
        refine ⟨(sparse 81 [(4, .c (.v (.int .i64 (A.conv .i64 (A.sat (A.ssub a0 (A.toN a1) (A.slen a0)) (A.toN 2)))))), (5, .c (.v (.string (A.ssub (A.ssub a0 (A.toN a1) (A.slen a0)) (A.toN 3) (A.toN (A.sub .i64 (A.add .i64 (A.shl .i64 (A.conv .i64 (A.sat (A.ssub a0 (A.toN a1) (A.slen a0)) (A.toN 0))) 8) (A.conv .i64 (A.sat (A.ssub a0 (A.toN a1) (A.slen a0)) (A.toN 1)))) 2)))))), (6, .c (.v (.int .i64 (A.add .i64 a1 (A.add .i64 (A.shl .i64 (A.conv .i64 (A.sat (A.ssub a0 (A.toN a1) (A.slen a0)) (A.toN 0))) 8) (A.conv .i64 (A.sat (A.ssub a0 (A.toN a1) (A.slen a0)) (A.toN 1)))))))), (7, .c (.v (.int .i64 0)))] []), ?_, ?_⟩
        ·exact le_sparse rfl ⟨lR _, lR _, lR _, lR _, trivial⟩ trivial rfl
        ·exact ⟨lR _, trivial, rfl⟩

/-- impl.streamReader).possible -/
noncomputable def F_impl_streamReader_possible_mpb (a0 : TstreamReader) (a1 : Int) : Option (Bool) :=
 br a0.gdone
 (some false)
 (br (!(a0.gbegun))
 (some (std.eq a1 1))
 (((
    br (!(a0.ginside))
    (some (std.lt (std.ofN (len a0.glib.fCells)) a0.gcells))
    (some false)
  ) : Option (Bool)).bind fun y1 =>
 letO y1 fun w7 =>
 br w7
 (some (std.eq a1 2))
 (br (!(a0.ginside))
 (some (std.eq a1 7))
 (br (std.eq a1 3)
 (((
    br (std.eq (std.ofN (len a0.gcell.fLabels)) 0)
    (some (std.eq (std.ofN (len a0.gcell.fInstances)) 0))
    (some false)
  ) : Option (Bool)).bind fun y9 =>
 letO y9 fun w15 =>
 some w15)
 (br (std.eq a1 4)
 (some (std.eq (std.ofN (len a0.gcell.fInstances)) 0))
 (((
    br (std.eq a1 5)
    (some true)
    (some (std.eq a1 6))
  ) : Option (Bool)).bind fun y17 =>
 letO y17 fun w23 =>
 some w23))))))
set_option maxHeartbeats 4000000 in
theorem run_impl_streamReader_possible_mpb (a0 : TstreamReader) (a1 : Int) (r : Bool) (h : F_impl_streamReader_possible_mpb a0 a1 = some r) : Fun Try.prog 214 [.c (.bp 9 (encstreamReader len gd a0)), .c (.v (.int .i64 a1))] [] (.c (.v (.bool r))) [] true := by
 refine Fun.of_wp (oneOf [5, 11, 14]) tok mixed Try.func214 (by kernel_rfl) rfl Try.ntmps214 rfl trivial (fun _ => ⟨trivial, trivial⟩) ?_
 unfold F_impl_streamReader_possible_mpb at h
 generalize hLEN : @len = LEN at *
 generalize hGD : @gd = GD at *
 generalize hA : std = A at *
 generalize hP : Try.prog = P at *
 cbv
 refine fork (fun b30 => ?_) (fun b30 => ?_)
 ·replace h := of_br_t b30 h
  cbv
  injection h with h
  subst h
  refine ⟨(sparse 81 [(4, .c (.v (.bool false)))] []), ?_, ?_⟩
  ·exact le_sparse rfl ⟨lR _, trivial⟩ trivial rfl
  ·exact ⟨lR _, trivial, rfl⟩
 ·replace h := of_br_f b30 h
  cbv
  refine fork (fun b29 => ?_) (fun b29 => ?_)
  ·replace h := of_br_t b29 h
   cbv
   injection h with h
   subst h
   refine ⟨(sparse 81 [(4, .c (.v (.bool (A.eq a1 1))))] []), ?_, ?_⟩
   ·exact le_sparse rfl ⟨lR _, trivial⟩ trivial rfl
   ·exact ⟨lR _, trivial, rfl⟩
  ·replace h := of_br_f b29 h
   cbv
   replace h := of_bind h
   obtain ⟨y1, hy2, h⟩ := h
   obtain ⟨S5, hS6⟩ : ∃ S, S = (sparse 81 [(0, .c (.bp 9 (encstreamReader LEN GD a0))), (1, .c (.v (.int .i64 a1))), (18, .c (.v (.bool y1)))] []) := ⟨_, rfl⟩
   refine ⟨S5, ?_, ?_⟩
   ·clear h
    have h := hy2
    clear hy2
    cbv
    refine fork (fun b8 => ?_) (fun b8 => ?_)
    ·replace h := of_br_t b8 h
     cbv
     injection h with h
     subst h
     subst hS6
     show St.le _ _
     exact le_sparse rfl ⟨lR _, lR _, lR _, trivial⟩ trivial rfl
    ·replace h := of_br_f b8 h
     cbv
     injection h with h
     subst h
     subst hS6
     show St.le _ _
     exact le_sparse rfl ⟨lR _, lR _, lR _, trivial⟩ trivial rfl
   ·clear hy2
    subst hS6
    replace h := of_let h
    obtain ⟨w7, hw7, h⟩ := h
    have hw7 : w7 = y1 := hw7
    subst hw7
    cbv
    refine fork (fun b28 => ?_) (fun b28 => ?_)
    ·replace h := of_br_t b28 h
     cbv
     injection h with h
     subst h
     refine ⟨(sparse 81 [(4, .c (.v (.bool (A.eq a1 2))))] []), ?_, ?_⟩
     ·exact le_sparse rfl ⟨lR _, trivial⟩ trivial rfl
     ·exact ⟨lR _, trivial, rfl⟩
    ·replace h := of_br_f b28 h
     cbv
     refine fork (fun b27 => ?_) (fun b27 => ?_)
     ·replace h := of_br_t b27 h
      cbv
      injection h with h
      subst h
      refine ⟨(sparse 81 [(4, .c (.v (.bool (A.eq a1 7))))] []), ?_, ?_⟩
      ·exact le_sparse rfl ⟨lR _, trivial⟩ trivial rfl
      ·exact ⟨lR _, trivial, rfl⟩
     ·replace h := of_br_f b27 h
      cbv
      refine fork (fun b26 => ?_) (fun b26 => ?_)
      ·replace h := of_br_t b26 h
       cbv
       replace h := of_bind h
       obtain ⟨y9, hy10, h⟩ := h
       obtain ⟨S13, hS14⟩ : ∃ S, S = (sparse 81 [(4, .c (.v (.bool y9)))] []) := ⟨_, rfl⟩
       refine ⟨S13, ?_, ?_⟩
       ·clear h
        have h := hy10
        clear hy10
        cbv
        refine fork (fun b16 => ?_) (fun b16 => ?_)
        ·replace h := of_br_t b16 h
         cbv
         injection h with h
         subst h
         subst hS14
         show St.le _ _
         exact le_sparse rfl ⟨lR _, trivial⟩ trivial rfl
        ·replace h := of_br_f b16 h
         cbv
         injection h with h
         subst h
         subst hS14
         show St.le _ _
         exact le_sparse rfl ⟨lR _, trivial⟩ trivial rfl
       ·clear hy10
        subst hS14
        replace h := of_let h
        obtain ⟨w15, hw15, h⟩ := h
        have hw15 : w15 = y9 := hw15
        subst hw15
        cbv
        injection h with h
        subst h
        refine ⟨(sparse 81 [(4, .c (.v (.bool w15)))] []), ?_, ?_⟩
        ·exact le_sparse rfl ⟨lR _, trivial⟩ trivial rfl
        ·exact ⟨lR _, trivial, rfl⟩
      ·replace h := of_br_f b26 h
       cbv
       refine fork (fun b25 => ?_) (fun b25 => ?_)
       ·replace h := of_br_t b25 h
        cbv
        injection h with h
        subst h
        refine ⟨(sparse 81 [(4, .c (.v (.bool (A.eq (A.ofN (LEN a0.gcell.fInstances)) 0))))] []), ?_, ?_⟩
        ·exact le_sparse rfl ⟨lR _, trivial⟩ trivial rfl
        ·exact ⟨lR _, trivial, rfl⟩
       ·replace h := of_br_f b25 h
        cbv
        replace h := of_bind h
        obtain ⟨y17, hy18, h⟩ := h
        obtain ⟨S21, hS22⟩ : ∃ S, S = (sparse 81 [(4, .c (.v (.bool y17)))] []) := ⟨_, rfl⟩
        refine ⟨S21, ?_, ?_⟩
        ·clear h
         have h := hy18
         clear hy18
         cbv
         refine fork (fun b24 => ?_) (fun b24 => ?_)
         ·replace h := of_br_t b24 h
          cbv
          injection h with h
          subst h
          subst hS22
          show St.le _ _
          exact le_sparse rfl ⟨lR _, trivial⟩ trivial rfl
         ·replace h := of_br_f b24 h
          cbv
          injection h with h
          subst h
          subst hS22
          show St.le _ _
          exact le_sparse rfl ⟨lR _, trivial⟩ trivial rfl
        ·clear hy18
         subst hS22
         replace h := of_let h
         obtain ⟨w23, hw23, h⟩ := h
         have hw23 : w23 = y17 := hw23
         subst hw23
         cbv
         injection h with h
         subst h
         refine ⟨(sparse 81 [(4, .c (.v (.bool w23)))] []), ?_, ?_⟩
         ·exact le_sparse rfl ⟨lR _, trivial⟩ trivial rfl
         ·exact ⟨lR _, trivial, rfl⟩

/-- impl.byteReader).one -/
noncomputable def F_impl_byteReader_one_mPb (a0 : TbyteReader) : Option (Int × TbyteReader) :=
 br (std.lt (std.ofN (std.slen a0.gs)) 1)
 (some ((0 : Int), (TbyteReader.mk a0.gs true)))
 (req (std.inR 0 (std.slen a0.gs)) <|
 req (std.upTo 1 (std.slen a0.gs)) <|
 some (std.conv .i64 (std.sat a0.gs (std.toN 0)), (TbyteReader.mk (std.ssub a0.gs (std.toN 1) (std.slen a0.gs)) a0.gbad)))
set_option maxHeartbeats 4000000 in
theorem run_impl_byteReader_one_mPb (a0 : TbyteReader) (r : Int × TbyteReader) (h : F_impl_byteReader_one_mPb a0 = some r) : Fun Try.prog 216 [.c (.ptr 5 0)] [(5, .var [.v (.string a0.gs), .v (.bool a0.gbad)])] (.c (.v (.int .i64 r.1))) [(5, .var [.v (.string r.2.gs), .v (.bool r.2.gbad)])] true := by
 refine Fun.of_wp (oneOf []) tok mixed Try.func216 (by kernel_rfl) rfl Try.ntmps216 rfl trivial (fun _ => ⟨trivial, ⟨(by simp [AO.flat, AC.flat]), trivial⟩⟩) ?_
 unfold F_impl_byteReader_one_mPb at h
 generalize hLEN : @len = LEN at *
 generalize hGD : @gd = GD at *
 generalize hA : std = A at *
 generalize hP : Try.prog = P at *
 cbv
 refine fork (fun b3 => ?_) (fun b3 => ?_)
 ·replace h := of_br_t b3 h
  cbv
  injection h with h
  subst h
  refine ⟨(sparse 28 [(2, .c (.v (.int .i64 0)))] [(5, .var [.v (.string a0.gs), .v (.bool true)])]), ?_, ?_⟩
  ·exact le_sparse rfl ⟨lR _, trivial⟩ ⟨rfl, trivial⟩ rfl
  ·exact ⟨lR _, ⟨rfl, trivial⟩, rfl⟩
 ·replace h := of_br_f b3 h
  cbv
  replace h := of_req h
  obtain ⟨c1, h⟩ := h
  refine ⟨c1, ?_⟩
  replace h := of_req h
  obtain ⟨c2, h⟩ := h
  refine ⟨c2, ?_⟩
  injection h with h
  subst h
  refine ⟨(sparse 28 [(2, .c (.v (.int .i64 (A.conv .i64 (A.sat a0.gs (A.toN 0))))))] [(5, .var [.v (.string (A.ssub a0.gs (A.toN 1) (A.slen a0.gs))), .v (.bool a0.gbad)])]), ?_, ?_⟩
  ·exact le_sparse rfl ⟨lR _, trivial⟩ ⟨rfl, trivial⟩ rfl
  ·exact ⟨lR _, ⟨rfl, trivial⟩, rfl⟩

/-- impl.streamReader).take$1 -/
noncomputable def F_impl_streamReader_take_1_mPP (a0 : TbyteReader) : Option (Bool × TbyteReader × TbyteReader) :=
 ((
    br (!(a0.gbad))
    (some (std.seq a0.gs (ByteArray.mk #[])))
    (some false)
  ) : Option (Bool)).bind fun y1 =>
 letO y1 fun w7 =>
 some (w7, a0, a0)
set_option maxHeartbeats 4000000 in
theorem run_impl_streamReader_take_1_mPP (a0 : TbyteReader) (r : Bool × TbyteReader × TbyteReader) (h : F_impl_streamReader_take_1_mPP a0 = some r) : Fun Try.prog 215 [.c (.ptr 5 0)] [(5, .var [.ptr 7 0]), (7, .var [.v (.string a0.gs), .v (.bool a0.gbad)])] (.c (.v (.bool r.1))) [(5, .var [.ptr 7 0]), (7, .var [.v (.string r.2.2.gs), .v (.bool r.2.2.gbad)])] true := by
 refine Fun.of_wp (oneOf [1]) tok mixed Try.func215 (by kernel_rfl) rfl Try.ntmps215 rfl trivial (fun _ => ⟨trivial, ⟨(by simp [AO.flat, AC.flat]), (by simp [AO.flat, AC.flat]), trivial⟩⟩) ?_
 unfold F_impl_streamReader_take_1_mPP at h
 generalize hLEN : @len = LEN at *
 generalize hGD : @gd = GD at *
 generalize hA : std = A at *
 generalize hP : Try.prog = P at *
 cbv
 replace h := of_bind h
 obtain ⟨y1, hy2, h⟩ := h
 obtain ⟨S5, hS6⟩ : ∃ S, S = (sparse 14 [(1, .c (.v (.bool y1)))] [(5, .var [.ptr 7 0]), (7, .var [.v (.string a0.gs), .v (.bool a0.gbad)])]) := ⟨_, rfl⟩
 refine ⟨S5, ?_, ?_⟩
 ·clear h
  have h := hy2
  clear hy2
  cbv
  refine fork (fun b8 => ?_) (fun b8 => ?_)
  ·replace h := of_br_t b8 h
   cbv
   injection h with h
   subst h
   subst hS6
   show St.le _ _
   exact le_sparse rfl ⟨lR _, trivial⟩ ⟨rfl, rfl, trivial⟩ rfl
  ·replace h := of_br_f b8 h
   cbv
   injection h with h
   subst h
   subst hS6
   show St.le _ _
   exact le_sparse rfl ⟨lR _, trivial⟩ ⟨rfl, rfl, trivial⟩ rfl
 ·clear hy2
  subst hS6
  replace h := of_let h
  obtain ⟨w7, hw7, h⟩ := h
  have hw7 : w7 = y1 := hw7
  subst hw7
  cbv
  injection h with h
  subst h
  refine ⟨(sparse 14 [(1, .c (.v (.bool w7)))] [(5, .var [.ptr 7 0]), (7, .var [.v (.string a0.gs), .v (.bool a0.gbad)])]), ?_, ?_⟩
  ·exact le_sparse rfl ⟨lR _, trivial⟩ ⟨rfl, rfl, trivial⟩ rfl
  ·exact ⟨lR _, ⟨rfl, rfl, trivial⟩, rfl⟩

/-- impl.byteReader).name -/
noncomputable def F_impl_byteReader_name_mPb (a0 : TbyteReader) : Option (ByteArray × TbyteReader) :=
 (F_impl_byteReader_one_mPb a0).bind fun y1 =>
 br (std.lt (std.ofN (std.slen y1.2.gs)) y1.1)
 (some ((ByteArray.mk #[]), (TbyteReader.mk y1.2.gs true)))
 (req (std.upTo y1.1 (std.slen y1.2.gs)) <|
 req (std.upTo y1.1 (std.slen y1.2.gs)) <|
 some (std.ssub y1.2.gs 0 (std.toN y1.1), (TbyteReader.mk (std.ssub y1.2.gs (std.toN y1.1) (std.slen y1.2.gs)) y1.2.gbad)))
set_option maxHeartbeats 4000000 in
theorem run_impl_byteReader_name_mPb (a0 : TbyteReader) (r : ByteArray × TbyteReader) (h : F_impl_byteReader_name_mPb a0 = some r) : Fun Try.prog 217 [.c (.ptr 5 0)] [(5, .var [.v (.string a0.gs), .v (.bool a0.gbad)])] (.c (.v (.string r.1))) [(5, .var [.v (.string r.2.gs), .v (.bool r.2.gbad)])] true := by
 refine Fun.of_wp (oneOf []) tok mixed Try.func217 (by kernel_rfl) rfl Try.ntmps217 rfl trivial (fun _ => ⟨trivial, ⟨(by simp [AO.flat, AC.flat]), trivial⟩⟩) ?_
 unfold F_impl_byteReader_name_mPb at h
 have hf_impl_byteReader_one_mPb := @run_impl_byteReader_one_mPb
 generalize hLEN : @len = LEN at *
 generalize hGD : @gd = GD at *
 generalize hA : std = A at *
 generalize hP : Try.prog = P at *
 cbv
 replace h := of_bind h
 obtain ⟨y1, hy2, h⟩ := h
 refine ⟨{ args := [.c (.ptr 5 0)], o0 := [(5, .var [.v (.string a0.gs), .v (.bool a0.gbad)])], r := .c (.v (.int .i64 y1.1)), o1 := [(5, .var [.v (.string y1.2.gs), .v (.bool y1.2.gbad)])], fl := true, σ := [(5, 5)], τ := [(5, 5)] }, hf_impl_byteReader_one_mPb _ _ hy2, ⟨les_cons (lR _) (les_nil), ⟨rfl, trivial⟩, rfl, rfl, rfl, rfl, ⟨fun _ => rfl, trivial⟩, rfl⟩, ?_⟩
 cbv
 refine fork (fun b5 => ?_) (fun b5 => ?_)
 ·replace h := of_br_t b5 h
  cbv
  injection h with h
  subst h
  refine ⟨(sparse 33 [(2, .c (.v (.string (ByteArray.mk #[]))))] [(5, .var [.v (.string y1.2.gs), .v (.bool true)])]), ?_, ?_⟩
  ·exact le_sparse rfl ⟨lR _, trivial⟩ ⟨rfl, trivial⟩ rfl
  ·exact ⟨lR _, ⟨rfl, trivial⟩, rfl⟩
 ·replace h := of_br_f b5 h
  cbv
  replace h := of_req h
  obtain ⟨c3, h⟩ := h
  refine ⟨c3, ?_⟩
  replace h := of_req h
  obtain ⟨c4, h⟩ := h
  refine ⟨c4, ?_⟩
  injection h with h
  subst h
  refine ⟨(sparse 33 [(2, .c (.v (.string (A.ssub y1.2.gs 0 (A.toN y1.1)))))] [(5, .var [.v (.string (A.ssub y1.2.gs (A.toN y1.1) (A.slen y1.2.gs))), .v (.bool y1.2.gbad)])]), ?_, ?_⟩
  ·exact le_sparse rfl ⟨lR _, trivial⟩ ⟨rfl, trivial⟩ rfl
  ·exact ⟨lR _, ⟨rfl, trivial⟩, rfl⟩

/-- impl.byteReader).two -/
noncomputable def F_impl_byteReader_two_mPb (a0 : TbyteReader) : Option (Int × TbyteReader) :=
 (F_impl_byteReader_one_mPb a0).bind fun y1 =>
 req (std.nneg 8) <|
 (F_impl_byteReader_one_mPb y1.2).bind fun y4 =>
 some (std.add .i64 (std.shl .i64 y1.1 8) y4.1, y4.2)
set_option maxHeartbeats 4000000 in
theorem run_impl_byteReader_two_mPb (a0 : TbyteReader) (r : Int × TbyteReader) (h : F_impl_byteReader_two_mPb a0 = some r) : Fun Try.prog 221 [.c (.ptr 5 0)] [(5, .var [.v (.string a0.gs), .v (.bool a0.gbad)])] (.c (.v (.int .i64 r.1))) [(5, .var [.v (.string r.2.gs), .v (.bool r.2.gbad)])] true := by
 refine Fun.of_wp (oneOf []) tok mixed Try.func221 (by kernel_rfl) rfl Try.ntmps221 rfl trivial (fun _ => ⟨trivial, ⟨(by simp [AO.flat, AC.flat]), trivial⟩⟩) ?_
 unfold F_impl_byteReader_two_mPb at h
 have hf_impl_byteReader_one_mPb := @run_impl_byteReader_one_mPb
 generalize hLEN : @len = LEN at *
 generalize hGD : @gd = GD at *
 generalize hA : std = A at *
 generalize hP : Try.prog = P at *
 cbv
 replace h := of_bind h
 obtain ⟨y1, hy2, h⟩ := h
 refine ⟨{ args := [.c (.ptr 5 0)], o0 := [(5, .var [.v (.string a0.gs), .v (.bool a0.gbad)])], r := .c (.v (.int .i64 y1.1)), o1 := [(5, .var [.v (.string y1.2.gs), .v (.bool y1.2.gbad)])], fl := true, σ := [(5, 5)], τ := [(5, 5)] }, hf_impl_byteReader_one_mPb _ _ hy2, ⟨les_cons (lR _) (les_nil), ⟨rfl, trivial⟩, rfl, rfl, rfl, rfl, ⟨fun _ => rfl, trivial⟩, rfl⟩, ?_⟩
 cbv
 replace h := of_req h
 obtain ⟨c3, h⟩ := h
 refine ⟨c3, ?_⟩
 replace h := of_bind h
 obtain ⟨y4, hy5, h⟩ := h
 refine ⟨{ args := [.c (.ptr 5 0)], o0 := [(5, .var [.v (.string y1.2.gs), .v (.bool y1.2.gbad)])], r := .c (.v (.int .i64 y4.1)), o1 := [(5, .var [.v (.string y4.2.gs), .v (.bool y4.2.gbad)])], fl := true, σ := [(5, 5)], τ := [(5, 5)] }, hf_impl_byteReader_one_mPb _ _ hy5, ⟨les_cons (lR _) (les_nil), ⟨rfl, trivial⟩, rfl, rfl, rfl, rfl, ⟨fun _ => rfl, trivial⟩, rfl⟩, ?_⟩
 cbv
 injection h with h
 subst h
 refine ⟨(sparse 11 [(2, .c (.v (.int .i64 (A.add .i64 (A.shl .i64 y1.1 8) y4.1))))] [(5, .var [.v (.string y4.2.gs), .v (.bool y4.2.gbad)])]), ?_, ?_⟩
 ·exact le_sparse rfl ⟨lR _, trivial⟩ ⟨rfl, trivial⟩ rfl
 ·exact ⟨lR _, ⟨rfl, trivial⟩, rfl⟩
end Go.Proofs.Ytlenieingkfjaaa.AM
