/-
  What the functions that the law reaches compute, and that they do. No condition.
-/
import Derived.Test.YtnmfighfidaglaaAmT
import Derived.Test.YtnmfighfidaglaaAmE
import Derived.Lib.Bytealg
import Derived.Lib.Slices
import Derived.Lib.Strings
import Derived.Lib.Walk
import Derived.Test.YtnmfighfidaglaaChecked
namespace Go.Proofs.Ytnmfighfidaglaa.AM
open Go Go.Proofs Go.RowKit
set_option linter.unusedVariables false
set_option linter.unusedSimpArgs false
set_option maxRecDepth 100000

theorem mixed : Try.prog.follows .mixedOrders = true := by kernel_rfl
noncomputable def L_spec_TextDifference_x4 (a0 : ByteArray) (a1 : ByteArray) : (Int × Int × Int) → Option ((Int × Int × Int) ⊕ ((Int × Int))) := fun x4 =>
  letO x4.1 fun v1 =>
  letO x4.2.1 fun v2 =>
  letO x4.2.2 fun v3 =>
  ((
        br (std.lt v3 (std.ofN (std.slen a0)))
        (br (std.lt v3 (std.ofN (std.slen a1)))
        (req (std.inR v3 (std.slen a0)) <|
        req (std.inR v3 (std.slen a1)) <|
        some (std.eq (std.sat a0 (std.toN v3)) (std.sat a1 (std.toN v3))))
        (some false))
        (some false)
    ) : Option (Bool)).bind fun y16 =>
  letO y16 fun w22 =>
  br w22
  (req (std.inR v3 (std.slen a0)) <|
  ((
        br (std.eq (std.sat a0 (std.toN v3)) 10)
        (some (std.add .i64 v1 1, 1))
        (some (v1, std.add .i64 v2 1))
    ) : Option (Int × Int)).bind fun y28 =>
  letO y28.1 fun w34 =>
  letO y28.2 fun w35 =>
  some (.inl (w34, w35, std.add .i64 v3 1)))
  (some (.inr (v1, v2)))
/-- spec.TextDifference -/
noncomputable def F_spec_TextDifference (a0 : ByteArray) (a1 : ByteArray) : Option (Int × Int) :=
  br (std.seq a0 a1)
  (some (0, 0))
  ((whileP (σ := Int × Int × Int) (ρ := (Int × Int)) (L_spec_TextDifference_x4 a0 a1) (1, 1, 0)).bind fun y5 =>
  letO y5 fun y5k0 =>
  letO y5k0.1 fun w38 =>
  letO y5k0.2 fun w39 =>
  some (w38, w39))
theorem run_spec_TextDifference (a0 : ByteArray) (a1 : ByteArray) (r : Int × Int) (h : F_spec_TextDifference a0 a1 = some r) : Fun Try.prog 23 [.c (.v (.string a0)), .c (.v (.string a1))] [] (.tup [.c (.v (.int .i64 r.1)), .c (.v (.int .i64 r.2))]) [] true := by
  refine Fun.of_wp (oneOf [6, 100038]) tok mixed Try.func23 (by kernel_rfl) rfl Try.ntmps23 rfl trivial (fun _ => ⟨(by simp [AV.flat, AV.flat1, AC.flat]), trivial⟩) ?_
  unfold F_spec_TextDifference at h
  unfold L_spec_TextDifference_x4 at h
  generalize hLEN : @len = LEN at *
  generalize hGD : @gd = GD at *
  generalize hA : std = A at *
  generalize hP : Try.prog = P at *
  cbv
  refine fork (fun b40 => ?_) (fun b40 => ?_)
  · replace h := of_br_t b40 h
    cbv
    injection h with h
    subst h
    refine ⟨(sparse 43 [(4, .c (.v (.int .i64 0))), (5, .c (.v (.int .i64 0)))] []), ?_, ?_⟩
    · exact le_sparse rfl ⟨AV.le_refl _, AV.le_refl _, trivial⟩ trivial rfl
    · exact ⟨AV.le_refl _, trivial, rfl⟩
  · replace h := of_br_f b40 h
    cbv
    replace h := of_bind h
    obtain ⟨y5, hr6, hN7⟩ := h
    refine loop_cut hr6 (fun x => (sparse 43 [(0, .c (.v (.string a0))), (1, .c (.v (.string a1))), (6, .c (.v (.int .i64 x.1))), (7, .c (.v (.int .i64 x.2.1))), (8, .c (.v (.int .i64 x.2.2)))] [])) ?_ (fun y e s => (fun (w : Int × Int) => e = .exit 0 ∧ s.le (sparse 43 [(6, .c (.v (.int .i64 w.1))), (7, .c (.v (.int .i64 w.2)))] [])) y) ?_ ?_
    · clear hr6 hN7
      show St.le _ _
      exact le_sparse rfl ⟨AV.le_refl _, AV.le_refl _, AV.le_refl _, AV.le_refl _, AV.le_refl _, trivial⟩ trivial rfl
    · clear hr6 hN7
      intro x z11 h K9 hK10 hY8
      obtain ⟨x0_, x1_, x2_⟩ := x
      replace h := of_let h
      obtain ⟨v1, hv1, h⟩ := h
      have hv1 : v1 = x0_ := hv1
      subst hv1
      replace h := of_let h
      obtain ⟨v2, hv2, h⟩ := h
      have hv2 : v2 = x1_ := hv2
      subst hv2
      replace h := of_let h
      obtain ⟨v3, hv3, h⟩ := h
      have hv3 : v3 = x2_ := hv3
      subst hv3
      cbv
      replace h := of_bind h
      obtain ⟨y16, hy17, h⟩ := h
      obtain ⟨S20, hS21⟩ : ∃ S, S = (sparse 43 [(0, .c (.v (.string a0))), (1, .c (.v (.string a1))), (6, .c (.v (.int .i64 v1))), (7, .c (.v (.int .i64 v2))), (8, .c (.v (.int .i64 v3))), (30, .c (.v (.bool y16)))] []) := ⟨_, rfl⟩
      refine ⟨S20, ?_, ?_⟩
      · clear h
        have h := hy17
        clear hy17
        cbv
        refine fork (fun b26 => ?_) (fun b26 => ?_)
        · replace h := of_br_t b26 h
          cbv
          refine fork (fun b25 => ?_) (fun b25 => ?_)
          · replace h := of_br_t b25 h
            cbv
            replace h := of_req h
            obtain ⟨c23, h⟩ := h
            refine ⟨c23, ?_⟩
            replace h := of_req h
            obtain ⟨c24, h⟩ := h
            refine ⟨c24, ?_⟩
            injection h with h
            subst h
            subst hS21
            show St.le _ _
            exact le_sparse rfl ⟨AV.le_refl _, AV.le_refl _, AV.le_refl _, AV.le_refl _, AV.le_refl _, AV.le_refl _, trivial⟩ trivial rfl
          · replace h := of_br_f b25 h
            cbv
            injection h with h
            subst h
            subst hS21
            show St.le _ _
            exact le_sparse rfl ⟨AV.le_refl _, AV.le_refl _, AV.le_refl _, AV.le_refl _, AV.le_refl _, AV.le_refl _, trivial⟩ trivial rfl
        · replace h := of_br_f b26 h
          cbv
          injection h with h
          subst h
          subst hS21
          show St.le _ _
          exact le_sparse rfl ⟨AV.le_refl _, AV.le_refl _, AV.le_refl _, AV.le_refl _, AV.le_refl _, AV.le_refl _, trivial⟩ trivial rfl
      · clear hy17
        subst hS21
        replace h := of_let h
        obtain ⟨w22, hw22, h⟩ := h
        have hw22 : w22 = y16 := hw22
        subst hw22
        cbv
        refine fork (fun b37 => ?_) (fun b37 => ?_)
        · replace h := of_br_t b37 h
          cbv
          replace h := of_req h
          obtain ⟨c27, h⟩ := h
          refine ⟨c27, ?_⟩
          replace h := of_bind h
          obtain ⟨y28, hy29, h⟩ := h
          obtain ⟨S32, hS33⟩ : ∃ S, S = some (sparse 43 [(0, .c (.v (.string a0))), (1, .c (.v (.string a1))), (6, .c (.v (.int .i64 y28.1))), (7, .c (.v (.int .i64 y28.2))), (8, .c (.v (.int .i64 v3)))] []) := ⟨_, rfl⟩
          refine ⟨S32, ?_, ?_⟩
          · clear h
            have h := hy29
            clear hy29
            cbv
            refine fork (fun b36 => ?_) (fun b36 => ?_)
            · replace h := of_br_t b36 h
              cbv
              injection h with h
              subst h
              subst hS33
              show St.le _ _
              exact le_sparse rfl ⟨AV.le_refl _, AV.le_refl _, AV.le_refl _, AV.le_refl _, AV.le_refl _, trivial⟩ trivial rfl
            · replace h := of_br_f b36 h
              cbv
              injection h with h
              subst h
              subst hS33
              show St.le _ _
              exact le_sparse rfl ⟨AV.le_refl _, AV.le_refl _, AV.le_refl _, AV.le_refl _, AV.le_refl _, trivial⟩ trivial rfl
          · clear hy29
            subst hS33
            obtain ⟨y28_0, y28_1⟩ := y28
            replace h := of_let h
            obtain ⟨w34, hw34, h⟩ := h
            have hw34 : w34 = y28_0 := hw34
            subst hw34
            replace h := of_let h
            obtain ⟨w35, hw35, h⟩ := h
            have hw35 : w35 = y28_1 := hw35
            subst hw35
            cbv
            injection h with h
            refine hK10 _ h.symm _ ?_
            exact le_sparse rfl ⟨AV.le_refl _, AV.le_refl _, AV.le_refl _, AV.le_refl _, AV.le_refl _, trivial⟩ trivial rfl
        · replace h := of_br_f b37 h
          cbv
          injection h with h
          refine hY8 _ h.symm _ _ (And.intro rfl ?_) (by intro hh; cases hh)
          exact le_sparse rfl ⟨AV.le_refl _, AV.le_refl _, trivial⟩ trivial rfl
    · clear hr6
      have h := hN7
      clear hN7
      intro e14 s15 q13 hne
      replace h := of_let h
      obtain ⟨y5k0, hyk, h⟩ := h
      have hyk : y5k0 = y5 := hyk
      subst hyk
      obtain ⟨rfl, q13⟩ := q13
      obtain ⟨y5k0_0, y5k0_1⟩ := y5k0
      replace h := of_let h
      obtain ⟨w38, hw38, h⟩ := h
      have hw38 : w38 = y5k0_0 := hw38
      subst hw38
      replace h := of_let h
      obtain ⟨w39, hw39, h⟩ := h
      have hw39 : w39 = y5k0_1 := hw39
      subst hw39
      cbv
      refine ⟨_, q13, ?_⟩
      cbv
      injection h with h
      subst h
      refine ⟨(sparse 43 [(4, .c (.v (.int .i64 w38))), (5, .c (.v (.int .i64 w39)))] []), ?_, ?_⟩
      · exact le_sparse rfl ⟨AV.le_refl _, AV.le_refl _, trivial⟩ trivial rfl
      · exact ⟨AV.le_refl _, trivial, rfl⟩


set_option maxHeartbeats 1000000 in
/-- strings.Count of one byte -/
theorem count_one (s : ByteArray) (c : UInt8) (w : World) :
    Calls Try.prog 65 #[.string s, .string ⟨#[c]⟩] w fun e w' => e = .returned (.int .i64 (Lib.countByte s.data.toList c)) ∧ w' = w := by
  go_enter Try.func65, Try.ntmps65
  go_wp2
  rw [run_callFunc_extern Try.func135 (by kernel_rfl) (by kernel_rfl) (by kernel_rfl) (e := Extern.BytealgCount.count) (by kernel_rfl), Lib.run_countString]
  simp only [Result.andThen]
  rw [Oper.upon_value]
  go_wp2
  go_ret
  exact ⟨rfl, rfl⟩
open Classical in
/-- strings.Count of line ends -/
noncomputable def F_strings_Count (a0 : ByteArray) (a1 : ByteArray) : Option (Int) :=
  if a1 = ByteArray.mk #[10] then some (Lib.countByte a0.data.toList 10) else none
theorem run_strings_Count (a0 : ByteArray) (a1 : ByteArray) (r : Int) (h : F_strings_Count a0 a1 = some r) : Fun Try.prog 65 [.c (.v (.string a0)), .c (.v (.string a1))] [] (.c (.v (.int .i64 r))) [] true := by
  unfold F_strings_Count at h
  split at h
  · rename_i h1
    subst h1
    injection h with h
    subst h
    exact Fun.pure Try.func65 (by kernel_rfl) (by kernel_rfl) [.string a0, .string (ByteArray.mk #[10])] (fun w => count_one a0 10 w)
  · cases h

noncomputable def L_bytealg_LastIndexByteString_x2 (a0 : ByteArray) (a1 : Int) : (Int) → Option ((Int) ⊕ ((Int) ⊕ (Unit))) := fun x2 =>
  letO x2 fun v1 =>
  br (std.le 0 v1)
  (req (std.inR v1 (std.slen a0)) <|
  br (std.eq (std.sat a0 (std.toN v1)) a1)
  (some (.inr (.inl v1)))
  (some (.inl (std.sub .i64 v1 1))))
  (some (.inr (.inr ())))
/-- bytealg.LastIndexByteString -/
noncomputable def F_bytealg_LastIndexByteString (a0 : ByteArray) (a1 : Int) : Option (Int) :=
  (whileP (σ := Int) (ρ := (Int) ⊕ (Unit)) (L_bytealg_LastIndexByteString_x2 a0 a1) (std.sub .i64 (std.ofN (std.slen a0)) 1)).bind fun y3 =>
  (match y3 with
    | .inl y3k0 => (
        letO y3k0 fun w17 =>
        some w17)
    | .inr y3m0 =>
        some (-1))
theorem run_bytealg_LastIndexByteString (a0 : ByteArray) (a1 : Int) (r : Int) (h : F_bytealg_LastIndexByteString a0 a1 = some r) : Fun Try.prog 137 [.c (.v (.string a0)), .c (.v (.int .u8 a1))] [] (.c (.v (.int .i64 r))) [] true := by
  refine Fun.of_wp (oneOf []) tok mixed Try.func137 (by kernel_rfl) rfl Try.ntmps137 rfl trivial (fun _ => ⟨trivial, trivial⟩) ?_
  unfold F_bytealg_LastIndexByteString at h
  unfold L_bytealg_LastIndexByteString_x2 at h
  generalize hLEN : @len = LEN at *
  generalize hGD : @gd = GD at *
  generalize hA : std = A at *
  generalize hP : Try.prog = P at *
  cbv
  replace h := of_bind h
  obtain ⟨y3, hr4, hN5⟩ := h
  refine loop_cut hr4 (fun x => (sparse 19 [(0, .c (.v (.string a0))), (1, .c (.v (.int .u8 a1))), (5, .c (.v (.int .i64 x)))] [])) ?_ (fun y e s => (match y with | .inl w => e = .ret ∧ s.le (sparse 19 [(4, .c (.v (.int .i64 w)))] []) | .inr w0 => (fun (w : Unit) => e = .exit 0 ∧ s.le (sparse 19 [] [])) w0)) ?_ ?_
  · clear hr4 hN5
    show St.le _ _
    exact le_sparse rfl ⟨AV.le_refl _, AV.le_refl _, AV.le_refl _, trivial⟩ trivial rfl
  · clear hr4 hN5
    intro x z9 h K7 hK8 hY6
    replace h := of_let h
    obtain ⟨v1, hv1, h⟩ := h
    have hv1 : v1 = x := hv1
    subst hv1
    cbv
    refine fork (fun b16 => ?_) (fun b16 => ?_)
    · replace h := of_br_t b16 h
      cbv
      replace h := of_req h
      obtain ⟨c14, h⟩ := h
      refine ⟨c14, ?_⟩
      refine fork (fun b15 => ?_) (fun b15 => ?_)
      · replace h := of_br_t b15 h
        cbv
        injection h with h
        refine hY6 _ h.symm _ _ (And.intro rfl ?_) (by intro hh; cases hh)
        exact le_sparse rfl ⟨AV.le_refl _, trivial⟩ trivial rfl
      · replace h := of_br_f b15 h
        cbv
        injection h with h
        refine hK8 _ h.symm _ ?_
        exact le_sparse rfl ⟨AV.le_refl _, AV.le_refl _, AV.le_refl _, trivial⟩ trivial rfl
    · replace h := of_br_f b16 h
      cbv
      injection h with h
      refine hY6 _ h.symm _ _ (And.intro rfl ?_) (by intro hh; cases hh)
      exact le_sparse rfl trivial trivial rfl
  · clear hr4
    have h := hN5
    clear hN5
    intro e12 s13 q11 hne
    rcases y3 with y3k0 | y3m0
    · replace h := h
      obtain ⟨rfl, q11⟩ := q11
      replace h := of_let h
      obtain ⟨w17, hw17, h⟩ := h
      have hw17 : w17 = y3k0 := hw17
      subst hw17
      cbv
      injection h with h
      subst h
      refine ⟨(sparse 19 [(4, .c (.v (.int .i64 w17)))] []), ?_, ?_⟩
      · refine St.le_trans q11 ?_
        exact le_sparse rfl ⟨AV.le_refl _, trivial⟩ trivial rfl
      · exact ⟨AV.le_refl _, trivial, rfl⟩
    · obtain ⟨rfl, q11⟩ := q11
      cbv
      refine ⟨_, q11, ?_⟩
      cbv
      injection h with h
      subst h
      refine ⟨(sparse 19 [(4, .c (.v (.int .i64 (-1))))] []), ?_, ?_⟩
      · exact le_sparse rfl ⟨AV.le_refl _, trivial⟩ trivial rfl
      · exact ⟨AV.le_refl _, trivial, rfl⟩

noncomputable def L_internal_bytealg_hashStrRev_string_x18 (a0 : ByteArray) : (Unit) → Option ((Unit) ⊕ ((Unit))) := fun x18 =>
  br (std.lt 0 (std.ofN (std.slen a0)))
  (none)
  (some (.inr ()))
noncomputable def L_internal_bytealg_hashStrRev_string_x3 (a0 : ByteArray) : (Int × Int) → Option ((Int × Int) ⊕ ((Int))) := fun x3 =>
  letO x3.1 fun v1 =>
  letO x3.2 fun v2 =>
  br (std.le 0 v2)
  (req (std.inR v2 (std.slen a0)) <|
  some (.inl (std.add .u32 (std.mul .u32 v1 16777619) (std.conv .u32 (std.sat a0 (std.toN v2))), std.sub .i64 v2 1)))
  (some (.inr v1))
/-- bytealg.hashStrRev[string] -/
noncomputable def F_internal_bytealg_hashStrRev_string (a0 : ByteArray) : Option (Int × Int) :=
  (whileP (σ := Int × Int) (ρ := (Int)) (L_internal_bytealg_hashStrRev_string_x3 a0) (0, std.sub .i64 (std.ofN (std.slen a0)) 1)).bind fun y4 =>
  letO y4 fun y4k0 =>
  letO y4k0 fun w17 =>
  (whileP (σ := Unit) (ρ := (Unit)) (L_internal_bytealg_hashStrRev_string_x18 a0) ()).bind fun y19 =>
  some (w17, 1)
theorem run_internal_bytealg_hashStrRev_string (a0 : ByteArray) (r : Int × Int) (h : F_internal_bytealg_hashStrRev_string a0 = some r) : Fun Try.prog 191 [.c (.v (.string a0))] [] (.tup [.c (.v (.int .u32 r.1)), .c (.v (.int .u32 r.2))]) [] true := by
  refine Fun.of_wp (oneOf []) tok mixed Try.func191 (by kernel_rfl) rfl Try.ntmps191 rfl trivial (fun _ => ⟨(by simp [AV.flat, AV.flat1, AC.flat]), trivial⟩) ?_
  unfold F_internal_bytealg_hashStrRev_string at h
  unfold L_internal_bytealg_hashStrRev_string_x3 at h
  unfold L_internal_bytealg_hashStrRev_string_x18 at h
  generalize hLEN : @len = LEN at *
  generalize hGD : @gd = GD at *
  generalize hA : std = A at *
  generalize hP : Try.prog = P at *
  cbv
  replace h := of_bind h
  obtain ⟨y4, hr5, hN6⟩ := h
  refine loop_cut hr5 (fun x => (sparse 40 [(0, .c (.v (.string a0))), (4, .c (.v (.int .u32 x.1))), (5, .c (.v (.int .i64 x.2)))] [])) ?_ (fun y e s => (fun (w : Int) => e = .exit 0 ∧ s.le (sparse 40 [(0, .c (.v (.string a0))), (4, .c (.v (.int .u32 w)))] [])) y) ?_ ?_
  · clear hr5 hN6
    show St.le _ _
    exact le_sparse rfl ⟨AV.le_refl _, AV.le_refl _, AV.le_refl _, trivial⟩ trivial rfl
  · clear hr5 hN6
    intro x z10 h K8 hK9 hY7
    obtain ⟨x0_, x1_⟩ := x
    replace h := of_let h
    obtain ⟨v1, hv1, h⟩ := h
    have hv1 : v1 = x0_ := hv1
    subst hv1
    replace h := of_let h
    obtain ⟨v2, hv2, h⟩ := h
    have hv2 : v2 = x1_ := hv2
    subst hv2
    cbv
    refine fork (fun b16 => ?_) (fun b16 => ?_)
    · replace h := of_br_t b16 h
      cbv
      replace h := of_req h
      obtain ⟨c15, h⟩ := h
      refine ⟨c15, ?_⟩
      injection h with h
      refine hK9 _ h.symm _ ?_
      exact le_sparse rfl ⟨AV.le_refl _, AV.le_refl _, AV.le_refl _, trivial⟩ trivial rfl
    · replace h := of_br_f b16 h
      cbv
      injection h with h
      refine hY7 _ h.symm _ _ (And.intro rfl ?_) (by intro hh; cases hh)
      exact le_sparse rfl ⟨AV.le_refl _, AV.le_refl _, trivial⟩ trivial rfl
  · clear hr5
    have h := hN6
    clear hN6
    intro e13 s14 q12 hne
    replace h := of_let h
    obtain ⟨y4k0, hyk, h⟩ := h
    have hyk : y4k0 = y4 := hyk
    subst hyk
    obtain ⟨rfl, q12⟩ := q12
    replace h := of_let h
    obtain ⟨w17, hw17, h⟩ := h
    have hw17 : w17 = y4k0 := hw17
    subst hw17
    cbv
    refine ⟨_, q12, ?_⟩
    cbv
    replace h := of_bind h
    obtain ⟨y19, hr20, hN21⟩ := h
    refine loop_cut hr20 (fun x => (sparse 40 [(4, .c (.v (.int .u32 w17))), (6, .c (.v (.int .u32 1))), (7, .c (.v (.int .u32 16777619))), (8, .c (.v (.int .i64 (A.ofN (A.slen a0)))))] [])) ?_ (fun y e s => (fun (w : Unit) => e = .exit 2 ∧ s.le (sparse 40 [(4, .c (.v (.int .u32 w17))), (6, .c (.v (.int .u32 1)))] [])) y) ?_ ?_
    · clear hr20 hN21
      show St.le _ _
      exact le_sparse rfl ⟨AV.le_refl _, AV.le_refl _, AV.le_refl _, AV.le_refl _, trivial⟩ trivial rfl
    · clear hr20 hN21
      intro x z25 h K23 hK24 hY22
      cbv
      refine fork (fun b30 => ?_) (fun b30 => ?_)
      · replace h := of_br_t b30 h
        cases h
      · replace h := of_br_f b30 h
        cbv
        injection h with h
        refine hY22 _ h.symm _ _ (And.intro rfl ?_) (by intro hh; cases hh)
        exact le_sparse rfl ⟨AV.le_refl _, AV.le_refl _, trivial⟩ trivial rfl
    · clear hr20
      have h := hN21
      clear hN21
      intro e28 s29 q27 hne
      obtain ⟨rfl, q27⟩ := q27
      cbv
      refine ⟨_, q27, ?_⟩
      cbv
      injection h with h
      subst h
      refine ⟨(sparse 40 [(2, .c (.v (.int .u32 w17))), (3, .c (.v (.int .u32 1)))] []), ?_, ?_⟩
      · exact le_sparse rfl ⟨AV.le_refl _, AV.le_refl _, trivial⟩ trivial rfl
      · exact ⟨AV.le_refl _, trivial, rfl⟩

noncomputable def L_internal_bytealg_LastIndexRabinKarp_string_x31 (a0 : ByteArray) (a1 : ByteArray) (y1 : Int × Int) : (Int × Int) → Option ((Int × Int) ⊕ ((Int) ⊕ (Unit))) := fun x31 =>
  letO x31.1 fun v29 =>
  letO x31.2 fun v30 =>
  br (std.le 0 v30)
  (req (std.inR v30 (std.slen a0)) <|
  req (std.inR (std.add .i64 v30 (std.ofN (std.slen a1))) (std.slen a0)) <|
  ((
        br (std.eq (std.sub .u32 (std.add .u32 (std.mul .u32 v29 16777619) (std.conv .u32 (std.sat a0 (std.toN v30)))) (std.mul .u32 y1.2 (std.conv .u32 (std.sat a0 (std.toN (std.add .i64 v30 (std.ofN (std.slen a1)))))))) y1.1)
        (req (std.upTo (std.add .i64 v30 (std.ofN (std.slen a1))) (std.slen a0)) <|
        req (std.upTo v30 (std.toN (std.add .i64 v30 (std.ofN (std.slen a1))))) <|
        some (std.seq (std.ssub a0 (std.toN v30) (std.toN (std.add .i64 v30 (std.ofN (std.slen a1))))) a1))
        (some false)
    ) : Option (Bool)).bind fun y45 =>
  letO y45 fun w51 =>
  br w51
  (some (.inr (.inl v30)))
  (some (.inl (std.sub .u32 (std.add .u32 (std.mul .u32 v29 16777619) (std.conv .u32 (std.sat a0 (std.toN v30)))) (std.mul .u32 y1.2 (std.conv .u32 (std.sat a0 (std.toN (std.add .i64 v30 (std.ofN (std.slen a1))))))), std.sub .i64 v30 1))))
  (some (.inr (.inr ())))
noncomputable def L_internal_bytealg_LastIndexRabinKarp_string_x5 (a0 : ByteArray) (a1 : ByteArray) : (Int × Int) → Option ((Int × Int) ⊕ ((Int))) := fun x5 =>
  letO x5.1 fun v3 =>
  letO x5.2 fun v4 =>
  br (std.le (std.sub .i64 (std.ofN (std.slen a0)) (std.ofN (std.slen a1))) v4)
  (req (std.inR v4 (std.slen a0)) <|
  some (.inl (std.add .u32 (std.mul .u32 v3 16777619) (std.conv .u32 (std.sat a0 (std.toN v4))), std.sub .i64 v4 1)))
  (some (.inr v3))
/-- bytealg.LastIndexRabinKarp[string] -/
noncomputable def F_internal_bytealg_LastIndexRabinKarp_string (a0 : ByteArray) (a1 : ByteArray) : Option (Int) :=
  (F_internal_bytealg_hashStrRev_string a1).bind fun y1 =>
  (whileP (σ := Int × Int) (ρ := (Int)) (L_internal_bytealg_LastIndexRabinKarp_string_x5 a0 a1) (0, std.sub .i64 (std.ofN (std.slen a0)) 1)).bind fun y6 =>
  letO y6 fun y6k0 =>
  letO y6k0 fun w19 =>
  ((
        br (std.eq w19 y1.1)
        (req (std.upTo (std.sub .i64 (std.ofN (std.slen a0)) (std.ofN (std.slen a1))) (std.slen a0)) <|
        some (std.seq (std.ssub a0 (std.toN (std.sub .i64 (std.ofN (std.slen a0)) (std.ofN (std.slen a1)))) (std.slen a0)) a1))
        (some false)
    ) : Option (Bool)).bind fun y20 =>
  letO y20 fun w26 =>
  br w26
  (some (std.sub .i64 (std.ofN (std.slen a0)) (std.ofN (std.slen a1))))
  ((whileP (σ := Int × Int) (ρ := (Int) ⊕ (Unit)) (L_internal_bytealg_LastIndexRabinKarp_string_x31 a0 a1 y1) (w19, std.sub .i64 (std.sub .i64 (std.ofN (std.slen a0)) (std.ofN (std.slen a1))) 1)).bind fun y32 =>
  (match y32 with
    | .inl y32k0 => (
        letO y32k0 fun w57 =>
        some w57)
    | .inr y32m0 =>
        some (-1)))
theorem run_internal_bytealg_LastIndexRabinKarp_string (a0 : ByteArray) (a1 : ByteArray) (r : Int) (h : F_internal_bytealg_LastIndexRabinKarp_string a0 a1 = some r) : Fun Try.prog 138 [.c (.v (.string a0)), .c (.v (.string a1))] [] (.c (.v (.int .i64 r))) [] true := by
  refine Fun.of_wp (oneOf [9, 17]) tok mixed Try.func138 (by kernel_rfl) rfl Try.ntmps138 rfl trivial (fun _ => ⟨trivial, trivial⟩) ?_
  unfold F_internal_bytealg_LastIndexRabinKarp_string at h
  unfold L_internal_bytealg_LastIndexRabinKarp_string_x5 at h
  unfold L_internal_bytealg_LastIndexRabinKarp_string_x31 at h
  have hf_internal_bytealg_hashStrRev_string := @run_internal_bytealg_hashStrRev_string
  generalize hLEN : @len = LEN at *
  generalize hGD : @gd = GD at *
  generalize hA : std = A at *
  generalize hP : Try.prog = P at *
  cbv
  replace h := of_bind h
  obtain ⟨y1, hy2, h⟩ := h
  refine ⟨{ args := [.c (.v (.string a1))], o0 := [], r := .tup [.c (.v (.int .u32 y1.1)), .c (.v (.int .u32 y1.2))], o1 := [], fl := true, σ := [], τ := [] }, hf_internal_bytealg_hashStrRev_string _ _ hy2, ⟨les_cons (AV.le_refl _) (les_nil), trivial, rfl, rfl, rfl, rfl, trivial, rfl⟩, ?_⟩
  cbv
  replace h := of_bind h
  obtain ⟨y6, hr7, hN8⟩ := h
  refine loop_cut hr7 (fun x => (sparse 87 [(0, .c (.v (.string a0))), (1, .c (.v (.string a1))), (5, .c (.v (.int .u32 y1.1))), (6, .c (.v (.int .u32 y1.2))), (7, .c (.v (.int .i64 (A.ofN (A.slen a1))))), (8, .c (.v (.int .i64 (A.sub .i64 (A.ofN (A.slen a0)) (A.ofN (A.slen a1)))))), (9, .c (.v (.int .u32 x.1))), (10, .c (.v (.int .i64 x.2)))] [])) ?_ (fun y e s => (fun (w : Int) => e = .exit 0 ∧ s.le (sparse 87 [(0, .c (.v (.string a0))), (1, .c (.v (.string a1))), (5, .c (.v (.int .u32 y1.1))), (6, .c (.v (.int .u32 y1.2))), (7, .c (.v (.int .i64 (A.ofN (A.slen a1))))), (8, .c (.v (.int .i64 (A.sub .i64 (A.ofN (A.slen a0)) (A.ofN (A.slen a1)))))), (9, .c (.v (.int .u32 w)))] [])) y) ?_ ?_
  · clear hr7 hN8
    show St.le _ _
    exact le_sparse rfl ⟨AV.le_refl _, AV.le_refl _, AV.le_refl _, AV.le_refl _, AV.le_refl _, AV.le_refl _, AV.le_refl _, AV.le_refl _, trivial⟩ trivial rfl
  · clear hr7 hN8
    intro x z12 h K10 hK11 hY9
    obtain ⟨x0_, x1_⟩ := x
    replace h := of_let h
    obtain ⟨v3, hv3, h⟩ := h
    have hv3 : v3 = x0_ := hv3
    subst hv3
    replace h := of_let h
    obtain ⟨v4, hv4, h⟩ := h
    have hv4 : v4 = x1_ := hv4
    subst hv4
    cbv
    refine fork (fun b18 => ?_) (fun b18 => ?_)
    · replace h := of_br_t b18 h
      cbv
      replace h := of_req h
      obtain ⟨c17, h⟩ := h
      refine ⟨c17, ?_⟩
      injection h with h
      refine hK11 _ h.symm _ ?_
      exact le_sparse rfl ⟨AV.le_refl _, AV.le_refl _, AV.le_refl _, AV.le_refl _, AV.le_refl _, AV.le_refl _, AV.le_refl _, AV.le_refl _, trivial⟩ trivial rfl
    · replace h := of_br_f b18 h
      cbv
      injection h with h
      refine hY9 _ h.symm _ _ (And.intro rfl ?_) (by intro hh; cases hh)
      exact le_sparse rfl ⟨AV.le_refl _, AV.le_refl _, AV.le_refl _, AV.le_refl _, AV.le_refl _, AV.le_refl _, AV.le_refl _, trivial⟩ trivial rfl
  · clear hr7
    have h := hN8
    clear hN8
    intro e15 s16 q14 hne
    replace h := of_let h
    obtain ⟨y6k0, hyk, h⟩ := h
    have hyk : y6k0 = y6 := hyk
    subst hyk
    obtain ⟨rfl, q14⟩ := q14
    replace h := of_let h
    obtain ⟨w19, hw19, h⟩ := h
    have hw19 : w19 = y6k0 := hw19
    subst hw19
    cbv
    refine ⟨_, q14, ?_⟩
    cbv
    replace h := of_bind h
    obtain ⟨y20, hy21, h⟩ := h
    obtain ⟨S24, hS25⟩ : ∃ S, S = (sparse 87 [(0, .c (.v (.string a0))), (1, .c (.v (.string a1))), (5, .c (.v (.int .u32 y1.1))), (6, .c (.v (.int .u32 y1.2))), (7, .c (.v (.int .i64 (A.ofN (A.slen a1))))), (8, .c (.v (.int .i64 (A.sub .i64 (A.ofN (A.slen a0)) (A.ofN (A.slen a1)))))), (9, .c (.v (.int .u32 w19))), (47, .c (.v (.bool y20)))] []) := ⟨_, rfl⟩
    refine ⟨S24, ?_, ?_⟩
    · clear h
      have h := hy21
      clear hy21
      cbv
      refine fork (fun b28 => ?_) (fun b28 => ?_)
      · replace h := of_br_t b28 h
        cbv
        replace h := of_req h
        obtain ⟨c27, h⟩ := h
        refine ⟨c27, ?_⟩
        injection h with h
        subst h
        subst hS25
        show St.le _ _
        exact le_sparse rfl ⟨AV.le_refl _, AV.le_refl _, AV.le_refl _, AV.le_refl _, AV.le_refl _, AV.le_refl _, AV.le_refl _, AV.le_refl _, trivial⟩ trivial rfl
      · replace h := of_br_f b28 h
        cbv
        injection h with h
        subst h
        subst hS25
        show St.le _ _
        exact le_sparse rfl ⟨AV.le_refl _, AV.le_refl _, AV.le_refl _, AV.le_refl _, AV.le_refl _, AV.le_refl _, AV.le_refl _, AV.le_refl _, trivial⟩ trivial rfl
    · clear hy21
      subst hS25
      replace h := of_let h
      obtain ⟨w26, hw26, h⟩ := h
      have hw26 : w26 = y20 := hw26
      subst hw26
      cbv
      refine fork (fun b58 => ?_) (fun b58 => ?_)
      · replace h := of_br_t b58 h
        cbv
        injection h with h
        subst h
        refine ⟨(sparse 87 [(4, .c (.v (.int .i64 (A.sub .i64 (A.ofN (A.slen a0)) (A.ofN (A.slen a1))))))] []), ?_, ?_⟩
        · exact le_sparse rfl ⟨AV.le_refl _, trivial⟩ trivial rfl
        · exact ⟨AV.le_refl _, trivial, rfl⟩
      · replace h := of_br_f b58 h
        cbv
        replace h := of_bind h
        obtain ⟨y32, hr33, hN34⟩ := h
        refine loop_cut hr33 (fun x => (sparse 87 [(0, .c (.v (.string a0))), (1, .c (.v (.string a1))), (5, .c (.v (.int .u32 y1.1))), (6, .c (.v (.int .u32 y1.2))), (7, .c (.v (.int .i64 (A.ofN (A.slen a1))))), (9, .c (.v (.int .u32 x.1))), (11, .c (.v (.int .i64 x.2)))] [])) ?_ (fun y e s => (match y with | .inl w => e = .ret ∧ s.le (sparse 87 [(4, .c (.v (.int .i64 w)))] []) | .inr w0 => (fun (w : Unit) => e = .exit 2 ∧ s.le (sparse 87 [] [])) w0)) ?_ ?_
        · clear hr33 hN34
          show St.le _ _
          exact le_sparse rfl ⟨AV.le_refl _, AV.le_refl _, AV.le_refl _, AV.le_refl _, AV.le_refl _, AV.le_refl _, AV.le_refl _, trivial⟩ trivial rfl
        · clear hr33 hN34
          intro x z38 h K36 hK37 hY35
          obtain ⟨x0_, x1_⟩ := x
          replace h := of_let h
          obtain ⟨v29, hv29, h⟩ := h
          have hv29 : v29 = x0_ := hv29
          subst hv29
          replace h := of_let h
          obtain ⟨v30, hv30, h⟩ := h
          have hv30 : v30 = x1_ := hv30
          subst hv30
          cbv
          refine fork (fun b56 => ?_) (fun b56 => ?_)
          · replace h := of_br_t b56 h
            cbv
            replace h := of_req h
            obtain ⟨c43, h⟩ := h
            refine ⟨c43, ?_⟩
            replace h := of_req h
            obtain ⟨c44, h⟩ := h
            refine ⟨c44, ?_⟩
            replace h := of_bind h
            obtain ⟨y45, hy46, h⟩ := h
            obtain ⟨S49, hS50⟩ : ∃ S, S = (sparse 87 [(0, .c (.v (.string a0))), (1, .c (.v (.string a1))), (5, .c (.v (.int .u32 y1.1))), (6, .c (.v (.int .u32 y1.2))), (7, .c (.v (.int .i64 (A.ofN (A.slen a1))))), (9, .c (.v (.int .u32 (A.sub .u32 (A.add .u32 (A.mul .u32 v29 16777619) (A.conv .u32 (A.sat a0 (A.toN v30)))) (A.mul .u32 y1.2 (A.conv .u32 (A.sat a0 (A.toN (A.add .i64 v30 (A.ofN (A.slen a1))))))))))), (11, .c (.v (.int .i64 v30))), (85, .c (.v (.bool y45)))] []) := ⟨_, rfl⟩
            refine ⟨S49, ?_, ?_⟩
            · clear h
              have h := hy46
              clear hy46
              cbv
              refine fork (fun b54 => ?_) (fun b54 => ?_)
              · replace h := of_br_t b54 h
                cbv
                replace h := of_req h
                obtain ⟨c52, h⟩ := h
                replace h := of_req h
                obtain ⟨c53, h⟩ := h
                refine ⟨⟨c52, c53⟩, ?_⟩
                injection h with h
                subst h
                subst hS50
                show St.le _ _
                exact le_sparse rfl ⟨AV.le_refl _, AV.le_refl _, AV.le_refl _, AV.le_refl _, AV.le_refl _, AV.le_refl _, AV.le_refl _, AV.le_refl _, trivial⟩ trivial rfl
              · replace h := of_br_f b54 h
                cbv
                injection h with h
                subst h
                subst hS50
                show St.le _ _
                exact le_sparse rfl ⟨AV.le_refl _, AV.le_refl _, AV.le_refl _, AV.le_refl _, AV.le_refl _, AV.le_refl _, AV.le_refl _, AV.le_refl _, trivial⟩ trivial rfl
            · clear hy46
              subst hS50
              replace h := of_let h
              obtain ⟨w51, hw51, h⟩ := h
              have hw51 : w51 = y45 := hw51
              subst hw51
              cbv
              refine fork (fun b55 => ?_) (fun b55 => ?_)
              · replace h := of_br_t b55 h
                cbv
                injection h with h
                refine hY35 _ h.symm _ _ (And.intro rfl ?_) (by intro hh; cases hh)
                exact le_sparse rfl ⟨AV.le_refl _, trivial⟩ trivial rfl
              · replace h := of_br_f b55 h
                cbv
                injection h with h
                refine hK37 _ h.symm _ ?_
                exact le_sparse rfl ⟨AV.le_refl _, AV.le_refl _, AV.le_refl _, AV.le_refl _, AV.le_refl _, AV.le_refl _, AV.le_refl _, trivial⟩ trivial rfl
          · replace h := of_br_f b56 h
            cbv
            injection h with h
            refine hY35 _ h.symm _ _ (And.intro rfl ?_) (by intro hh; cases hh)
            exact le_sparse rfl trivial trivial rfl
        · clear hr33
          have h := hN34
          clear hN34
          intro e41 s42 q40 hne
          rcases y32 with y32k0 | y32m0
          · replace h := h
            obtain ⟨rfl, q40⟩ := q40
            replace h := of_let h
            obtain ⟨w57, hw57, h⟩ := h
            have hw57 : w57 = y32k0 := hw57
            subst hw57
            cbv
            injection h with h
            subst h
            refine ⟨(sparse 87 [(4, .c (.v (.int .i64 w57)))] []), ?_, ?_⟩
            · refine St.le_trans q40 ?_
              exact le_sparse rfl ⟨AV.le_refl _, trivial⟩ trivial rfl
            · exact ⟨AV.le_refl _, trivial, rfl⟩
          · obtain ⟨rfl, q40⟩ := q40
            cbv
            refine ⟨_, q40, ?_⟩
            cbv
            injection h with h
            subst h
            refine ⟨(sparse 87 [(4, .c (.v (.int .i64 (-1))))] []), ?_, ?_⟩
            · exact le_sparse rfl ⟨AV.le_refl _, trivial⟩ trivial rfl
            · exact ⟨AV.le_refl _, trivial, rfl⟩

/-- strings.LastIndex -/
noncomputable def F_strings_LastIndex (a0 : ByteArray) (a1 : ByteArray) : Option (Int) :=
  br (std.eq (std.ofN (std.slen a1)) 0)
  (some (std.ofN (std.slen a0)))
  (br (std.eq (std.ofN (std.slen a1)) 1)
  (req (std.inR 0 (std.slen a1)) <|
  (F_bytealg_LastIndexByteString a0 (std.sat a1 (std.toN 0))).bind fun y2 =>
  some y2)
  (br (std.eq (std.ofN (std.slen a1)) (std.ofN (std.slen a0)))
  (br (std.seq a1 a0)
  (some 0)
  (some (-1)))
  (br (std.lt (std.ofN (std.slen a0)) (std.ofN (std.slen a1)))
  (some (-1))
  ((F_internal_bytealg_LastIndexRabinKarp_string a0 a1).bind fun y5 =>
  some y5))))
theorem run_strings_LastIndex (a0 : ByteArray) (a1 : ByteArray) (r : Int) (h : F_strings_LastIndex a0 a1 = some r) : Fun Try.prog 66 [.c (.v (.string a0)), .c (.v (.string a1))] [] (.c (.v (.int .i64 r))) [] true := by
  refine Fun.of_wp (oneOf []) tok mixed Try.func66 (by kernel_rfl) rfl Try.ntmps66 rfl trivial (fun _ => ⟨trivial, trivial⟩) ?_
  unfold F_strings_LastIndex at h
  have hf_bytealg_LastIndexByteString := @run_bytealg_LastIndexByteString
  have hf_internal_bytealg_LastIndexRabinKarp_string := @run_internal_bytealg_LastIndexRabinKarp_string
  generalize hLEN : @len = LEN at *
  generalize hGD : @gd = GD at *
  generalize hA : std = A at *
  generalize hP : Try.prog = P at *
  cbv
  refine fork (fun b10 => ?_) (fun b10 => ?_)
  · replace h := of_br_t b10 h
    cbv
    injection h with h
    subst h
    refine ⟨(sparse 36 [(4, .c (.v (.int .i64 (A.ofN (A.slen a0)))))] []), ?_, ?_⟩
    · exact le_sparse rfl ⟨AV.le_refl _, trivial⟩ trivial rfl
    · exact ⟨AV.le_refl _, trivial, rfl⟩
  · replace h := of_br_f b10 h
    cbv
    refine fork (fun b9 => ?_) (fun b9 => ?_)
    · replace h := of_br_t b9 h
      cbv
      replace h := of_req h
      obtain ⟨c1, h⟩ := h
      refine ⟨c1, ?_⟩
      replace h := of_bind h
      obtain ⟨y2, hy3, h⟩ := h
      refine ⟨{ args := [.c (.v (.string a0)), .c (.v (.int .u8 (A.sat a1 (A.toN 0))))], o0 := [], r := .c (.v (.int .i64 y2)), o1 := [], fl := true, σ := [], τ := [] }, hf_bytealg_LastIndexByteString _ _ _ hy3, ⟨les_cons (AV.le_refl _) (les_cons (AV.le_refl _) (les_nil)), trivial, rfl, rfl, rfl, rfl, trivial, rfl⟩, ?_⟩
      cbv
      injection h with h
      subst h
      refine ⟨(sparse 36 [(4, .c (.v (.int .i64 y2)))] []), ?_, ?_⟩
      · exact le_sparse rfl ⟨AV.le_refl _, trivial⟩ trivial rfl
      · exact ⟨AV.le_refl _, trivial, rfl⟩
    · replace h := of_br_f b9 h
      cbv
      refine fork (fun b8 => ?_) (fun b8 => ?_)
      · replace h := of_br_t b8 h
        cbv
        refine fork (fun b4 => ?_) (fun b4 => ?_)
        · replace h := of_br_t b4 h
          cbv
          injection h with h
          subst h
          refine ⟨(sparse 36 [(4, .c (.v (.int .i64 0)))] []), ?_, ?_⟩
          · exact le_sparse rfl ⟨AV.le_refl _, trivial⟩ trivial rfl
          · exact ⟨AV.le_refl _, trivial, rfl⟩
        · replace h := of_br_f b4 h
          cbv
          injection h with h
          subst h
          refine ⟨(sparse 36 [(4, .c (.v (.int .i64 (-1))))] []), ?_, ?_⟩
          · exact le_sparse rfl ⟨AV.le_refl _, trivial⟩ trivial rfl
          · exact ⟨AV.le_refl _, trivial, rfl⟩
      · replace h := of_br_f b8 h
        cbv
        refine fork (fun b7 => ?_) (fun b7 => ?_)
        · replace h := of_br_t b7 h
          cbv
          injection h with h
          subst h
          refine ⟨(sparse 36 [(4, .c (.v (.int .i64 (-1))))] []), ?_, ?_⟩
          · exact le_sparse rfl ⟨AV.le_refl _, trivial⟩ trivial rfl
          · exact ⟨AV.le_refl _, trivial, rfl⟩
        · replace h := of_br_f b7 h
          cbv
          replace h := of_bind h
          obtain ⟨y5, hy6, h⟩ := h
          refine ⟨{ args := [.c (.v (.string a0)), .c (.v (.string a1))], o0 := [], r := .c (.v (.int .i64 y5)), o1 := [], fl := true, σ := [], τ := [] }, hf_internal_bytealg_LastIndexRabinKarp_string _ _ _ hy6, ⟨les_cons (AV.le_refl _) (les_cons (AV.le_refl _) (les_nil)), trivial, rfl, rfl, rfl, rfl, trivial, rfl⟩, ?_⟩
          cbv
          injection h with h
          subst h
          refine ⟨(sparse 36 [(4, .c (.v (.int .i64 y5)))] []), ?_, ?_⟩
          · exact le_sparse rfl ⟨AV.le_refl _, trivial⟩ trivial rfl
          · exact ⟨AV.le_refl _, trivial, rfl⟩

noncomputable def L_impl_TextDifference_x2 (a0 : ByteArray) (a1 : ByteArray) : (Int) → Option ((Int) ⊕ ((Int))) := fun x2 =>
  letO x2 fun v1 =>
  ((
        br (std.lt v1 (std.ofN (std.slen a0)))
        (br (std.lt v1 (std.ofN (std.slen a1)))
        (req (std.inR v1 (std.slen a0)) <|
        req (std.inR v1 (std.slen a1)) <|
        some (std.eq (std.sat a0 (std.toN v1)) (std.sat a1 (std.toN v1))))
        (some false))
        (some false)
    ) : Option (Bool)).bind fun y14 =>
  letO y14 fun w20 =>
  br w20
  (some (.inl (std.add .i64 v1 1)))
  (some (.inr v1))
/-- impl.TextDifference -/
noncomputable def F_impl_TextDifference (a0 : ByteArray) (a1 : ByteArray) : Option (Int × Int) :=
  br (std.seq a0 a1)
  (some (0, 0))
  ((whileP (σ := Int) (ρ := (Int)) (L_impl_TextDifference_x2 a0 a1) 0).bind fun y3 =>
  letO y3 fun y3k0 =>
  letO y3k0 fun w26 =>
  req (std.upTo w26 (std.slen a0)) <|
  (F_strings_Count (std.ssub a0 0 (std.toN w26)) (ByteArray.mk #[10])).bind fun y28 =>
  req (std.upTo w26 (std.slen a0)) <|
  (F_strings_LastIndex (std.ssub a0 0 (std.toN w26)) (ByteArray.mk #[10])).bind fun y31 =>
  some (std.add .i64 y28 1, std.sub .i64 w26 y31))
theorem run_impl_TextDifference (a0 : ByteArray) (a1 : ByteArray) (r : Int × Int) (h : F_impl_TextDifference a0 a1 = some r) : Fun Try.prog 24 [.c (.v (.string a0)), .c (.v (.string a1))] [] (.tup [.c (.v (.int .i64 r.1)), .c (.v (.int .i64 r.2))]) [] true := by
  refine Fun.of_wp (oneOf [4]) tok mixed Try.func24 (by kernel_rfl) rfl Try.ntmps24 rfl trivial (fun _ => ⟨(by simp [AV.flat, AV.flat1, AC.flat]), trivial⟩) ?_
  unfold F_impl_TextDifference at h
  unfold L_impl_TextDifference_x2 at h
  have hf_strings_Count := @run_strings_Count
  have hf_strings_LastIndex := @run_strings_LastIndex
  generalize hLEN : @len = LEN at *
  generalize hGD : @gd = GD at *
  generalize hA : std = A at *
  generalize hP : Try.prog = P at *
  cbv
  refine fork (fun b33 => ?_) (fun b33 => ?_)
  · replace h := of_br_t b33 h
    cbv
    injection h with h
    subst h
    refine ⟨(sparse 42 [(4, .c (.v (.int .i64 0))), (5, .c (.v (.int .i64 0)))] []), ?_, ?_⟩
    · exact le_sparse rfl ⟨AV.le_refl _, AV.le_refl _, trivial⟩ trivial rfl
    · exact ⟨AV.le_refl _, trivial, rfl⟩
  · replace h := of_br_f b33 h
    cbv
    replace h := of_bind h
    obtain ⟨y3, hr4, hN5⟩ := h
    refine loop_cut hr4 (fun x => (sparse 42 [(0, .c (.v (.string a0))), (1, .c (.v (.string a1))), (6, .c (.v (.int .i64 x)))] [])) ?_ (fun y e s => (fun (w : Int) => e = .exit 0 ∧ s.le (sparse 42 [(0, .c (.v (.string a0))), (6, .c (.v (.int .i64 w)))] [])) y) ?_ ?_
    · clear hr4 hN5
      show St.le _ _
      exact le_sparse rfl ⟨AV.le_refl _, AV.le_refl _, AV.le_refl _, trivial⟩ trivial rfl
    · clear hr4 hN5
      intro x z9 h K7 hK8 hY6
      replace h := of_let h
      obtain ⟨v1, hv1, h⟩ := h
      have hv1 : v1 = x := hv1
      subst hv1
      cbv
      replace h := of_bind h
      obtain ⟨y14, hy15, h⟩ := h
      obtain ⟨S18, hS19⟩ : ∃ S, S = (sparse 42 [(0, .c (.v (.string a0))), (1, .c (.v (.string a1))), (6, .c (.v (.int .i64 v1))), (28, .c (.v (.bool y14)))] []) := ⟨_, rfl⟩
      refine ⟨S18, ?_, ?_⟩
      · clear h
        have h := hy15
        clear hy15
        cbv
        refine fork (fun b24 => ?_) (fun b24 => ?_)
        · replace h := of_br_t b24 h
          cbv
          refine fork (fun b23 => ?_) (fun b23 => ?_)
          · replace h := of_br_t b23 h
            cbv
            replace h := of_req h
            obtain ⟨c21, h⟩ := h
            refine ⟨c21, ?_⟩
            replace h := of_req h
            obtain ⟨c22, h⟩ := h
            refine ⟨c22, ?_⟩
            injection h with h
            subst h
            subst hS19
            show St.le _ _
            exact le_sparse rfl ⟨AV.le_refl _, AV.le_refl _, AV.le_refl _, AV.le_refl _, trivial⟩ trivial rfl
          · replace h := of_br_f b23 h
            cbv
            injection h with h
            subst h
            subst hS19
            show St.le _ _
            exact le_sparse rfl ⟨AV.le_refl _, AV.le_refl _, AV.le_refl _, AV.le_refl _, trivial⟩ trivial rfl
        · replace h := of_br_f b24 h
          cbv
          injection h with h
          subst h
          subst hS19
          show St.le _ _
          exact le_sparse rfl ⟨AV.le_refl _, AV.le_refl _, AV.le_refl _, AV.le_refl _, trivial⟩ trivial rfl
      · clear hy15
        subst hS19
        replace h := of_let h
        obtain ⟨w20, hw20, h⟩ := h
        have hw20 : w20 = y14 := hw20
        subst hw20
        cbv
        refine fork (fun b25 => ?_) (fun b25 => ?_)
        · replace h := of_br_t b25 h
          cbv
          injection h with h
          refine hK8 _ h.symm _ ?_
          exact le_sparse rfl ⟨AV.le_refl _, AV.le_refl _, AV.le_refl _, trivial⟩ trivial rfl
        · replace h := of_br_f b25 h
          cbv
          injection h with h
          refine hY6 _ h.symm _ _ (And.intro rfl ?_) (by intro hh; cases hh)
          exact le_sparse rfl ⟨AV.le_refl _, AV.le_refl _, trivial⟩ trivial rfl
    · clear hr4
      have h := hN5
      clear hN5
      intro e12 s13 q11 hne
      replace h := of_let h
      obtain ⟨y3k0, hyk, h⟩ := h
      have hyk : y3k0 = y3 := hyk
      subst hyk
      obtain ⟨rfl, q11⟩ := q11
      replace h := of_let h
      obtain ⟨w26, hw26, h⟩ := h
      have hw26 : w26 = y3k0 := hw26
      subst hw26
      cbv
      refine ⟨_, q11, ?_⟩
      cbv
      replace h := of_req h
      obtain ⟨c27, h⟩ := h
      refine ⟨c27, ?_⟩
      replace h := of_bind h
      obtain ⟨y28, hy29, h⟩ := h
      refine ⟨{ args := [.c (.v (.string (A.ssub a0 0 (A.toN w26)))), .c (.v (.string (ByteArray.mk #[10])))], o0 := [], r := .c (.v (.int .i64 y28)), o1 := [], fl := true, σ := [], τ := [] }, hf_strings_Count _ _ _ hy29, ⟨les_cons (AV.le_refl _) (les_cons (AV.le_refl _) (les_nil)), trivial, rfl, rfl, rfl, rfl, trivial, rfl⟩, ?_⟩
      cbv
      replace h := of_req h
      obtain ⟨c30, h⟩ := h
      refine ⟨c30, ?_⟩
      replace h := of_bind h
      obtain ⟨y31, hy32, h⟩ := h
      refine ⟨{ args := [.c (.v (.string (A.ssub a0 0 (A.toN w26)))), .c (.v (.string (ByteArray.mk #[10])))], o0 := [], r := .c (.v (.int .i64 y31)), o1 := [], fl := true, σ := [], τ := [] }, hf_strings_LastIndex _ _ _ hy32, ⟨les_cons (AV.le_refl _) (les_cons (AV.le_refl _) (les_nil)), trivial, rfl, rfl, rfl, rfl, trivial, rfl⟩, ?_⟩
      cbv
      injection h with h
      subst h
      refine ⟨(sparse 42 [(4, .c (.v (.int .i64 (A.add .i64 y28 1)))), (5, .c (.v (.int .i64 (A.sub .i64 w26 y31))))] []), ?_, ?_⟩
      · exact le_sparse rfl ⟨AV.le_refl _, AV.le_refl _, trivial⟩ trivial rfl
      · exact ⟨AV.le_refl _, trivial, rfl⟩

/-- laws.FnExactTextDifference -/
noncomputable def F_laws_FnExactTextDifference (a0 : ByteArray) (a1 : ByteArray) : Option (Bool) :=
  br (std.lt 1048576 (std.ofN (std.slen a0)))
  (some true)
  (br (std.lt 1048576 (std.ofN (std.slen a1)))
  (some true)
  ((F_spec_TextDifference a0 a1).bind fun y1 =>
  (F_impl_TextDifference a0 a1).bind fun y3 =>
  ((
        br (std.not (std.eq y3.1 y1.1))
        (some true)
        (some (std.not (std.eq y3.2 y1.2)))
    ) : Option (Bool)).bind fun y5 =>
  letO y5 fun w11 =>
  br w11
  (some false)
  (some true)))
theorem run_laws_FnExactTextDifference (a0 : ByteArray) (a1 : ByteArray) (r : Bool) (h : F_laws_FnExactTextDifference a0 a1 = some r) : Fun Try.prog 4 [.c (.v (.string a0)), .c (.v (.string a1))] [] (.c (.v (.bool r))) [] true := by
  refine Fun.of_wp (oneOf [7]) tok mixed Try.func4 (by kernel_rfl) rfl Try.ntmps4 rfl trivial (fun _ => ⟨trivial, trivial⟩) ?_
  unfold F_laws_FnExactTextDifference at h
  have hf_impl_TextDifference := @run_impl_TextDifference
  have hf_spec_TextDifference := @run_spec_TextDifference
  generalize hLEN : @len = LEN at *
  generalize hGD : @gd = GD at *
  generalize hA : std = A at *
  generalize hP : Try.prog = P at *
  cbv
  refine fork (fun b15 => ?_) (fun b15 => ?_)
  · replace h := of_br_t b15 h
    cbv
    injection h with h
    subst h
    refine ⟨(sparse 35 [(4, .c (.v (.bool true)))] []), ?_, ?_⟩
    · exact le_sparse rfl ⟨AV.le_refl _, trivial⟩ trivial rfl
    · exact ⟨AV.le_refl _, trivial, rfl⟩
  · replace h := of_br_f b15 h
    cbv
    refine fork (fun b14 => ?_) (fun b14 => ?_)
    · replace h := of_br_t b14 h
      cbv
      injection h with h
      subst h
      refine ⟨(sparse 35 [(4, .c (.v (.bool true)))] []), ?_, ?_⟩
      · exact le_sparse rfl ⟨AV.le_refl _, trivial⟩ trivial rfl
      · exact ⟨AV.le_refl _, trivial, rfl⟩
    · replace h := of_br_f b14 h
      cbv
      replace h := of_bind h
      obtain ⟨y1, hy2, h⟩ := h
      refine ⟨{ args := [.c (.v (.string a0)), .c (.v (.string a1))], o0 := [], r := .tup [.c (.v (.int .i64 y1.1)), .c (.v (.int .i64 y1.2))], o1 := [], fl := true, σ := [], τ := [] }, hf_spec_TextDifference _ _ _ hy2, ⟨les_cons (AV.le_refl _) (les_cons (AV.le_refl _) (les_nil)), trivial, rfl, rfl, rfl, rfl, trivial, rfl⟩, ?_⟩
      cbv
      replace h := of_bind h
      obtain ⟨y3, hy4, h⟩ := h
      refine ⟨{ args := [.c (.v (.string a0)), .c (.v (.string a1))], o0 := [], r := .tup [.c (.v (.int .i64 y3.1)), .c (.v (.int .i64 y3.2))], o1 := [], fl := true, σ := [], τ := [] }, hf_impl_TextDifference _ _ _ hy4, ⟨les_cons (AV.le_refl _) (les_cons (AV.le_refl _) (les_nil)), trivial, rfl, rfl, rfl, rfl, trivial, rfl⟩, ?_⟩
      cbv
      replace h := of_bind h
      obtain ⟨y5, hy6, h⟩ := h
      obtain ⟨S9, hS10⟩ : ∃ S, S = (sparse 35 [(34, .c (.v (.bool y5)))] []) := ⟨_, rfl⟩
      refine ⟨S9, ?_, ?_⟩
      · clear h
        have h := hy6
        clear hy6
        cbv
        refine fork (fun b12 => ?_) (fun b12 => ?_)
        · replace h := of_br_t b12 h
          cbv
          injection h with h
          subst h
          subst hS10
          show St.le _ _
          exact le_sparse rfl ⟨AV.le_refl _, trivial⟩ trivial rfl
        · replace h := of_br_f b12 h
          cbv
          injection h with h
          subst h
          subst hS10
          show St.le _ _
          exact le_sparse rfl ⟨AV.le_refl _, trivial⟩ trivial rfl
      · clear hy6
        subst hS10
        replace h := of_let h
        obtain ⟨w11, hw11, h⟩ := h
        have hw11 : w11 = y5 := hw11
        subst hw11
        cbv
        refine fork (fun b13 => ?_) (fun b13 => ?_)
        · replace h := of_br_t b13 h
          cbv
          injection h with h
          subst h
          refine ⟨(sparse 35 [(4, .c (.v (.bool false)))] []), ?_, ?_⟩
          · exact le_sparse rfl ⟨AV.le_refl _, trivial⟩ trivial rfl
          · exact ⟨AV.le_refl _, trivial, rfl⟩
        · replace h := of_br_f b13 h
          cbv
          injection h with h
          subst h
          refine ⟨(sparse 35 [(4, .c (.v (.bool true)))] []), ?_, ?_⟩
          · exact le_sparse rfl ⟨AV.le_refl _, trivial⟩ trivial rfl
          · exact ⟨AV.le_refl _, trivial, rfl⟩
end Go.Proofs.Ytnmfighfidaglaa.AM
