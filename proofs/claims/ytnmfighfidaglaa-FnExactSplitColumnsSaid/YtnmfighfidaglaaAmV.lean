/-
  What the functions that the law reaches compute, and that they do. No condition.
-/
import Derived.Test.YtnmfighfidaglaaAmT
import Derived.Test.YtnmfighfidaglaaAmE
namespace Go.Proofs.Ytnmfighfidaglaa.AM
open Go Go.Proofs Go.RowKit
set_option linter.unusedVariables false
set_option linter.unusedSimpArgs false
set_option maxRecDepth 100000

theorem mixed : Try.prog.follows .mixedOrders = true := by kernel_rfl
noncomputable def L_spec_SplitColumns_x9 (a0 : ByteArray) : (Int × Int × (List ByteArray) × (List Int)) → Option ((Int × Int × (List ByteArray) × (List Int)) ⊕ (((List ByteArray) × (List Int)))) := fun x9 =>
  letO x9.1 fun v5 =>
  letO x9.2.1 fun v6 =>
  letO x9.2.2.1 fun v7 =>
  letO x9.2.2.2 fun v8 =>
  br (std.le v6 (std.ofN (std.slen a0)))
  (((
        br (std.eq v6 (std.ofN (std.slen a0)))
        (some true)
        (req (std.inR v6 (std.slen a0)) <|
        some (std.eq (std.sat a0 (std.toN v6)) 32))
    ) : Option (Bool)).bind fun y21 =>
  letO y21 fun w27 =>
  ((
        br (!(w27))
        (some (std.lt v5 0))
        (some false)
    ) : Option (Bool)).bind fun y30 =>
  letO y30 fun w36 =>
  ((
        br w36
        (some v6)
        (some v5)
    ) : Option (Int)).bind fun y38 =>
  letO y38 fun w44 =>
  ((
        br w27
        (some (std.le 0 w44))
        (some false)
    ) : Option (Bool)).bind fun y46 =>
  letO y46 fun w52 =>
  ((
        br w52
        (req (std.upTo v6 (std.slen a0)) <|
        req (std.upTo w44 (std.toN v6)) <|
        letO ([std.ssub a0 (std.toN w44) (std.toN v6)] : List ByteArray) fun l65 =>
        req (std.room (std.nadd (len v7) (len l65)) 16) <|
        letO (v7 ++ l65) fun l67 =>
        letO ([std.add .i64 w44 1] : List Int) fun l70 =>
        req (std.room (std.nadd (len v8) (len l70)) 8) <|
        letO (v8 ++ l70) fun l72 =>
        some ((-1), l67, l72))
        (some (w44, v7, v8))
    ) : Option (Int × (List ByteArray) × (List Int))).bind fun y54 =>
  letO y54.1 fun w60 =>
  letO y54.2.1 fun w61 =>
  letO y54.2.2 fun w62 =>
  some (.inl (w60, std.add .i64 v6 1, w61, w62)))
  (some (.inr (v7, v8)))
/-- spec.SplitColumns -/
noncomputable def F_spec_SplitColumns (a0 : ByteArray) : Option ((List ByteArray) × (List Int)) :=
  letO ([] : List ByteArray) fun l1 =>
  letO ([] : List Int) fun l3 =>
  (whileP (σ := Int × Int × (List ByteArray) × (List Int)) (ρ := ((List ByteArray) × (List Int))) (L_spec_SplitColumns_x9 a0) ((-1), 0, l1, l3)).bind fun y10 =>
  letO y10 fun y10k0 =>
  letO y10k0.1 fun w77 =>
  letO y10k0.2 fun w78 =>
  some (w77, w78)
theorem run_spec_SplitColumns (a0 : ByteArray) (r : (List ByteArray) × (List Int)) (h : F_spec_SplitColumns a0 = some r) : Fun Try.prog 15 [.c (.v (.string a0))] [] (.tup [.c (.os 64000 0 (len r.1)), .c (.os 64002 0 (len r.2))]) [(64000, .arr .rw [] (len r.1) 1 (row gd (encS) r.1)), (64002, .arr .rw [] (len r.2) 1 (row gd (encI .i64) r.2))] true := by
  refine Fun.of_wp (oneOf [7, 8, 10, 100032, 100038]) tok mixed Try.func15 (by kernel_rfl) rfl Try.ntmps15 rfl trivial (fun _ => ⟨(by simp [AV.flat, AV.flat1, AC.flat]), ⟨fun i _ j _ => val_flat (rfl), fun i _ j _ => val_flat (rfl), trivial⟩⟩) ?_
  unfold F_spec_SplitColumns at h
  unfold L_spec_SplitColumns_x9 at h
  generalize hLEN : @len = LEN at *
  generalize hGD : @gd = GD at *
  generalize hA : std = A at *
  generalize hP : Try.prog = P at *
  cbv
  replace h := of_let h
  obtain ⟨l1, hl1, h⟩ := h
  have e2 : 0 = LEN l1 := by subst hl1 hLEN; rfl
  refine ⟨_, congrArg (fun n => AV.c (AC.os 576 0 n)) e2, _, row GD (encS) l1, e2, ?_, ?_⟩
  · intro i hi j hj
    rw [← e2] at hi
    subst hl1
    subst hGD
    omega
  cbv
  replace h := of_let h
  obtain ⟨l3, hl3, h⟩ := h
  have e4 : 0 = LEN l3 := by subst hl3 hLEN; rfl
  refine ⟨_, congrArg (fun n => AV.c (AC.os 640 0 n)) e4, _, row GD (encI .i64) l3, e4, ?_, ?_⟩
  · intro i hi j hj
    rw [← e4] at hi
    subst hl3
    subst hGD
    omega
  cbv
  replace h := of_bind h
  obtain ⟨y10, hr11, hN12⟩ := h
  refine loop_cut hr11 (fun x => (sparse 53 [(0, .c (.v (.string a0))), (4, .c (.os 576 0 (LEN x.2.2.1))), (5, .c (.os 640 0 (LEN x.2.2.2))), (6, .c (.v (.int .i64 x.1))), (7, .c (.v (.int .i64 x.2.1)))] [(576, .arr .rw [] (LEN x.2.2.1) 1 (row GD (encS) x.2.2.1)), (640, .arr .rw [] (LEN x.2.2.2) 1 (row GD (encI .i64) x.2.2.2))])) ?_ (fun y e s => (fun (w : (List ByteArray) × (List Int)) => e = .exit 0 ∧ s.le (sparse 53 [(4, .c (.os 576 0 (LEN w.1))), (5, .c (.os 640 0 (LEN w.2)))] [(576, .arr .rw [] (LEN w.1) 1 (row GD (encS) w.1)), (640, .arr .rw [] (LEN w.2) 1 (row GD (encI .i64) w.2))])) y) ?_ ?_
  · clear hr11 hN12
    show St.le _ _
    exact le_sparse rfl ⟨AV.le_refl _, AV.le_refl _, AV.le_refl _, AV.le_refl _, AV.le_refl _, trivial⟩ ⟨⟨fun hw => hw, fun c hc => (by cases hc), .inl rfl, rfl, rfl, fun i hi j hj => rfl⟩, ⟨fun hw => hw, fun c hc => (by cases hc), .inl rfl, rfl, rfl, fun i hi j hj => rfl⟩, trivial⟩ rfl
  · clear hr11 hN12
    intro x z16 h K14 hK15 hY13
    obtain ⟨x0_, x1_, x2_, x3_⟩ := x
    replace h := of_let h
    obtain ⟨v5, hv5, h⟩ := h
    have hv5 : v5 = x0_ := hv5
    subst hv5
    replace h := of_let h
    obtain ⟨v6, hv6, h⟩ := h
    have hv6 : v6 = x1_ := hv6
    subst hv6
    replace h := of_let h
    obtain ⟨v7, hv7, h⟩ := h
    have hv7 : v7 = x2_ := hv7
    subst hv7
    replace h := of_let h
    obtain ⟨v8, hv8, h⟩ := h
    have hv8 : v8 = x3_ := hv8
    subst hv8
    cbv
    refine fork (fun b76 => ?_) (fun b76 => ?_)
    · replace h := of_br_t b76 h
      cbv
      replace h := of_bind h
      obtain ⟨y21, hy22, h⟩ := h
      obtain ⟨S25, hS26⟩ : ∃ S, S = (sparse 53 [(0, .c (.v (.string a0))), (4, .c (.os 576 0 (LEN v7))), (5, .c (.os 640 0 (LEN v8))), (6, .c (.v (.int .i64 v5))), (7, .c (.v (.int .i64 v6))), (8, .c (.v (.bool y21)))] [(576, .arr .rw [] (LEN v7) 1 (row GD (encS) v7)), (640, .arr .rw [] (LEN v8) 1 (row GD (encI .i64) v8))]) := ⟨_, rfl⟩
      refine ⟨S25, ?_, ?_⟩
      · clear h
        have h := hy22
        clear hy22
        cbv
        refine fork (fun b29 => ?_) (fun b29 => ?_)
        · replace h := of_br_t b29 h
          cbv
          injection h with h
          subst h
          subst hS26
          show St.le _ _
          exact le_sparse rfl ⟨AV.le_refl _, AV.le_refl _, AV.le_refl _, AV.le_refl _, AV.le_refl _, AV.le_refl _, trivial⟩ ⟨⟨fun hw => hw, fun c hc => (by cases hc), .inl rfl, rfl, rfl, fun i hi j hj => rfl⟩, ⟨fun hw => hw, fun c hc => (by cases hc), .inl rfl, rfl, rfl, fun i hi j hj => rfl⟩, trivial⟩ rfl
        · replace h := of_br_f b29 h
          cbv
          replace h := of_req h
          obtain ⟨c28, h⟩ := h
          refine ⟨c28, ?_⟩
          injection h with h
          subst h
          subst hS26
          show St.le _ _
          exact le_sparse rfl ⟨AV.le_refl _, AV.le_refl _, AV.le_refl _, AV.le_refl _, AV.le_refl _, AV.le_refl _, trivial⟩ ⟨⟨fun hw => hw, fun c hc => (by cases hc), .inl rfl, rfl, rfl, fun i hi j hj => rfl⟩, ⟨fun hw => hw, fun c hc => (by cases hc), .inl rfl, rfl, rfl, fun i hi j hj => rfl⟩, trivial⟩ rfl
      · clear hy22
        subst hS26
        replace h := of_let h
        obtain ⟨w27, hw27, h⟩ := h
        have hw27 : w27 = y21 := hw27
        subst hw27
        cbv
        replace h := of_bind h
        obtain ⟨y30, hy31, h⟩ := h
        obtain ⟨S34, hS35⟩ : ∃ S, S = (sparse 53 [(0, .c (.v (.string a0))), (4, .c (.os 576 0 (LEN v7))), (5, .c (.os 640 0 (LEN v8))), (6, .c (.v (.int .i64 v5))), (7, .c (.v (.int .i64 v6))), (8, .c (.v (.bool w27))), (32, .c (.v (.bool y30)))] [(576, .arr .rw [] (LEN v7) 1 (row GD (encS) v7)), (640, .arr .rw [] (LEN v8) 1 (row GD (encI .i64) v8))]) := ⟨_, rfl⟩
        refine ⟨S34, ?_, ?_⟩
        · clear h
          have h := hy31
          clear hy31
          cbv
          refine fork (fun b37 => ?_) (fun b37 => ?_)
          · replace h := of_br_t b37 h
            cbv
            injection h with h
            subst h
            subst hS35
            show St.le _ _
            exact le_sparse rfl ⟨AV.le_refl _, AV.le_refl _, AV.le_refl _, AV.le_refl _, AV.le_refl _, AV.le_refl _, AV.le_refl _, trivial⟩ ⟨⟨fun hw => hw, fun c hc => (by cases hc), .inl rfl, rfl, rfl, fun i hi j hj => rfl⟩, ⟨fun hw => hw, fun c hc => (by cases hc), .inl rfl, rfl, rfl, fun i hi j hj => rfl⟩, trivial⟩ rfl
          · replace h := of_br_f b37 h
            cbv
            injection h with h
            subst h
            subst hS35
            show St.le _ _
            exact le_sparse rfl ⟨AV.le_refl _, AV.le_refl _, AV.le_refl _, AV.le_refl _, AV.le_refl _, AV.le_refl _, AV.le_refl _, trivial⟩ ⟨⟨fun hw => hw, fun c hc => (by cases hc), .inl rfl, rfl, rfl, fun i hi j hj => rfl⟩, ⟨fun hw => hw, fun c hc => (by cases hc), .inl rfl, rfl, rfl, fun i hi j hj => rfl⟩, trivial⟩ rfl
        · clear hy31
          subst hS35
          replace h := of_let h
          obtain ⟨w36, hw36, h⟩ := h
          have hw36 : w36 = y30 := hw36
          subst hw36
          cbv
          replace h := of_bind h
          obtain ⟨y38, hy39, h⟩ := h
          obtain ⟨S42, hS43⟩ : ∃ S, S = some (sparse 53 [(0, .c (.v (.string a0))), (4, .c (.os 576 0 (LEN v7))), (5, .c (.os 640 0 (LEN v8))), (6, .c (.v (.int .i64 y38))), (7, .c (.v (.int .i64 v6))), (8, .c (.v (.bool w27)))] [(576, .arr .rw [] (LEN v7) 1 (row GD (encS) v7)), (640, .arr .rw [] (LEN v8) 1 (row GD (encI .i64) v8))]) := ⟨_, rfl⟩
          refine ⟨S42, ?_, ?_⟩
          · clear h
            have h := hy39
            clear hy39
            cbv
            refine fork (fun b45 => ?_) (fun b45 => ?_)
            · replace h := of_br_t b45 h
              cbv
              injection h with h
              subst h
              subst hS43
              show St.le _ _
              exact le_sparse rfl ⟨AV.le_refl _, AV.le_refl _, AV.le_refl _, AV.le_refl _, AV.le_refl _, AV.le_refl _, trivial⟩ ⟨⟨fun hw => hw, fun c hc => (by cases hc), .inl rfl, rfl, rfl, fun i hi j hj => rfl⟩, ⟨fun hw => hw, fun c hc => (by cases hc), .inl rfl, rfl, rfl, fun i hi j hj => rfl⟩, trivial⟩ rfl
            · replace h := of_br_f b45 h
              cbv
              injection h with h
              subst h
              subst hS43
              show St.le _ _
              exact le_sparse rfl ⟨AV.le_refl _, AV.le_refl _, AV.le_refl _, AV.le_refl _, AV.le_refl _, AV.le_refl _, trivial⟩ ⟨⟨fun hw => hw, fun c hc => (by cases hc), .inl rfl, rfl, rfl, fun i hi j hj => rfl⟩, ⟨fun hw => hw, fun c hc => (by cases hc), .inl rfl, rfl, rfl, fun i hi j hj => rfl⟩, trivial⟩ rfl
          · clear hy39
            subst hS43
            replace h := of_let h
            obtain ⟨w44, hw44, h⟩ := h
            have hw44 : w44 = y38 := hw44
            subst hw44
            cbv
            replace h := of_bind h
            obtain ⟨y46, hy47, h⟩ := h
            obtain ⟨S50, hS51⟩ : ∃ S, S = (sparse 53 [(0, .c (.v (.string a0))), (4, .c (.os 576 0 (LEN v7))), (5, .c (.os 640 0 (LEN v8))), (6, .c (.v (.int .i64 w44))), (7, .c (.v (.int .i64 v6))), (38, .c (.v (.bool y46)))] [(576, .arr .rw [] (LEN v7) 1 (row GD (encS) v7)), (640, .arr .rw [] (LEN v8) 1 (row GD (encI .i64) v8))]) := ⟨_, rfl⟩
            refine ⟨S50, ?_, ?_⟩
            · clear h
              have h := hy47
              clear hy47
              cbv
              refine fork (fun b53 => ?_) (fun b53 => ?_)
              · replace h := of_br_t b53 h
                cbv
                injection h with h
                subst h
                subst hS51
                show St.le _ _
                exact le_sparse rfl ⟨AV.le_refl _, AV.le_refl _, AV.le_refl _, AV.le_refl _, AV.le_refl _, AV.le_refl _, trivial⟩ ⟨⟨fun hw => hw, fun c hc => (by cases hc), .inl rfl, rfl, rfl, fun i hi j hj => rfl⟩, ⟨fun hw => hw, fun c hc => (by cases hc), .inl rfl, rfl, rfl, fun i hi j hj => rfl⟩, trivial⟩ rfl
              · replace h := of_br_f b53 h
                cbv
                injection h with h
                subst h
                subst hS51
                show St.le _ _
                exact le_sparse rfl ⟨AV.le_refl _, AV.le_refl _, AV.le_refl _, AV.le_refl _, AV.le_refl _, AV.le_refl _, trivial⟩ ⟨⟨fun hw => hw, fun c hc => (by cases hc), .inl rfl, rfl, rfl, fun i hi j hj => rfl⟩, ⟨fun hw => hw, fun c hc => (by cases hc), .inl rfl, rfl, rfl, fun i hi j hj => rfl⟩, trivial⟩ rfl
            · clear hy47
              subst hS51
              replace h := of_let h
              obtain ⟨w52, hw52, h⟩ := h
              have hw52 : w52 = y46 := hw52
              subst hw52
              cbv
              replace h := of_bind h
              obtain ⟨y54, hy55, h⟩ := h
              obtain ⟨S58, hS59⟩ : ∃ S, S = some (sparse 53 [(0, .c (.v (.string a0))), (4, .c (.os 576 0 (LEN y54.2.1))), (5, .c (.os 640 0 (LEN y54.2.2))), (6, .c (.v (.int .i64 y54.1))), (7, .c (.v (.int .i64 v6)))] [(576, .arr .rw [] (LEN y54.2.1) 1 (row GD (encS) y54.2.1)), (640, .arr .rw [] (LEN y54.2.2) 1 (row GD (encI .i64) y54.2.2))]) := ⟨_, rfl⟩
              refine ⟨S58, ?_, ?_⟩
              · clear h
                have h := hy55
                clear hy55
                cbv
                refine fork (fun b75 => ?_) (fun b75 => ?_)
                · replace h := of_br_t b75 h
                  cbv
                  replace h := of_req h
                  obtain ⟨c63, h⟩ := h
                  replace h := of_req h
                  obtain ⟨c64, h⟩ := h
                  refine ⟨⟨c63, c64⟩, ?_⟩
                  replace h := of_let h
                  obtain ⟨l65, hl65, h⟩ := h
                  have e66 : 1 = LEN l65 := by subst hl65 hLEN; rfl
                  refine ⟨_, congrArg (fun n => AV.c (AC.os 2816 0 n)) e66, _, row GD (encS) l65, e66, ?_, ?_⟩
                  · intro i hi j hj
                    rw [← e66] at hi
                    subst hl65
                    subst hGD
                    obtain rfl : i = 0 := by omega
                    all_goals obtain rfl : j = 0 := by omega
                    all_goals rfl
                  cbv
                  replace h := of_req h
                  obtain ⟨c69, h⟩ := h
                  replace h := of_let h
                  obtain ⟨l67, hl67, h⟩ := h
                  have e68 : A.nadd (LEN v7) (LEN l65) = LEN l67 := by subst hl67 hLEN hA; simp [std, len]
                  refine ⟨c69, _, congrArg (fun n => AV.c (AC.os 576 0 n)) e68, _, row GD (encS) l67, e68, ?_, ?_⟩
                  · subst hGD hLEN hA
                    exact app_os (off := 0) (fun _ _ => rfl) hl67 (Nat.le_refl _)
                  cbv
                  replace h := of_let h
                  obtain ⟨l70, hl70, h⟩ := h
                  have e71 : 1 = LEN l70 := by subst hl70 hLEN; rfl
                  refine ⟨_, congrArg (fun n => AV.c (AC.os 3136 0 n)) e71, _, row GD (encI .i64) l70, e71, ?_, ?_⟩
                  · intro i hi j hj
                    rw [← e71] at hi
                    subst hl70
                    subst hGD
                    obtain rfl : i = 0 := by omega
                    all_goals obtain rfl : j = 0 := by omega
                    all_goals rfl
                  cbv
                  replace h := of_req h
                  obtain ⟨c74, h⟩ := h
                  replace h := of_let h
                  obtain ⟨l72, hl72, h⟩ := h
                  have e73 : A.nadd (LEN v8) (LEN l70) = LEN l72 := by subst hl72 hLEN hA; simp [std, len]
                  refine ⟨c74, _, congrArg (fun n => AV.c (AC.os 640 0 n)) e73, _, row GD (encI .i64) l72, e73, ?_, ?_⟩
                  · subst hGD hLEN hA
                    exact app_os (off := 0) (fun _ _ => rfl) hl72 (Nat.le_refl _)
                  cbv
                  injection h with h
                  subst h
                  subst hS59
                  show St.le _ _
                  exact le_sparse rfl ⟨AV.le_refl _, AV.le_refl _, AV.le_refl _, AV.le_refl _, AV.le_refl _, trivial⟩ ⟨⟨fun hw => hw, fun c hc => (by cases hc), .inl rfl, rfl, rfl, fun i hi j hj => rfl⟩, ⟨fun hw => hw, fun c hc => (by cases hc), .inl rfl, rfl, rfl, fun i hi j hj => rfl⟩, trivial⟩ rfl
                · replace h := of_br_f b75 h
                  cbv
                  injection h with h
                  subst h
                  subst hS59
                  show St.le _ _
                  exact le_sparse rfl ⟨AV.le_refl _, AV.le_refl _, AV.le_refl _, AV.le_refl _, AV.le_refl _, trivial⟩ ⟨⟨fun hw => hw, fun c hc => (by cases hc), .inl rfl, rfl, rfl, fun i hi j hj => rfl⟩, ⟨fun hw => hw, fun c hc => (by cases hc), .inl rfl, rfl, rfl, fun i hi j hj => rfl⟩, trivial⟩ rfl
              · clear hy55
                subst hS59
                obtain ⟨y54_0, y54_1, y54_2⟩ := y54
                replace h := of_let h
                obtain ⟨w60, hw60, h⟩ := h
                have hw60 : w60 = y54_0 := hw60
                subst hw60
                replace h := of_let h
                obtain ⟨w61, hw61, h⟩ := h
                have hw61 : w61 = y54_1 := hw61
                subst hw61
                replace h := of_let h
                obtain ⟨w62, hw62, h⟩ := h
                have hw62 : w62 = y54_2 := hw62
                subst hw62
                cbv
                injection h with h
                refine hK15 _ h.symm _ ?_
                exact le_sparse rfl ⟨AV.le_refl _, AV.le_refl _, AV.le_refl _, AV.le_refl _, AV.le_refl _, trivial⟩ ⟨⟨fun hw => hw, fun c hc => (by cases hc), .inl rfl, rfl, rfl, fun i hi j hj => rfl⟩, ⟨fun hw => hw, fun c hc => (by cases hc), .inl rfl, rfl, rfl, fun i hi j hj => rfl⟩, trivial⟩ rfl
    · replace h := of_br_f b76 h
      cbv
      injection h with h
      refine hY13 _ h.symm _ _ (And.intro rfl ?_) (by intro hh; cases hh)
      exact le_sparse rfl ⟨AV.le_refl _, AV.le_refl _, trivial⟩ ⟨⟨fun hw => hw, fun c hc => (by cases hc), .inl rfl, rfl, rfl, fun i hi j hj => rfl⟩, ⟨fun hw => hw, fun c hc => (by cases hc), .inl rfl, rfl, rfl, fun i hi j hj => rfl⟩, trivial⟩ rfl
  · clear hr11
    have h := hN12
    clear hN12
    intro e19 s20 q18 hne
    replace h := of_let h
    obtain ⟨y10k0, hyk, h⟩ := h
    have hyk : y10k0 = y10 := hyk
    subst hyk
    obtain ⟨rfl, q18⟩ := q18
    obtain ⟨y10k0_0, y10k0_1⟩ := y10k0
    replace h := of_let h
    obtain ⟨w77, hw77, h⟩ := h
    have hw77 : w77 = y10k0_0 := hw77
    subst hw77
    replace h := of_let h
    obtain ⟨w78, hw78, h⟩ := h
    have hw78 : w78 = y10k0_1 := hw78
    subst hw78
    cbv
    refine ⟨_, q18, ?_⟩
    cbv
    injection h with h
    subst h
    refine ⟨(sparse 53 [(2, .c (.os 64000 0 (LEN w77))), (3, .c (.os 64002 0 (LEN w78)))] [(64000, .arr .rw [] (LEN w77) 1 (row GD (encS) w77)), (64002, .arr .rw [] (LEN w78) 1 (row GD (encI .i64) w78))]), ?_, ?_⟩
    · refine St.le_trans (le_ren 576 64000 (by decide) rfl) ?_
      refine St.le_trans (le_ren 640 64002 (by decide) rfl) ?_
      exact le_sparse rfl ⟨AV.le_refl _, AV.le_refl _, trivial⟩ ⟨⟨fun hw => hw, fun c hc => (by cases hc), .inl rfl, rfl, rfl, fun i hi j hj => rfl⟩, ⟨fun hw => hw, fun c hc => (by cases hc), .inl rfl, rfl, rfl, fun i hi j hj => rfl⟩, trivial⟩ rfl
    · exact ⟨AV.le_refl _, ⟨⟨fun hw => hw, fun c hc => (by cases hc), .inl rfl, rfl, rfl, fun i hi j hj => rfl⟩, ⟨fun hw => hw, fun c hc => (by cases hc), .inl rfl, rfl, rfl, fun i hi j hj => rfl⟩, trivial⟩, rfl⟩

noncomputable def L_impl_SplitColumns_x22 (a0 : ByteArray) : (Int) → Option ((Int) ⊕ ((Int))) := fun x22 =>
  letO x22 fun v21 =>
  ((
        br (std.lt v21 (std.ofN (std.slen a0)))
        (req (std.inR v21 (std.slen a0)) <|
        some (std.not (std.eq (std.sat a0 (std.toN v21)) 32)))
        (some false)
    ) : Option (Bool)).bind fun y34 =>
  letO y34 fun w40 =>
  br w40
  (some (.inl (std.add .i64 v21 1)))
  (some (.inr v21))
noncomputable def L_impl_SplitColumns_x8 (a0 : ByteArray) : (Int × (List ByteArray) × (List Int)) → Option ((Int × (List ByteArray) × (List Int)) ⊕ (((List ByteArray) × (List Int)))) := fun x8 =>
  letO x8.1 fun v5 =>
  letO x8.2.1 fun v6 =>
  letO x8.2.2 fun v7 =>
  br (std.lt v5 (std.ofN (std.slen a0)))
  (req (std.inR v5 (std.slen a0)) <|
  br (std.eq (std.sat a0 (std.toN v5)) 32)
  (some (.inl (std.add .i64 v5 1, v6, v7)))
  ((whileP (σ := Int) (ρ := (Int)) (L_impl_SplitColumns_x22 a0) v5).bind fun y23 =>
  letO y23 fun y23k0 =>
  letO y23k0 fun w44 =>
  req (std.upTo w44 (std.slen a0)) <|
  req (std.upTo v5 (std.toN w44)) <|
  letO ([std.ssub a0 (std.toN v5) (std.toN w44)] : List ByteArray) fun l47 =>
  req (std.room (std.nadd (len v6) (len l47)) 16) <|
  letO (v6 ++ l47) fun l49 =>
  letO ([std.add .i64 v5 1] : List Int) fun l52 =>
  req (std.room (std.nadd (len v7) (len l52)) 8) <|
  letO (v7 ++ l52) fun l54 =>
  some (.inl (w44, l49, l54))))
  (some (.inr (v6, v7)))
/-- impl.SplitColumns -/
noncomputable def F_impl_SplitColumns (a0 : ByteArray) : Option ((List ByteArray) × (List Int)) :=
  letO ([] : List ByteArray) fun l1 =>
  letO ([] : List Int) fun l3 =>
  (whileP (σ := Int × (List ByteArray) × (List Int)) (ρ := ((List ByteArray) × (List Int))) (L_impl_SplitColumns_x8 a0) (0, l1, l3)).bind fun y9 =>
  letO y9 fun y9k0 =>
  letO y9k0.1 fun w59 =>
  letO y9k0.2 fun w60 =>
  some (w59, w60)
theorem run_impl_SplitColumns (a0 : ByteArray) (r : (List ByteArray) × (List Int)) (h : F_impl_SplitColumns a0 = some r) : Fun Try.prog 16 [.c (.v (.string a0))] [] (.tup [.c (.os 64000 0 (len r.1)), .c (.os 64002 0 (len r.2))]) [(64000, .arr .rw [] (len r.1) 1 (row gd (encS) r.1)), (64002, .arr .rw [] (len r.2) 1 (row gd (encI .i64) r.2))] true := by
  refine Fun.of_wp (oneOf [7]) tok mixed Try.func16 (by kernel_rfl) rfl Try.ntmps16 rfl trivial (fun _ => ⟨(by simp [AV.flat, AV.flat1, AC.flat]), ⟨fun i _ j _ => val_flat (rfl), fun i _ j _ => val_flat (rfl), trivial⟩⟩) ?_
  unfold F_impl_SplitColumns at h
  unfold L_impl_SplitColumns_x8 at h
  unfold L_impl_SplitColumns_x22 at h
  generalize hLEN : @len = LEN at *
  generalize hGD : @gd = GD at *
  generalize hA : std = A at *
  generalize hP : Try.prog = P at *
  cbv
  replace h := of_let h
  obtain ⟨l1, hl1, h⟩ := h
  have e2 : 0 = LEN l1 := by subst hl1 hLEN; rfl
  refine ⟨_, congrArg (fun n => AV.c (AC.os 512 0 n)) e2, _, row GD (encS) l1, e2, ?_, ?_⟩
  · intro i hi j hj
    rw [← e2] at hi
    subst hl1
    subst hGD
    omega
  cbv
  replace h := of_let h
  obtain ⟨l3, hl3, h⟩ := h
  have e4 : 0 = LEN l3 := by subst hl3 hLEN; rfl
  refine ⟨_, congrArg (fun n => AV.c (AC.os 576 0 n)) e4, _, row GD (encI .i64) l3, e4, ?_, ?_⟩
  · intro i hi j hj
    rw [← e4] at hi
    subst hl3
    subst hGD
    omega
  cbv
  replace h := of_bind h
  obtain ⟨y9, hr10, hN11⟩ := h
  refine loop_cut hr10 (fun x => (sparse 48 [(0, .c (.v (.string a0))), (4, .c (.os 512 0 (LEN x.2.1))), (5, .c (.os 576 0 (LEN x.2.2))), (6, .c (.v (.int .i64 x.1)))] [(512, .arr .rw [] (LEN x.2.1) 1 (row GD (encS) x.2.1)), (576, .arr .rw [] (LEN x.2.2) 1 (row GD (encI .i64) x.2.2))])) ?_ (fun y e s => (fun (w : (List ByteArray) × (List Int)) => e = .exit 0 ∧ s.le (sparse 48 [(4, .c (.os 512 0 (LEN w.1))), (5, .c (.os 576 0 (LEN w.2)))] [(512, .arr .rw [] (LEN w.1) 1 (row GD (encS) w.1)), (576, .arr .rw [] (LEN w.2) 1 (row GD (encI .i64) w.2))])) y) ?_ ?_
  · clear hr10 hN11
    show St.le _ _
    exact le_sparse rfl ⟨AV.le_refl _, AV.le_refl _, AV.le_refl _, AV.le_refl _, trivial⟩ ⟨⟨fun hw => hw, fun c hc => (by cases hc), .inl rfl, rfl, rfl, fun i hi j hj => rfl⟩, ⟨fun hw => hw, fun c hc => (by cases hc), .inl rfl, rfl, rfl, fun i hi j hj => rfl⟩, trivial⟩ rfl
  · clear hr10 hN11
    intro x z15 h K13 hK14 hY12
    obtain ⟨x0_, x1_, x2_⟩ := x
    replace h := of_let h
    obtain ⟨v5, hv5, h⟩ := h
    have hv5 : v5 = x0_ := hv5
    subst hv5
    replace h := of_let h
    obtain ⟨v6, hv6, h⟩ := h
    have hv6 : v6 = x1_ := hv6
    subst hv6
    replace h := of_let h
    obtain ⟨v7, hv7, h⟩ := h
    have hv7 : v7 = x2_ := hv7
    subst hv7
    cbv
    refine fork (fun b58 => ?_) (fun b58 => ?_)
    · replace h := of_br_t b58 h
      cbv
      replace h := of_req h
      obtain ⟨c20, h⟩ := h
      refine ⟨c20, ?_⟩
      refine fork (fun b57 => ?_) (fun b57 => ?_)
      · replace h := of_br_t b57 h
        cbv
        refine ⟨_, St.le_refl _, ?_⟩
        cbv
        injection h with h
        refine hK14 _ h.symm _ ?_
        exact le_sparse rfl ⟨AV.le_refl _, AV.le_refl _, AV.le_refl _, AV.le_refl _, trivial⟩ ⟨⟨fun hw => hw, fun c hc => (by cases hc), .inl rfl, rfl, rfl, fun i hi j hj => rfl⟩, ⟨fun hw => hw, fun c hc => (by cases hc), .inl rfl, rfl, rfl, fun i hi j hj => rfl⟩, trivial⟩ rfl
      · replace h := of_br_f b57 h
        cbv
        replace h := of_bind h
        obtain ⟨y23, hr24, hN25⟩ := h
        refine loop_cut hr24 (fun x => (sparse 48 [(0, .c (.v (.string a0))), (4, .c (.os 512 0 (LEN v6))), (5, .c (.os 576 0 (LEN v7))), (6, .c (.v (.int .i64 v5))), (7, .c (.v (.int .i64 x)))] [(512, .arr .rw [] (LEN v6) 1 (row GD (encS) v6)), (576, .arr .rw [] (LEN v7) 1 (row GD (encI .i64) v7))])) ?_ (fun y e s => (fun (w : Int) => e = .exit 2 ∧ s.le (sparse 48 [(0, .c (.v (.string a0))), (4, .c (.os 512 0 (LEN v6))), (5, .c (.os 576 0 (LEN v7))), (6, .c (.v (.int .i64 v5))), (7, .c (.v (.int .i64 w)))] [(512, .arr .rw [] (LEN v6) 1 (row GD (encS) v6)), (576, .arr .rw [] (LEN v7) 1 (row GD (encI .i64) v7))])) y) ?_ ?_
        · clear hr24 hN25
          show St.le _ _
          exact le_sparse rfl ⟨AV.le_refl _, AV.le_refl _, AV.le_refl _, AV.le_refl _, AV.le_refl _, trivial⟩ ⟨⟨fun hw => hw, fun c hc => (by cases hc), .inl rfl, rfl, rfl, fun i hi j hj => rfl⟩, ⟨fun hw => hw, fun c hc => (by cases hc), .inl rfl, rfl, rfl, fun i hi j hj => rfl⟩, trivial⟩ rfl
        · clear hr24 hN25
          intro x z29 h K27 hK28 hY26
          replace h := of_let h
          obtain ⟨v21, hv21, h⟩ := h
          have hv21 : v21 = x := hv21
          subst hv21
          cbv
          replace h := of_bind h
          obtain ⟨y34, hy35, h⟩ := h
          obtain ⟨S38, hS39⟩ : ∃ S, S = (sparse 48 [(0, .c (.v (.string a0))), (4, .c (.os 512 0 (LEN v6))), (5, .c (.os 576 0 (LEN v7))), (6, .c (.v (.int .i64 v5))), (7, .c (.v (.int .i64 v21))), (30, .c (.v (.bool y34)))] [(512, .arr .rw [] (LEN v6) 1 (row GD (encS) v6)), (576, .arr .rw [] (LEN v7) 1 (row GD (encI .i64) v7))]) := ⟨_, rfl⟩
          refine ⟨S38, ?_, ?_⟩
          · clear h
            have h := hy35
            clear hy35
            cbv
            refine fork (fun b42 => ?_) (fun b42 => ?_)
            · replace h := of_br_t b42 h
              cbv
              replace h := of_req h
              obtain ⟨c41, h⟩ := h
              refine ⟨c41, ?_⟩
              injection h with h
              subst h
              subst hS39
              show St.le _ _
              exact le_sparse rfl ⟨AV.le_refl _, AV.le_refl _, AV.le_refl _, AV.le_refl _, AV.le_refl _, AV.le_refl _, trivial⟩ ⟨⟨fun hw => hw, fun c hc => (by cases hc), .inl rfl, rfl, rfl, fun i hi j hj => rfl⟩, ⟨fun hw => hw, fun c hc => (by cases hc), .inl rfl, rfl, rfl, fun i hi j hj => rfl⟩, trivial⟩ rfl
            · replace h := of_br_f b42 h
              cbv
              injection h with h
              subst h
              subst hS39
              show St.le _ _
              exact le_sparse rfl ⟨AV.le_refl _, AV.le_refl _, AV.le_refl _, AV.le_refl _, AV.le_refl _, AV.le_refl _, trivial⟩ ⟨⟨fun hw => hw, fun c hc => (by cases hc), .inl rfl, rfl, rfl, fun i hi j hj => rfl⟩, ⟨fun hw => hw, fun c hc => (by cases hc), .inl rfl, rfl, rfl, fun i hi j hj => rfl⟩, trivial⟩ rfl
          · clear hy35
            subst hS39
            replace h := of_let h
            obtain ⟨w40, hw40, h⟩ := h
            have hw40 : w40 = y34 := hw40
            subst hw40
            cbv
            refine fork (fun b43 => ?_) (fun b43 => ?_)
            · replace h := of_br_t b43 h
              cbv
              injection h with h
              refine hK28 _ h.symm _ ?_
              exact le_sparse rfl ⟨AV.le_refl _, AV.le_refl _, AV.le_refl _, AV.le_refl _, AV.le_refl _, trivial⟩ ⟨⟨fun hw => hw, fun c hc => (by cases hc), .inl rfl, rfl, rfl, fun i hi j hj => rfl⟩, ⟨fun hw => hw, fun c hc => (by cases hc), .inl rfl, rfl, rfl, fun i hi j hj => rfl⟩, trivial⟩ rfl
            · replace h := of_br_f b43 h
              cbv
              injection h with h
              refine hY26 _ h.symm _ _ (And.intro rfl ?_) (by intro hh; cases hh)
              exact le_sparse rfl ⟨AV.le_refl _, AV.le_refl _, AV.le_refl _, AV.le_refl _, AV.le_refl _, trivial⟩ ⟨⟨fun hw => hw, fun c hc => (by cases hc), .inl rfl, rfl, rfl, fun i hi j hj => rfl⟩, ⟨fun hw => hw, fun c hc => (by cases hc), .inl rfl, rfl, rfl, fun i hi j hj => rfl⟩, trivial⟩ rfl
        · clear hr24
          have h := hN25
          clear hN25
          intro e32 s33 q31 hne
          replace h := of_let h
          obtain ⟨y23k0, hyk, h⟩ := h
          have hyk : y23k0 = y23 := hyk
          subst hyk
          obtain ⟨rfl, q31⟩ := q31
          replace h := of_let h
          obtain ⟨w44, hw44, h⟩ := h
          have hw44 : w44 = y23k0 := hw44
          subst hw44
          cbv
          refine ⟨_, q31, ?_⟩
          cbv
          replace h := of_req h
          obtain ⟨c45, h⟩ := h
          replace h := of_req h
          obtain ⟨c46, h⟩ := h
          refine ⟨⟨c45, c46⟩, ?_⟩
          replace h := of_let h
          obtain ⟨l47, hl47, h⟩ := h
          have e48 : 1 = LEN l47 := by subst hl47 hLEN; rfl
          refine ⟨_, congrArg (fun n => AV.c (AC.os 2432 0 n)) e48, _, row GD (encS) l47, e48, ?_, ?_⟩
          · intro i hi j hj
            rw [← e48] at hi
            subst hl47
            subst hGD
            obtain rfl : i = 0 := by omega
            all_goals obtain rfl : j = 0 := by omega
            all_goals rfl
          cbv
          replace h := of_req h
          obtain ⟨c51, h⟩ := h
          replace h := of_let h
          obtain ⟨l49, hl49, h⟩ := h
          have e50 : A.nadd (LEN v6) (LEN l47) = LEN l49 := by subst hl49 hLEN hA; simp [std, len]
          refine ⟨c51, _, congrArg (fun n => AV.c (AC.os 512 0 n)) e50, _, row GD (encS) l49, e50, ?_, ?_⟩
          · subst hGD hLEN hA
            exact app_os (off := 0) (fun _ _ => rfl) hl49 (Nat.le_refl _)
          cbv
          replace h := of_let h
          obtain ⟨l52, hl52, h⟩ := h
          have e53 : 1 = LEN l52 := by subst hl52 hLEN; rfl
          refine ⟨_, congrArg (fun n => AV.c (AC.os 2752 0 n)) e53, _, row GD (encI .i64) l52, e53, ?_, ?_⟩
          · intro i hi j hj
            rw [← e53] at hi
            subst hl52
            subst hGD
            obtain rfl : i = 0 := by omega
            all_goals obtain rfl : j = 0 := by omega
            all_goals rfl
          cbv
          replace h := of_req h
          obtain ⟨c56, h⟩ := h
          replace h := of_let h
          obtain ⟨l54, hl54, h⟩ := h
          have e55 : A.nadd (LEN v7) (LEN l52) = LEN l54 := by subst hl54 hLEN hA; simp [std, len]
          refine ⟨c56, _, congrArg (fun n => AV.c (AC.os 576 0 n)) e55, _, row GD (encI .i64) l54, e55, ?_, ?_⟩
          · subst hGD hLEN hA
            exact app_os (off := 0) (fun _ _ => rfl) hl54 (Nat.le_refl _)
          cbv
          injection h with h
          refine hK14 _ h.symm _ ?_
          exact le_sparse rfl ⟨AV.le_refl _, AV.le_refl _, AV.le_refl _, AV.le_refl _, trivial⟩ ⟨⟨fun hw => hw, fun c hc => (by cases hc), .inl rfl, rfl, rfl, fun i hi j hj => rfl⟩, ⟨fun hw => hw, fun c hc => (by cases hc), .inl rfl, rfl, rfl, fun i hi j hj => rfl⟩, trivial⟩ rfl
    · replace h := of_br_f b58 h
      cbv
      injection h with h
      refine hY12 _ h.symm _ _ (And.intro rfl ?_) (by intro hh; cases hh)
      exact le_sparse rfl ⟨AV.le_refl _, AV.le_refl _, trivial⟩ ⟨⟨fun hw => hw, fun c hc => (by cases hc), .inl rfl, rfl, rfl, fun i hi j hj => rfl⟩, ⟨fun hw => hw, fun c hc => (by cases hc), .inl rfl, rfl, rfl, fun i hi j hj => rfl⟩, trivial⟩ rfl
  · clear hr10
    have h := hN11
    clear hN11
    intro e18 s19 q17 hne
    replace h := of_let h
    obtain ⟨y9k0, hyk, h⟩ := h
    have hyk : y9k0 = y9 := hyk
    subst hyk
    obtain ⟨rfl, q17⟩ := q17
    obtain ⟨y9k0_0, y9k0_1⟩ := y9k0
    replace h := of_let h
    obtain ⟨w59, hw59, h⟩ := h
    have hw59 : w59 = y9k0_0 := hw59
    subst hw59
    replace h := of_let h
    obtain ⟨w60, hw60, h⟩ := h
    have hw60 : w60 = y9k0_1 := hw60
    subst hw60
    cbv
    refine ⟨_, q17, ?_⟩
    cbv
    injection h with h
    subst h
    refine ⟨(sparse 48 [(2, .c (.os 64000 0 (LEN w59))), (3, .c (.os 64002 0 (LEN w60)))] [(64000, .arr .rw [] (LEN w59) 1 (row GD (encS) w59)), (64002, .arr .rw [] (LEN w60) 1 (row GD (encI .i64) w60))]), ?_, ?_⟩
    · refine St.le_trans (le_ren 512 64000 (by decide) rfl) ?_
      refine St.le_trans (le_ren 576 64002 (by decide) rfl) ?_
      exact le_sparse rfl ⟨AV.le_refl _, AV.le_refl _, trivial⟩ ⟨⟨fun hw => hw, fun c hc => (by cases hc), .inl rfl, rfl, rfl, fun i hi j hj => rfl⟩, ⟨fun hw => hw, fun c hc => (by cases hc), .inl rfl, rfl, rfl, fun i hi j hj => rfl⟩, trivial⟩ rfl
    · exact ⟨AV.le_refl _, ⟨⟨fun hw => hw, fun c hc => (by cases hc), .inl rfl, rfl, rfl, fun i hi j hj => rfl⟩, ⟨fun hw => hw, fun c hc => (by cases hc), .inl rfl, rfl, rfl, fun i hi j hj => rfl⟩, trivial⟩, rfl⟩

noncomputable def L_laws_eqStringS_x2 (a0 : List ByteArray) (a1 : List ByteArray) : (Int) → Option ((Int) ⊕ ((Unit) ⊕ (Unit))) := fun x2 =>
  letO x2 fun v1 =>
  br (std.lt v1 (std.ofN (len a0)))
  (req (std.inR v1 (len a0)) <|
  req (std.inR v1 (len a1)) <|
  br (std.not (std.seq (gd a0 (std.toN v1)) (gd a1 (std.toN v1))))
  (some (.inr (.inl ())))
  (some (.inl (std.add .i64 v1 1))))
  (some (.inr (.inr ())))
/-- laws.eqStringS -/
noncomputable def F_laws_eqStringS (a0 : List ByteArray) (a1 : List ByteArray) : Option (Bool) :=
  br (std.not (std.eq (std.ofN (len a0)) (std.ofN (len a1))))
  (some false)
  ((whileP (σ := Int) (ρ := (Unit) ⊕ (Unit)) (L_laws_eqStringS_x2 a0 a1) 0).bind fun y3 =>
  (match y3 with
    | .inl y3k0 => (
        some false)
    | .inr y3m0 =>
        some true))
theorem run_laws_eqStringS (a0 : List ByteArray) (a1 : List ByteArray) (r : Bool) (h : F_laws_eqStringS a0 a1 = some r) : Fun Try.prog 17 [.c (.bs (len a0) 1 (row gd (encS) a0)), .c (.bs (len a1) 1 (row gd (encS) a1))] [] (.c (.v (.bool r))) [] true := by
  refine Fun.of_wp (oneOf []) tok mixed Try.func17 (by kernel_rfl) rfl Try.ntmps17 rfl trivial (fun _ => ⟨trivial, trivial⟩) ?_
  unfold F_laws_eqStringS at h
  unfold L_laws_eqStringS_x2 at h
  generalize hLEN : @len = LEN at *
  generalize hGD : @gd = GD at *
  generalize hA : std = A at *
  generalize hP : Try.prog = P at *
  cbv
  refine fork (fun b18 => ?_) (fun b18 => ?_)
  · replace h := of_br_t b18 h
    cbv
    injection h with h
    subst h
    refine ⟨(sparse 26 [(4, .c (.v (.bool false)))] []), ?_, ?_⟩
    · exact le_sparse rfl ⟨AV.le_refl _, trivial⟩ trivial rfl
    · exact ⟨AV.le_refl _, trivial, rfl⟩
  · replace h := of_br_f b18 h
    cbv
    replace h := of_bind h
    obtain ⟨y3, hr4, hN5⟩ := h
    refine loop_cut hr4 (fun x => (sparse 26 [(0, .c (.bs (LEN a0) 1 (row GD (encS) a0))), (1, .c (.bs (LEN a1) 1 (row GD (encS) a1))), (5, .c (.v (.int .i64 x)))] [])) ?_ (fun y e s => (match y with | .inl w => e = .ret ∧ s.le (sparse 26 [(4, .c (.v (.bool false)))] []) | .inr w0 => (fun (w : Unit) => e = .exit 0 ∧ s.le (sparse 26 [] [])) w0)) ?_ ?_
    · clear hr4 hN5
      show St.le _ _
      exact le_sparse rfl ⟨AV.le_refl _, AV.le_refl _, AV.le_refl _, trivial⟩ trivial rfl
    · clear hr4 hN5
      intro x z9 h K7 hK8 hY6
      replace h := of_let h
      obtain ⟨v1, hv1, h⟩ := h
      have hv1 : v1 = x := hv1
      subst hv1
      cbv
      refine fork (fun b17 => ?_) (fun b17 => ?_)
      · replace h := of_br_t b17 h
        cbv
        replace h := of_req h
        obtain ⟨c14, h⟩ := h
        refine ⟨⟨c14, trivial⟩, ?_⟩
        replace h := of_req h
        obtain ⟨c15, h⟩ := h
        refine ⟨⟨c15, trivial⟩, ?_⟩
        refine fork (fun b16 => ?_) (fun b16 => ?_)
        · replace h := of_br_t b16 h
          cbv
          injection h with h
          refine hY6 _ h.symm _ _ (And.intro rfl ?_) (by intro hh; cases hh)
          exact le_sparse rfl ⟨AV.le_refl _, trivial⟩ trivial rfl
        · replace h := of_br_f b16 h
          cbv
          injection h with h
          refine hK8 _ h.symm _ ?_
          exact le_sparse rfl ⟨AV.le_refl _, AV.le_refl _, AV.le_refl _, trivial⟩ trivial rfl
      · replace h := of_br_f b17 h
        cbv
        injection h with h
        refine hY6 _ h.symm _ _ (And.intro rfl ?_) (by intro hh; cases hh)
        exact le_sparse rfl trivial trivial rfl
    · clear hr4
      have h := hN5
      clear hN5
      intro e12 s13 q11 hne
      rcases y3 with y3k0 | y3m0
      · replace h := h
        obtain ⟨rfl, q11⟩ := q11
        cbv
        injection h with h
        subst h
        refine ⟨(sparse 26 [(4, .c (.v (.bool false)))] []), ?_, ?_⟩
        · refine St.le_trans q11 ?_
          exact le_sparse rfl ⟨AV.le_refl _, trivial⟩ trivial rfl
        · exact ⟨AV.le_refl _, trivial, rfl⟩
      · obtain ⟨rfl, q11⟩ := q11
        cbv
        refine ⟨_, q11, ?_⟩
        cbv
        injection h with h
        subst h
        refine ⟨(sparse 26 [(4, .c (.v (.bool true)))] []), ?_, ?_⟩
        · exact le_sparse rfl ⟨AV.le_refl _, trivial⟩ trivial rfl
        · exact ⟨AV.le_refl _, trivial, rfl⟩

noncomputable def L_laws_eqInt64S_x2 (a0 : List Int) (a1 : List Int) : (Int) → Option ((Int) ⊕ ((Unit) ⊕ (Unit))) := fun x2 =>
  letO x2 fun v1 =>
  br (std.lt v1 (std.ofN (len a0)))
  (req (std.inR v1 (len a0)) <|
  req (std.inR v1 (len a1)) <|
  br (std.not (std.eq (gd a0 (std.toN v1)) (gd a1 (std.toN v1))))
  (some (.inr (.inl ())))
  (some (.inl (std.add .i64 v1 1))))
  (some (.inr (.inr ())))
/-- laws.eqInt64S -/
noncomputable def F_laws_eqInt64S (a0 : List Int) (a1 : List Int) : Option (Bool) :=
  br (std.not (std.eq (std.ofN (len a0)) (std.ofN (len a1))))
  (some false)
  ((whileP (σ := Int) (ρ := (Unit) ⊕ (Unit)) (L_laws_eqInt64S_x2 a0 a1) 0).bind fun y3 =>
  (match y3 with
    | .inl y3k0 => (
        some false)
    | .inr y3m0 =>
        some true))
theorem run_laws_eqInt64S (a0 : List Int) (a1 : List Int) (r : Bool) (h : F_laws_eqInt64S a0 a1 = some r) : Fun Try.prog 18 [.c (.bs (len a0) 1 (row gd (encI .i64) a0)), .c (.bs (len a1) 1 (row gd (encI .i64) a1))] [] (.c (.v (.bool r))) [] true := by
  refine Fun.of_wp (oneOf []) tok mixed Try.func18 (by kernel_rfl) rfl Try.ntmps18 rfl trivial (fun _ => ⟨trivial, trivial⟩) ?_
  unfold F_laws_eqInt64S at h
  unfold L_laws_eqInt64S_x2 at h
  generalize hLEN : @len = LEN at *
  generalize hGD : @gd = GD at *
  generalize hA : std = A at *
  generalize hP : Try.prog = P at *
  cbv
  refine fork (fun b18 => ?_) (fun b18 => ?_)
  · replace h := of_br_t b18 h
    cbv
    injection h with h
    subst h
    refine ⟨(sparse 26 [(4, .c (.v (.bool false)))] []), ?_, ?_⟩
    · exact le_sparse rfl ⟨AV.le_refl _, trivial⟩ trivial rfl
    · exact ⟨AV.le_refl _, trivial, rfl⟩
  · replace h := of_br_f b18 h
    cbv
    replace h := of_bind h
    obtain ⟨y3, hr4, hN5⟩ := h
    refine loop_cut hr4 (fun x => (sparse 26 [(0, .c (.bs (LEN a0) 1 (row GD (encI .i64) a0))), (1, .c (.bs (LEN a1) 1 (row GD (encI .i64) a1))), (5, .c (.v (.int .i64 x)))] [])) ?_ (fun y e s => (match y with | .inl w => e = .ret ∧ s.le (sparse 26 [(4, .c (.v (.bool false)))] []) | .inr w0 => (fun (w : Unit) => e = .exit 0 ∧ s.le (sparse 26 [] [])) w0)) ?_ ?_
    · clear hr4 hN5
      show St.le _ _
      exact le_sparse rfl ⟨AV.le_refl _, AV.le_refl _, AV.le_refl _, trivial⟩ trivial rfl
    · clear hr4 hN5
      intro x z9 h K7 hK8 hY6
      replace h := of_let h
      obtain ⟨v1, hv1, h⟩ := h
      have hv1 : v1 = x := hv1
      subst hv1
      cbv
      refine fork (fun b17 => ?_) (fun b17 => ?_)
      · replace h := of_br_t b17 h
        cbv
        replace h := of_req h
        obtain ⟨c14, h⟩ := h
        refine ⟨⟨c14, trivial⟩, ?_⟩
        replace h := of_req h
        obtain ⟨c15, h⟩ := h
        refine ⟨⟨c15, trivial⟩, ?_⟩
        refine fork (fun b16 => ?_) (fun b16 => ?_)
        · replace h := of_br_t b16 h
          cbv
          injection h with h
          refine hY6 _ h.symm _ _ (And.intro rfl ?_) (by intro hh; cases hh)
          exact le_sparse rfl ⟨AV.le_refl _, trivial⟩ trivial rfl
        · replace h := of_br_f b16 h
          cbv
          injection h with h
          refine hK8 _ h.symm _ ?_
          exact le_sparse rfl ⟨AV.le_refl _, AV.le_refl _, AV.le_refl _, trivial⟩ trivial rfl
      · replace h := of_br_f b17 h
        cbv
        injection h with h
        refine hY6 _ h.symm _ _ (And.intro rfl ?_) (by intro hh; cases hh)
        exact le_sparse rfl trivial trivial rfl
    · clear hr4
      have h := hN5
      clear hN5
      intro e12 s13 q11 hne
      rcases y3 with y3k0 | y3m0
      · replace h := h
        obtain ⟨rfl, q11⟩ := q11
        cbv
        injection h with h
        subst h
        refine ⟨(sparse 26 [(4, .c (.v (.bool false)))] []), ?_, ?_⟩
        · refine St.le_trans q11 ?_
          exact le_sparse rfl ⟨AV.le_refl _, trivial⟩ trivial rfl
        · exact ⟨AV.le_refl _, trivial, rfl⟩
      · obtain ⟨rfl, q11⟩ := q11
        cbv
        refine ⟨_, q11, ?_⟩
        cbv
        injection h with h
        subst h
        refine ⟨(sparse 26 [(4, .c (.v (.bool true)))] []), ?_, ?_⟩
        · exact le_sparse rfl ⟨AV.le_refl _, trivial⟩ trivial rfl
        · exact ⟨AV.le_refl _, trivial, rfl⟩

noncomputable def L_laws_markText_x3  : (Int × ByteArray) → Option ((Int × ByteArray) ⊕ ((ByteArray))) := fun x3 =>
  letO x3.1 fun v1 =>
  letO x3.2 fun v2 =>
  br (std.lt 0 v1)
  (req (std.nz 10) <|
  letO ([std.conv .u8 (std.add .i64 48 (std.rem v1 10))] : List Int) fun l16 =>
  req (std.room (std.nadd (std.slen (std.ofBytes (len l16) (fun i => gd l16 (0 + i)))) (std.slen v2)) 1) <|
  req (std.nz 10) <|
  some (.inl (std.quo .i64 v1 10, std.scat (std.ofBytes (len l16) (fun i => gd l16 (0 + i))) v2)))
  (some (.inr v2))
/-- laws.markText -/
noncomputable def F_laws_markText (a0 : Int) : Option (ByteArray) :=
  br (std.le a0 0)
  (some (ByteArray.mk #[109, 48]))
  ((whileP (σ := Int × ByteArray) (ρ := (ByteArray)) L_laws_markText_x3 (a0, (ByteArray.mk #[]))).bind fun y4 =>
  letO y4 fun y4k0 =>
  letO y4k0 fun w21 =>
  req (std.room (std.nadd (std.slen (ByteArray.mk #[109])) (std.slen w21)) 1) <|
  some (std.scat (ByteArray.mk #[109]) w21))
theorem run_laws_markText (a0 : Int) (r : ByteArray) (h : F_laws_markText a0 = some r) : Fun Try.prog 64 [.c (.v (.int .i64 a0))] [] (.c (.v (.string r))) [] true := by
  refine Fun.of_wp (oneOf []) tok mixed Try.func64 (by kernel_rfl) rfl Try.ntmps64 rfl trivial (fun _ => ⟨trivial, trivial⟩) ?_
  unfold F_laws_markText at h
  unfold L_laws_markText_x3 at h
  generalize hLEN : @len = LEN at *
  generalize hGD : @gd = GD at *
  generalize hA : std = A at *
  generalize hP : Try.prog = P at *
  cbv
  refine fork (fun b23 => ?_) (fun b23 => ?_)
  · replace h := of_br_t b23 h
    cbv
    injection h with h
    subst h
    refine ⟨(sparse 20 [(2, .c (.v (.string (ByteArray.mk #[109, 48]))))] []), ?_, ?_⟩
    · exact le_sparse rfl ⟨AV.le_refl _, trivial⟩ trivial rfl
    · exact ⟨AV.le_refl _, trivial, rfl⟩
  · replace h := of_br_f b23 h
    cbv
    replace h := of_bind h
    obtain ⟨y4, hr5, hN6⟩ := h
    refine loop_cut hr5 (fun x => (sparse 20 [(0, .c (.v (.int .i64 x.1))), (3, .c (.v (.string x.2)))] [])) ?_ (fun y e s => (fun (w : ByteArray) => e = .exit 0 ∧ s.le (sparse 20 [(3, .c (.v (.string w)))] [])) y) ?_ ?_
    · clear hr5 hN6
      show St.le _ _
      exact le_sparse rfl ⟨AV.le_refl _, AV.le_refl _, trivial⟩ trivial rfl
    · clear hr5 hN6
      intro x z10 h K8 hK9 hY7
      obtain ⟨x0_, x1_⟩ := x
      replace h := of_let h
      obtain ⟨v1, hv1, h⟩ := h
      have hv1 : v1 = x0_ := hv1
      subst hv1
      replace h := of_let h
      obtain ⟨v2, hv2, h⟩ := h
      have hv2 : v2 = x1_ := hv2
      subst hv2
      cbv
      refine fork (fun b20 => ?_) (fun b20 => ?_)
      · replace h := of_br_t b20 h
        cbv
        replace h := of_req h
        obtain ⟨c15, h⟩ := h
        refine ⟨c15, ?_⟩
        replace h := of_let h
        obtain ⟨l16, hl16, h⟩ := h
        have e17 : 1 = LEN l16 := by subst hl16 hLEN; rfl
        refine ⟨_, congrArg (fun n => AV.c (AC.os 768 0 n)) e17, _, row GD (encI .u8) l16, e17, ?_, ?_⟩
        · intro i hi j hj
          rw [← e17] at hi
          subst hl16
          subst hGD
          obtain rfl : i = 0 := by omega
          all_goals obtain rfl : j = 0 := by omega
          all_goals rfl
        cbv
        refine ⟨fun _ _ => rfl, ?_⟩
        replace h := of_req h
        obtain ⟨c18, h⟩ := h
        refine ⟨c18, ?_⟩
        replace h := of_req h
        obtain ⟨c19, h⟩ := h
        refine ⟨c19, ?_⟩
        injection h with h
        refine hK9 _ h.symm _ ?_
        exact le_sparse rfl ⟨AV.le_refl _, AV.le_refl _, trivial⟩ trivial rfl
      · replace h := of_br_f b20 h
        cbv
        injection h with h
        refine hY7 _ h.symm _ _ (And.intro rfl ?_) (by intro hh; cases hh)
        exact le_sparse rfl ⟨AV.le_refl _, trivial⟩ trivial rfl
    · clear hr5
      have h := hN6
      clear hN6
      intro e13 s14 q12 hne
      replace h := of_let h
      obtain ⟨y4k0, hyk, h⟩ := h
      have hyk : y4k0 = y4 := hyk
      subst hyk
      obtain ⟨rfl, q12⟩ := q12
      replace h := of_let h
      obtain ⟨w21, hw21, h⟩ := h
      have hw21 : w21 = y4k0 := hw21
      subst hw21
      cbv
      refine ⟨_, q12, ?_⟩
      cbv
      replace h := of_req h
      obtain ⟨c22, h⟩ := h
      refine ⟨c22, ?_⟩
      injection h with h
      subst h
      refine ⟨(sparse 20 [(2, .c (.v (.string (A.scat (ByteArray.mk #[109]) w21))))] []), ?_, ?_⟩
      · exact le_sparse rfl ⟨AV.le_refl _, trivial⟩ trivial rfl
      · exact ⟨AV.le_refl _, trivial, rfl⟩

noncomputable def L_laws_markStringS_mob_x4 (a0 : List ByteArray) : (Int × Int × (List ByteArray)) → Option ((Int × Int × (List ByteArray)) ⊕ ((Int × (List ByteArray)))) := fun x4 =>
  letO x4.1 fun v1 =>
  letO x4.2.1 fun v2 =>
  letO x4.2.2 fun v3 =>
  br (std.lt v2 (std.ofN (len a0)))
  ((F_laws_markText v1).bind fun y16 =>
  req (std.inR v2 (len a0)) <|
  req (len a0 = len v3) <|
  letO (List.set v3 (std.nadd 0 (std.toN v2)) y16) fun l19 =>
  some (.inl (std.add .i64 v1 1, std.add .i64 v2 1, l19)))
  (some (.inr (v1, v3)))
/-- laws.markStringS -/
noncomputable def F_laws_markStringS_mob (a0 : List ByteArray) (a1 : Int) : Option (Int × (List ByteArray)) :=
  (whileP (σ := Int × Int × (List ByteArray)) (ρ := (Int × (List ByteArray))) (L_laws_markStringS_mob_x4 a0) (a1, 0, a0)).bind fun y5 =>
  letO y5 fun y5k0 =>
  letO y5k0.1 fun w22 =>
  letO y5k0.2 fun w23 =>
  req (len a0 = len w23) <|
  some (w22, w23)
theorem run_laws_markStringS_mob (a0 : List ByteArray) (a1 : Int) (r : Int × (List ByteArray)) (h : F_laws_markStringS_mob a0 a1 = some r) : Fun Try.prog 19 [.c (.os 5 0 (len a0)), .c (.v (.int .i64 a1))] [(5, .arr .rw [] (len a0) 1 (row gd (encS) a0))] (.c (.v (.int .i64 r.1))) [(5, .arr .rw [] (len r.2) 1 (row gd (encS) r.2))] true := by
  refine Fun.of_wp (oneOf []) tok mixed Try.func19 (by kernel_rfl) rfl Try.ntmps19 rfl ⟨fun i _ j _ k hk => (noref (plain_nil (rfl)) hk).elim, trivial⟩ (fun _ => ⟨trivial, ⟨fun i _ j _ => val_flat (rfl), trivial⟩⟩) ?_
  unfold F_laws_markStringS_mob at h
  unfold L_laws_markStringS_mob_x4 at h
  have hf_laws_markText := @run_laws_markText
  generalize hLEN : @len = LEN at *
  generalize hGD : @gd = GD at *
  generalize hA : std = A at *
  generalize hP : Try.prog = P at *
  cbv
  replace h := of_bind h
  obtain ⟨y5, hr6, hN7⟩ := h
  refine loop_cut hr6 (fun x => (sparse 20 [(0, .c (.os 5 0 (LEN a0))), (1, .c (.v (.int .i64 x.1))), (5, .c (.v (.int .i64 x.2.1)))] [(5, .arr .rw [] (LEN a0) 1 (row GD (encS) x.2.2))])) ?_ (fun y e s => (fun (w : Int × (List ByteArray)) => e = .exit 0 ∧ s.le (sparse 20 [(1, .c (.v (.int .i64 w.1)))] [(5, .arr .rw [] (LEN a0) 1 (row GD (encS) w.2))])) y) ?_ ?_
  · clear hr6 hN7
    show St.le _ _
    exact le_sparse rfl ⟨AV.le_refl _, AV.le_refl _, AV.le_refl _, trivial⟩ ⟨⟨fun hw => hw, fun c hc => (by cases hc), .inl rfl, rfl, rfl, fun i hi j hj => rfl⟩, trivial⟩ rfl
  · clear hr6 hN7
    intro x z11 h K9 hK10 hY8
    obtain ⟨x0_, x1_, x2_⟩ := x
    replace h := of_let h
    obtain ⟨v1, hv1, h⟩ := h
    have hv1 : v1 = x0_ := hv1
    subst hv1
    replace h := of_let h
    obtain ⟨v2, hv2, h⟩ := h
    have hv2 : v2 = x1_ := hv2
    subst hv2
    replace h := of_let h
    obtain ⟨v3, hv3, h⟩ := h
    have hv3 : v3 = x2_ := hv3
    subst hv3
    cbv
    refine fork (fun b21 => ?_) (fun b21 => ?_)
    · replace h := of_br_t b21 h
      cbv
      replace h := of_bind h
      obtain ⟨y16, hy17, h⟩ := h
      refine ⟨{ args := [.c (.v (.int .i64 v1))], o0 := [], r := .c (.v (.string y16)), o1 := [], fl := true, σ := [], τ := [] }, hf_laws_markText _ _ hy17, ⟨les_cons (AV.le_refl _) (les_nil), trivial, rfl, rfl, rfl, rfl, trivial, rfl⟩, ?_⟩
      cbv
      replace h := of_req h
      obtain ⟨c18, h⟩ := h
      refine ⟨⟨c18, trivial⟩, ?_⟩
      replace h := of_req h
      obtain ⟨c20, h⟩ := h
      replace h := of_let h
      obtain ⟨l19, hl19, h⟩ := h
      refine And.intro (by first | exact (by subst hA; exact idx_lt c18) | (refine And.intro (by subst hA; exact idx_lt c18) ?_; first | trivial | exact ⟨trivial, trivial⟩)) ?_
      refine ⟨_, rfl, _, row GD (encS) l19, rfl, ?_, ?_⟩
      · subst hGD hLEN hA
        rw [c20] at c18
        refine upd_set hl19 (idx_lt c18) ?_ ?_
        · intro b hb hh
          match b, hb, hh with | 0, _, hh => exact rfl | (b_ + 1), h_, _ => exact absurd h_ (by omega)
        · intro b hb hh
          match b, hb, hh with | 0, _, hh => exact (absurd (show 0 ≤ 0 ∧ 0 < 0 + 1 from by decide) hh) | (b_ + 1), h_, _ => exact absurd h_ (by omega)
      cbv
      injection h with h
      refine hK10 _ h.symm _ ?_
      exact le_sparse rfl ⟨AV.le_refl _, AV.le_refl _, AV.le_refl _, trivial⟩ ⟨⟨fun hw => hw, fun c hc => (by cases hc), .inl rfl, rfl, rfl, fun i hi j hj => rfl⟩, trivial⟩ rfl
    · replace h := of_br_f b21 h
      cbv
      injection h with h
      refine hY8 _ h.symm _ _ (And.intro rfl ?_) (by intro hh; cases hh)
      exact le_sparse rfl ⟨AV.le_refl _, trivial⟩ ⟨⟨fun hw => hw, fun c hc => (by cases hc), .inl rfl, rfl, rfl, fun i hi j hj => rfl⟩, trivial⟩ rfl
  · clear hr6
    have h := hN7
    clear hN7
    intro e14 s15 q13 hne
    replace h := of_let h
    obtain ⟨y5k0, hyk, h⟩ := h
    have hyk : y5k0 = y5 := hyk
    subst hyk
    obtain ⟨rfl, q13⟩ := q13
    obtain ⟨y5k0_0, y5k0_1⟩ := y5k0
    replace h := of_let h
    obtain ⟨w22, hw22, h⟩ := h
    have hw22 : w22 = y5k0_0 := hw22
    subst hw22
    replace h := of_let h
    obtain ⟨w23, hw23, h⟩ := h
    have hw23 : w23 = y5k0_1 := hw23
    subst hw23
    cbv
    refine ⟨_, q13, ?_⟩
    cbv
    replace h := of_req h
    obtain ⟨c24, h⟩ := h
    injection h with h
    subst h
    refine ⟨(sparse 20 [(4, .c (.v (.int .i64 w22)))] [(5, .arr .rw [] (LEN w23) 1 (row GD (encS) w23))]), ?_, ?_⟩
    · rw [c24]
      exact le_sparse rfl ⟨AV.le_refl _, trivial⟩ ⟨⟨fun hw => hw, fun c hc => (by cases hc), .inl rfl, rfl, rfl, fun i hi j hj => rfl⟩, trivial⟩ rfl
    · exact ⟨AV.le_refl _, ⟨⟨fun hw => hw, fun c hc => (by cases hc), .inl rfl, rfl, rfl, fun i hi j hj => rfl⟩, trivial⟩, rfl⟩
noncomputable def L_laws_markInt64S_mob_x4 (a0 : List Int) : (Int × Int × (List Int)) → Option ((Int × Int × (List Int)) ⊕ ((Int × (List Int)))) := fun x4 =>
  letO x4.1 fun v1 =>
  letO x4.2.1 fun v2 =>
  letO x4.2.2 fun v3 =>
  br (std.lt v2 (std.ofN (len a0)))
  (req (std.inR v2 (len a0)) <|
  req (len a0 = len v3) <|
  letO (List.set v3 (std.nadd 0 (std.toN v2)) v1) fun l17 =>
  some (.inl (std.add .i64 v1 1, std.add .i64 v2 1, l17)))
  (some (.inr (v1, v3)))
/-- laws.markInt64S -/
noncomputable def F_laws_markInt64S_mob (a0 : List Int) (a1 : Int) : Option (Int × (List Int)) :=
  (whileP (σ := Int × Int × (List Int)) (ρ := (Int × (List Int))) (L_laws_markInt64S_mob_x4 a0) (a1, 0, a0)).bind fun y5 =>
  letO y5 fun y5k0 =>
  letO y5k0.1 fun w20 =>
  letO y5k0.2 fun w21 =>
  req (len a0 = len w21) <|
  some (w20, w21)
theorem run_laws_markInt64S_mob (a0 : List Int) (a1 : Int) (r : Int × (List Int)) (h : F_laws_markInt64S_mob a0 a1 = some r) : Fun Try.prog 20 [.c (.os 5 0 (len a0)), .c (.v (.int .i64 a1))] [(5, .arr .rw [] (len a0) 1 (row gd (encI .i64) a0))] (.c (.v (.int .i64 r.1))) [(5, .arr .rw [] (len r.2) 1 (row gd (encI .i64) r.2))] true := by
  refine Fun.of_wp (oneOf []) tok mixed Try.func20 (by kernel_rfl) rfl Try.ntmps20 rfl ⟨fun i _ j _ k hk => (noref (plain_nil (rfl)) hk).elim, trivial⟩ (fun _ => ⟨trivial, ⟨fun i _ j _ => val_flat (rfl), trivial⟩⟩) ?_
  unfold F_laws_markInt64S_mob at h
  unfold L_laws_markInt64S_mob_x4 at h
  generalize hLEN : @len = LEN at *
  generalize hGD : @gd = GD at *
  generalize hA : std = A at *
  generalize hP : Try.prog = P at *
  cbv
  replace h := of_bind h
  obtain ⟨y5, hr6, hN7⟩ := h
  refine loop_cut hr6 (fun x => (sparse 19 [(0, .c (.os 5 0 (LEN a0))), (1, .c (.v (.int .i64 x.1))), (5, .c (.v (.int .i64 x.2.1)))] [(5, .arr .rw [] (LEN a0) 1 (row GD (encI .i64) x.2.2))])) ?_ (fun y e s => (fun (w : Int × (List Int)) => e = .exit 0 ∧ s.le (sparse 19 [(1, .c (.v (.int .i64 w.1)))] [(5, .arr .rw [] (LEN a0) 1 (row GD (encI .i64) w.2))])) y) ?_ ?_
  · clear hr6 hN7
    show St.le _ _
    exact le_sparse rfl ⟨AV.le_refl _, AV.le_refl _, AV.le_refl _, trivial⟩ ⟨⟨fun hw => hw, fun c hc => (by cases hc), .inl rfl, rfl, rfl, fun i hi j hj => rfl⟩, trivial⟩ rfl
  · clear hr6 hN7
    intro x z11 h K9 hK10 hY8
    obtain ⟨x0_, x1_, x2_⟩ := x
    replace h := of_let h
    obtain ⟨v1, hv1, h⟩ := h
    have hv1 : v1 = x0_ := hv1
    subst hv1
    replace h := of_let h
    obtain ⟨v2, hv2, h⟩ := h
    have hv2 : v2 = x1_ := hv2
    subst hv2
    replace h := of_let h
    obtain ⟨v3, hv3, h⟩ := h
    have hv3 : v3 = x2_ := hv3
    subst hv3
    cbv
    refine fork (fun b19 => ?_) (fun b19 => ?_)
    · replace h := of_br_t b19 h
      cbv
      replace h := of_req h
      obtain ⟨c16, h⟩ := h
      refine ⟨⟨c16, trivial⟩, ?_⟩
      replace h := of_req h
      obtain ⟨c18, h⟩ := h
      replace h := of_let h
      obtain ⟨l17, hl17, h⟩ := h
      refine And.intro (by first | exact (by subst hA; exact idx_lt c16) | (refine And.intro (by subst hA; exact idx_lt c16) ?_; first | trivial | exact ⟨trivial, trivial⟩)) ?_
      refine ⟨_, rfl, _, row GD (encI .i64) l17, rfl, ?_, ?_⟩
      · subst hGD hLEN hA
        rw [c18] at c16
        refine upd_set hl17 (idx_lt c16) ?_ ?_
        · intro b hb hh
          match b, hb, hh with | 0, _, hh => exact rfl | (b_ + 1), h_, _ => exact absurd h_ (by omega)
        · intro b hb hh
          match b, hb, hh with | 0, _, hh => exact (absurd (show 0 ≤ 0 ∧ 0 < 0 + 1 from by decide) hh) | (b_ + 1), h_, _ => exact absurd h_ (by omega)
      cbv
      injection h with h
      refine hK10 _ h.symm _ ?_
      exact le_sparse rfl ⟨AV.le_refl _, AV.le_refl _, AV.le_refl _, trivial⟩ ⟨⟨fun hw => hw, fun c hc => (by cases hc), .inl rfl, rfl, rfl, fun i hi j hj => rfl⟩, trivial⟩ rfl
    · replace h := of_br_f b19 h
      cbv
      injection h with h
      refine hY8 _ h.symm _ _ (And.intro rfl ?_) (by intro hh; cases hh)
      exact le_sparse rfl ⟨AV.le_refl _, trivial⟩ ⟨⟨fun hw => hw, fun c hc => (by cases hc), .inl rfl, rfl, rfl, fun i hi j hj => rfl⟩, trivial⟩ rfl
  · clear hr6
    have h := hN7
    clear hN7
    intro e14 s15 q13 hne
    replace h := of_let h
    obtain ⟨y5k0, hyk, h⟩ := h
    have hyk : y5k0 = y5 := hyk
    subst hyk
    obtain ⟨rfl, q13⟩ := q13
    obtain ⟨y5k0_0, y5k0_1⟩ := y5k0
    replace h := of_let h
    obtain ⟨w20, hw20, h⟩ := h
    have hw20 : w20 = y5k0_0 := hw20
    subst hw20
    replace h := of_let h
    obtain ⟨w21, hw21, h⟩ := h
    have hw21 : w21 = y5k0_1 := hw21
    subst hw21
    cbv
    refine ⟨_, q13, ?_⟩
    cbv
    replace h := of_req h
    obtain ⟨c22, h⟩ := h
    injection h with h
    subst h
    refine ⟨(sparse 19 [(4, .c (.v (.int .i64 w20)))] [(5, .arr .rw [] (LEN w21) 1 (row GD (encI .i64) w21))]), ?_, ?_⟩
    · rw [c22]
      exact le_sparse rfl ⟨AV.le_refl _, trivial⟩ ⟨⟨fun hw => hw, fun c hc => (by cases hc), .inl rfl, rfl, rfl, fun i hi j hj => rfl⟩, trivial⟩ rfl
    · exact ⟨AV.le_refl _, ⟨⟨fun hw => hw, fun c hc => (by cases hc), .inl rfl, rfl, rfl, fun i hi j hj => rfl⟩, trivial⟩, rfl⟩

noncomputable def L_laws_heldStringS_x3 (a0 : List ByteArray) : (Int × Int) → Option ((Int × Int) ⊕ ((Int) ⊕ (Int))) := fun x3 =>
  letO x3.1 fun v1 =>
  letO x3.2 fun v2 =>
  br (std.lt v2 (std.ofN (len a0)))
  (req (std.inR v2 (len a0)) <|
  (F_laws_markText v1).bind fun y16 =>
  br (std.not (std.seq (gd a0 (std.toN v2)) y16))
  (some (.inr (.inl (-1))))
  (some (.inl (std.add .i64 v1 1, std.add .i64 v2 1))))
  (some (.inr (.inr v1)))
/-- laws.heldStringS -/
noncomputable def F_laws_heldStringS (a0 : List ByteArray) (a1 : Int) : Option (Int) :=
  (whileP (σ := Int × Int) (ρ := (Int) ⊕ (Int)) (L_laws_heldStringS_x3 a0) (a1, 0)).bind fun y4 =>
  (match y4 with
    | .inl y4k0 => (
        letO y4k0 fun w20 =>
        some w20)
    | .inr y4m0 =>
        letO y4m0 fun y4k1 =>
        letO y4k1 fun w21 =>
        some w21)
theorem run_laws_heldStringS (a0 : List ByteArray) (a1 : Int) (r : Int) (h : F_laws_heldStringS a0 a1 = some r) : Fun Try.prog 21 [.c (.bs (len a0) 1 (row gd (encS) a0)), .c (.v (.int .i64 a1))] [] (.c (.v (.int .i64 r))) [] true := by
  refine Fun.of_wp (oneOf []) tok mixed Try.func21 (by kernel_rfl) rfl Try.ntmps21 rfl trivial (fun _ => ⟨trivial, trivial⟩) ?_
  unfold F_laws_heldStringS at h
  unfold L_laws_heldStringS_x3 at h
  have hf_laws_markText := @run_laws_markText
  generalize hLEN : @len = LEN at *
  generalize hGD : @gd = GD at *
  generalize hA : std = A at *
  generalize hP : Try.prog = P at *
  cbv
  replace h := of_bind h
  obtain ⟨y4, hr5, hN6⟩ := h
  refine loop_cut hr5 (fun x => (sparse 22 [(0, .c (.bs (LEN a0) 1 (row GD (encS) a0))), (1, .c (.v (.int .i64 x.1))), (5, .c (.v (.int .i64 x.2)))] [])) ?_ (fun y e s => (match y with | .inl w => e = .ret ∧ s.le (sparse 22 [(4, .c (.v (.int .i64 w)))] []) | .inr w0 => (fun (w : Int) => e = .exit 0 ∧ s.le (sparse 22 [(1, .c (.v (.int .i64 w)))] [])) w0)) ?_ ?_
  · clear hr5 hN6
    show St.le _ _
    exact le_sparse rfl ⟨AV.le_refl _, AV.le_refl _, AV.le_refl _, trivial⟩ trivial rfl
  · clear hr5 hN6
    intro x z10 h K8 hK9 hY7
    obtain ⟨x0_, x1_⟩ := x
    replace h := of_let h
    obtain ⟨v1, hv1, h⟩ := h
    have hv1 : v1 = x0_ := hv1
    subst hv1
    replace h := of_let h
    obtain ⟨v2, hv2, h⟩ := h
    have hv2 : v2 = x1_ := hv2
    subst hv2
    cbv
    refine fork (fun b19 => ?_) (fun b19 => ?_)
    · replace h := of_br_t b19 h
      cbv
      replace h := of_req h
      obtain ⟨c15, h⟩ := h
      refine ⟨⟨c15, trivial⟩, ?_⟩
      replace h := of_bind h
      obtain ⟨y16, hy17, h⟩ := h
      refine ⟨{ args := [.c (.v (.int .i64 v1))], o0 := [], r := .c (.v (.string y16)), o1 := [], fl := true, σ := [], τ := [] }, hf_laws_markText _ _ hy17, ⟨les_cons (AV.le_refl _) (les_nil), trivial, rfl, rfl, rfl, rfl, trivial, rfl⟩, ?_⟩
      cbv
      refine fork (fun b18 => ?_) (fun b18 => ?_)
      · replace h := of_br_t b18 h
        cbv
        injection h with h
        refine hY7 _ h.symm _ _ (And.intro rfl ?_) (by intro hh; cases hh)
        exact le_sparse rfl ⟨AV.le_refl _, trivial⟩ trivial rfl
      · replace h := of_br_f b18 h
        cbv
        injection h with h
        refine hK9 _ h.symm _ ?_
        exact le_sparse rfl ⟨AV.le_refl _, AV.le_refl _, AV.le_refl _, trivial⟩ trivial rfl
    · replace h := of_br_f b19 h
      cbv
      injection h with h
      refine hY7 _ h.symm _ _ (And.intro rfl ?_) (by intro hh; cases hh)
      exact le_sparse rfl ⟨AV.le_refl _, trivial⟩ trivial rfl
  · clear hr5
    have h := hN6
    clear hN6
    intro e13 s14 q12 hne
    rcases y4 with y4k0 | y4m0
    · replace h := h
      obtain ⟨rfl, q12⟩ := q12
      replace h := of_let h
      obtain ⟨w20, hw20, h⟩ := h
      have hw20 : w20 = y4k0 := hw20
      subst hw20
      cbv
      injection h with h
      subst h
      refine ⟨(sparse 22 [(4, .c (.v (.int .i64 w20)))] []), ?_, ?_⟩
      · refine St.le_trans q12 ?_
        exact le_sparse rfl ⟨AV.le_refl _, trivial⟩ trivial rfl
      · exact ⟨AV.le_refl _, trivial, rfl⟩
    · replace h := of_let h
      obtain ⟨y4k1, hyk, h⟩ := h
      have hyk : y4k1 = y4m0 := hyk
      subst hyk
      obtain ⟨rfl, q12⟩ := q12
      replace h := of_let h
      obtain ⟨w21, hw21, h⟩ := h
      have hw21 : w21 = y4k1 := hw21
      subst hw21
      cbv
      refine ⟨_, q12, ?_⟩
      cbv
      injection h with h
      subst h
      refine ⟨(sparse 22 [(4, .c (.v (.int .i64 w21)))] []), ?_, ?_⟩
      · exact le_sparse rfl ⟨AV.le_refl _, trivial⟩ trivial rfl
      · exact ⟨AV.le_refl _, trivial, rfl⟩

noncomputable def L_laws_heldInt64S_x3 (a0 : List Int) : (Int × Int) → Option ((Int × Int) ⊕ ((Int) ⊕ (Int))) := fun x3 =>
  letO x3.1 fun v1 =>
  letO x3.2 fun v2 =>
  br (std.lt v2 (std.ofN (len a0)))
  (req (std.inR v2 (len a0)) <|
  br (std.not (std.eq (gd a0 (std.toN v2)) v1))
  (some (.inr (.inl (-1))))
  (some (.inl (std.add .i64 v1 1, std.add .i64 v2 1))))
  (some (.inr (.inr v1)))
/-- laws.heldInt64S -/
noncomputable def F_laws_heldInt64S (a0 : List Int) (a1 : Int) : Option (Int) :=
  (whileP (σ := Int × Int) (ρ := (Int) ⊕ (Int)) (L_laws_heldInt64S_x3 a0) (a1, 0)).bind fun y4 =>
  (match y4 with
    | .inl y4k0 => (
        letO y4k0 fun w18 =>
        some w18)
    | .inr y4m0 =>
        letO y4m0 fun y4k1 =>
        letO y4k1 fun w19 =>
        some w19)
theorem run_laws_heldInt64S (a0 : List Int) (a1 : Int) (r : Int) (h : F_laws_heldInt64S a0 a1 = some r) : Fun Try.prog 22 [.c (.bs (len a0) 1 (row gd (encI .i64) a0)), .c (.v (.int .i64 a1))] [] (.c (.v (.int .i64 r))) [] true := by
  refine Fun.of_wp (oneOf []) tok mixed Try.func22 (by kernel_rfl) rfl Try.ntmps22 rfl trivial (fun _ => ⟨trivial, trivial⟩) ?_
  unfold F_laws_heldInt64S at h
  unfold L_laws_heldInt64S_x3 at h
  generalize hLEN : @len = LEN at *
  generalize hGD : @gd = GD at *
  generalize hA : std = A at *
  generalize hP : Try.prog = P at *
  cbv
  replace h := of_bind h
  obtain ⟨y4, hr5, hN6⟩ := h
  refine loop_cut hr5 (fun x => (sparse 21 [(0, .c (.bs (LEN a0) 1 (row GD (encI .i64) a0))), (1, .c (.v (.int .i64 x.1))), (5, .c (.v (.int .i64 x.2)))] [])) ?_ (fun y e s => (match y with | .inl w => e = .ret ∧ s.le (sparse 21 [(4, .c (.v (.int .i64 w)))] []) | .inr w0 => (fun (w : Int) => e = .exit 0 ∧ s.le (sparse 21 [(1, .c (.v (.int .i64 w)))] [])) w0)) ?_ ?_
  · clear hr5 hN6
    show St.le _ _
    exact le_sparse rfl ⟨AV.le_refl _, AV.le_refl _, AV.le_refl _, trivial⟩ trivial rfl
  · clear hr5 hN6
    intro x z10 h K8 hK9 hY7
    obtain ⟨x0_, x1_⟩ := x
    replace h := of_let h
    obtain ⟨v1, hv1, h⟩ := h
    have hv1 : v1 = x0_ := hv1
    subst hv1
    replace h := of_let h
    obtain ⟨v2, hv2, h⟩ := h
    have hv2 : v2 = x1_ := hv2
    subst hv2
    cbv
    refine fork (fun b17 => ?_) (fun b17 => ?_)
    · replace h := of_br_t b17 h
      cbv
      replace h := of_req h
      obtain ⟨c15, h⟩ := h
      refine ⟨⟨c15, trivial⟩, ?_⟩
      refine fork (fun b16 => ?_) (fun b16 => ?_)
      · replace h := of_br_t b16 h
        cbv
        injection h with h
        refine hY7 _ h.symm _ _ (And.intro rfl ?_) (by intro hh; cases hh)
        exact le_sparse rfl ⟨AV.le_refl _, trivial⟩ trivial rfl
      · replace h := of_br_f b16 h
        cbv
        injection h with h
        refine hK9 _ h.symm _ ?_
        exact le_sparse rfl ⟨AV.le_refl _, AV.le_refl _, AV.le_refl _, trivial⟩ trivial rfl
    · replace h := of_br_f b17 h
      cbv
      injection h with h
      refine hY7 _ h.symm _ _ (And.intro rfl ?_) (by intro hh; cases hh)
      exact le_sparse rfl ⟨AV.le_refl _, trivial⟩ trivial rfl
  · clear hr5
    have h := hN6
    clear hN6
    intro e13 s14 q12 hne
    rcases y4 with y4k0 | y4m0
    · replace h := h
      obtain ⟨rfl, q12⟩ := q12
      replace h := of_let h
      obtain ⟨w18, hw18, h⟩ := h
      have hw18 : w18 = y4k0 := hw18
      subst hw18
      cbv
      injection h with h
      subst h
      refine ⟨(sparse 21 [(4, .c (.v (.int .i64 w18)))] []), ?_, ?_⟩
      · refine St.le_trans q12 ?_
        exact le_sparse rfl ⟨AV.le_refl _, trivial⟩ trivial rfl
      · exact ⟨AV.le_refl _, trivial, rfl⟩
    · replace h := of_let h
      obtain ⟨y4k1, hyk, h⟩ := h
      have hyk : y4k1 = y4m0 := hyk
      subst hyk
      obtain ⟨rfl, q12⟩ := q12
      replace h := of_let h
      obtain ⟨w19, hw19, h⟩ := h
      have hw19 : w19 = y4k1 := hw19
      subst hw19
      cbv
      refine ⟨_, q12, ?_⟩
      cbv
      injection h with h
      subst h
      refine ⟨(sparse 21 [(4, .c (.v (.int .i64 w19)))] []), ?_, ?_⟩
      · exact le_sparse rfl ⟨AV.le_refl _, trivial⟩ trivial rfl
      · exact ⟨AV.le_refl _, trivial, rfl⟩

/-- laws.FnExactSplitColumns -/
noncomputable def F_laws_FnExactSplitColumns (a0 : ByteArray) : Option (Bool) :=
  br (std.lt 1048576 (std.ofN (std.slen a0)))
  (some true)
  ((F_spec_SplitColumns a0).bind fun y1 =>
  (F_impl_SplitColumns a0).bind fun y3 =>
  ((
        (F_laws_eqStringS y3.1 y1.1).bind fun y12 =>
        br (!(y12))
        (some true)
        ((F_laws_eqInt64S y3.2 y1.2).bind fun y14 =>
        some (!(y14)))
    ) : Option (Bool)).bind fun y5 =>
  letO y5 fun w11 =>
  br w11
  (some false)
  ((F_laws_markStringS_mob y3.1 1).bind fun y17 =>
  req (len y17.2 = len y3.1) <|
  (F_laws_markInt64S_mob y3.2 y17.1).bind fun y19 =>
  req (len y19.2 = len y3.2) <|
  (F_laws_heldStringS y17.2 1).bind fun y21 =>
  req (len y3.1 = len y17.2) <|
  br (std.lt y21 0)
  (some false)
  ((F_laws_heldInt64S y19.2 y21).bind fun y23 =>
  req (len y3.2 = len y19.2) <|
  br (std.lt y23 0)
  (some false)
  (br (std.not (std.eq y23 y19.1))
  (some false)
  ((F_impl_SplitColumns a0).bind fun y25 =>
  ((
        (F_laws_eqStringS y25.1 y1.1).bind fun y34 =>
        br (!(y34))
        (some true)
        ((F_laws_eqInt64S y25.2 y1.2).bind fun y36 =>
        some (!(y36)))
    ) : Option (Bool)).bind fun y27 =>
  letO y27 fun w33 =>
  br w33
  (some false)
  ((F_laws_heldStringS y17.2 1).bind fun y39 =>
  req (len y3.1 = len y17.2) <|
  br (std.lt y39 0)
  (some false)
  ((F_laws_heldInt64S y19.2 y39).bind fun y41 =>
  req (len y3.2 = len y19.2) <|
  br (std.lt y41 0)
  (some false)
  (br (std.not (std.eq y41 y19.1))
  (some false)
  (some true)))))))))
theorem run_laws_FnExactSplitColumns (a0 : ByteArray) (r : Bool) (h : F_laws_FnExactSplitColumns a0 = some r) : Fun Try.prog 3 [.c (.v (.string a0))] [] (.c (.v (.bool r))) [] true := by
  refine Fun.of_wp (oneOf [5, 20]) tok mixed Try.func3 (by kernel_rfl) rfl Try.ntmps3 rfl trivial (fun _ => ⟨trivial, trivial⟩) ?_
  unfold F_laws_FnExactSplitColumns at h
  have hf_impl_SplitColumns := @run_impl_SplitColumns
  have hf_laws_eqInt64S := @run_laws_eqInt64S
  have hf_laws_eqStringS := @run_laws_eqStringS
  have hf_laws_heldInt64S := @run_laws_heldInt64S
  have hf_laws_heldStringS := @run_laws_heldStringS
  have hf_laws_markInt64S_mob := @run_laws_markInt64S_mob
  have hf_laws_markStringS_mob := @run_laws_markStringS_mob
  have hf_spec_SplitColumns := @run_spec_SplitColumns
  generalize hLEN : @len = LEN at *
  generalize hGD : @gd = GD at *
  generalize hA : std = A at *
  generalize hP : Try.prog = P at *
  cbv
  refine fork (fun b57 => ?_) (fun b57 => ?_)
  · replace h := of_br_t b57 h
    cbv
    injection h with h
    subst h
    refine ⟨(sparse 81 [(2, .c (.v (.bool true)))] []), ?_, ?_⟩
    · exact le_sparse rfl ⟨AV.le_refl _, trivial⟩ trivial rfl
    · exact ⟨AV.le_refl _, trivial, rfl⟩
  · replace h := of_br_f b57 h
    cbv
    replace h := of_bind h
    obtain ⟨y1, hy2, h⟩ := h
    refine ⟨{ args := [.c (.v (.string a0))], o0 := [], r := .tup [.c (.os 64000 0 (LEN y1.1)), .c (.os 64002 0 (LEN y1.2))], o1 := [(64000, .arr .rw [] (LEN y1.1) 1 (row GD (encS) y1.1)), (64002, .arr .rw [] (LEN y1.2) 1 (row GD (encI .i64) y1.2))], fl := true, σ := [], τ := [(64000, 1024), (64002, 1026)] }, hf_spec_SplitColumns _ _ hy2, ⟨les_cons (AV.le_refl _) (les_nil), trivial, rfl, rfl, rfl, rfl, ⟨fun h => absurd (show (64000 : Nat) % 2 = 1 from h) (by decide), fun h => absurd (show (64002 : Nat) % 2 = 1 from h) (by decide), trivial⟩, rfl⟩, _, rfl, _, _, rfl, fun _ _ _ _ => rfl, _, _, rfl, fun _ _ _ _ => rfl, ?_⟩
    cbv
    replace h := of_bind h
    obtain ⟨y3, hy4, h⟩ := h
    refine ⟨{ args := [.c (.v (.string a0))], o0 := [], r := .tup [.c (.os 64000 0 (LEN y3.1)), .c (.os 64002 0 (LEN y3.2))], o1 := [(64000, .arr .rw [] (LEN y3.1) 1 (row GD (encS) y3.1)), (64002, .arr .rw [] (LEN y3.2) 1 (row GD (encI .i64) y3.2))], fl := true, σ := [], τ := [(64000, 1344), (64002, 1346)] }, hf_impl_SplitColumns _ _ hy4, ⟨les_cons (AV.le_refl _) (les_nil), trivial, rfl, rfl, rfl, rfl, ⟨fun h => absurd (show (64000 : Nat) % 2 = 1 from h) (by decide), fun h => absurd (show (64002 : Nat) % 2 = 1 from h) (by decide), trivial⟩, rfl⟩, _, rfl, _, _, rfl, fun _ _ _ _ => rfl, _, _, rfl, fun _ _ _ _ => rfl, ?_⟩
    cbv
    replace h := of_bind h
    obtain ⟨y5, hy6, h⟩ := h
    obtain ⟨S9, hS10⟩ : ∃ S, S = (sparse 81 [(0, .c (.v (.string a0))), (3, .c (.os 1024 0 (LEN y1.1))), (4, .c (.os 1026 0 (LEN y1.2))), (5, .c (.os 1344 0 (LEN y3.1))), (6, .c (.os 1346 0 (LEN y3.2))), (33, .c (.v (.bool y5)))] [(1024, .arr .rw [] (LEN y1.1) 1 (row GD (encS) y1.1)), (1026, .arr .rw [] (LEN y1.2) 1 (row GD (encI .i64) y1.2)), (1344, .arr .rw [] (LEN y3.1) 1 (row GD (encS) y3.1)), (1346, .arr .rw [] (LEN y3.2) 1 (row GD (encI .i64) y3.2))]) := ⟨_, rfl⟩
    refine ⟨S9, ?_, ?_⟩
    · clear h
      have h := hy6
      clear hy6
      cbv
      replace h := of_bind h
      obtain ⟨y12, hy13, h⟩ := h
      refine ⟨{ args := [.c (.bs (LEN y3.1) 1 (row GD (encS) y3.1)), .c (.bs (LEN y1.1) 1 (row GD (encS) y1.1))], o0 := [], r := .c (.v (.bool y12)), o1 := [], fl := true, σ := [], τ := [] }, hf_laws_eqStringS _ _ _ hy13, ⟨les_cons (give_os (fun _ _ => rfl) rfl rfl rfl) (les_cons (give_os (fun _ _ => rfl) rfl rfl rfl) (les_nil)), trivial, rfl, rfl, rfl, rfl, trivial, rfl⟩, ?_⟩
      cbv
      refine fork (fun b16 => ?_) (fun b16 => ?_)
      · replace h := of_br_t b16 h
        cbv
        injection h with h
        subst h
        subst hS10
        show St.le _ _
        exact le_sparse rfl ⟨AV.le_refl _, AV.le_refl _, AV.le_refl _, AV.le_refl _, AV.le_refl _, AV.le_refl _, trivial⟩ ⟨⟨fun hw => hw, fun c hc => (by cases hc), .inl rfl, rfl, rfl, fun i hi j hj => rfl⟩, ⟨fun hw => hw, fun c hc => (by cases hc), .inl rfl, rfl, rfl, fun i hi j hj => rfl⟩, ⟨fun hw => hw, fun c hc => (by cases hc), .inl rfl, rfl, rfl, fun i hi j hj => rfl⟩, ⟨fun hw => hw, fun c hc => (by cases hc), .inl rfl, rfl, rfl, fun i hi j hj => rfl⟩, trivial⟩ rfl
      · replace h := of_br_f b16 h
        cbv
        replace h := of_bind h
        obtain ⟨y14, hy15, h⟩ := h
        refine ⟨{ args := [.c (.bs (LEN y3.2) 1 (row GD (encI .i64) y3.2)), .c (.bs (LEN y1.2) 1 (row GD (encI .i64) y1.2))], o0 := [], r := .c (.v (.bool y14)), o1 := [], fl := true, σ := [], τ := [] }, hf_laws_eqInt64S _ _ _ hy15, ⟨les_cons (give_os (fun _ _ => rfl) rfl rfl rfl) (les_cons (give_os (fun _ _ => rfl) rfl rfl rfl) (les_nil)), trivial, rfl, rfl, rfl, rfl, trivial, rfl⟩, ?_⟩
        cbv
        injection h with h
        subst h
        subst hS10
        show St.le _ _
        exact le_sparse rfl ⟨AV.le_refl _, AV.le_refl _, AV.le_refl _, AV.le_refl _, AV.le_refl _, AV.le_refl _, trivial⟩ ⟨⟨fun hw => hw, fun c hc => (by cases hc), .inl rfl, rfl, rfl, fun i hi j hj => rfl⟩, ⟨fun hw => hw, fun c hc => (by cases hc), .inl rfl, rfl, rfl, fun i hi j hj => rfl⟩, ⟨fun hw => hw, fun c hc => (by cases hc), .inl rfl, rfl, rfl, fun i hi j hj => rfl⟩, ⟨fun hw => hw, fun c hc => (by cases hc), .inl rfl, rfl, rfl, fun i hi j hj => rfl⟩, trivial⟩ rfl
    · clear hy6
      subst hS10
      replace h := of_let h
      obtain ⟨w11, hw11, h⟩ := h
      have hw11 : w11 = y5 := hw11
      subst hw11
      cbv
      refine fork (fun b56 => ?_) (fun b56 => ?_)
      · replace h := of_br_t b56 h
        cbv
        injection h with h
        subst h
        refine ⟨(sparse 81 [(2, .c (.v (.bool false)))] []), ?_, ?_⟩
        · exact le_sparse rfl ⟨AV.le_refl _, trivial⟩ trivial rfl
        · exact ⟨AV.le_refl _, trivial, rfl⟩
      · replace h := of_br_f b56 h
        cbv
        replace h := of_bind h
        obtain ⟨y17, hy18, h⟩ := h
        replace h := of_req h
        obtain ⟨c55, h⟩ := h
        refine ⟨{ args := [.c (.os 5 0 (LEN y3.1)), .c (.v (.int .i64 1))], o0 := [(5, .arr .rw [] (LEN y3.1) 1 (row GD (encS) y3.1))], r := .c (.v (.int .i64 y17.1)), o1 := [(5, .arr .rw [] (LEN y17.2) 1 (row GD (encS) y17.2))], fl := true, σ := [(5, 1344)], τ := [(5, 1344)] }, hf_laws_markStringS_mob _ _ _ hy18, ⟨les_cons (AV.le_refl _) (les_cons (AV.le_refl _) (les_nil)), ⟨⟨fun hw => hw, fun c hc => (by cases hc), .inl rfl, rfl, rfl, fun i hi j hj => rfl⟩, trivial⟩, rfl, rfl, rfl, rfl, ⟨fun _ => ⟨c55.symm, rfl, fun c h => h⟩, trivial⟩, rfl⟩, _, rfl, LEN y3.1, _, c55, fun _ _ _ _ => rfl, ?_⟩
        cbv
        replace h := of_bind h
        obtain ⟨y19, hy20, h⟩ := h
        replace h := of_req h
        obtain ⟨c54, h⟩ := h
        refine ⟨{ args := [.c (.os 5 0 (LEN y3.2)), .c (.v (.int .i64 y17.1))], o0 := [(5, .arr .rw [] (LEN y3.2) 1 (row GD (encI .i64) y3.2))], r := .c (.v (.int .i64 y19.1)), o1 := [(5, .arr .rw [] (LEN y19.2) 1 (row GD (encI .i64) y19.2))], fl := true, σ := [(5, 1346)], τ := [(5, 1346)] }, hf_laws_markInt64S_mob _ _ _ hy20, ⟨les_cons (AV.le_refl _) (les_cons (AV.le_refl _) (les_nil)), ⟨⟨fun hw => hw, fun c hc => (by cases hc), .inl rfl, rfl, rfl, fun i hi j hj => rfl⟩, trivial⟩, rfl, rfl, rfl, rfl, ⟨fun _ => ⟨c54.symm, rfl, fun c h => h⟩, trivial⟩, rfl⟩, _, rfl, LEN y3.2, _, c54, fun _ _ _ _ => rfl, ?_⟩
        cbv
        replace h := of_bind h
        obtain ⟨y21, hy22, h⟩ := h
        replace h := of_req h
        obtain ⟨c53, h⟩ := h
        refine ⟨{ args := [.c (.bs (LEN y17.2) 1 (row GD (encS) y17.2)), .c (.v (.int .i64 1))], o0 := [], r := .c (.v (.int .i64 y21)), o1 := [], fl := true, σ := [], τ := [] }, hf_laws_heldStringS _ _ _ hy22, ⟨les_cons (give_os (fun _ _ => rfl) rfl rfl c53) (les_cons (AV.le_refl _) (les_nil)), trivial, rfl, rfl, rfl, rfl, trivial, rfl⟩, ?_⟩
        cbv
        refine fork (fun b52 => ?_) (fun b52 => ?_)
        · replace h := of_br_t b52 h
          cbv
          injection h with h
          subst h
          refine ⟨(sparse 81 [(2, .c (.v (.bool false)))] []), ?_, ?_⟩
          · exact le_sparse rfl ⟨AV.le_refl _, trivial⟩ trivial rfl
          · exact ⟨AV.le_refl _, trivial, rfl⟩
        · replace h := of_br_f b52 h
          cbv
          replace h := of_bind h
          obtain ⟨y23, hy24, h⟩ := h
          replace h := of_req h
          obtain ⟨c51, h⟩ := h
          refine ⟨{ args := [.c (.bs (LEN y19.2) 1 (row GD (encI .i64) y19.2)), .c (.v (.int .i64 y21))], o0 := [], r := .c (.v (.int .i64 y23)), o1 := [], fl := true, σ := [], τ := [] }, hf_laws_heldInt64S _ _ _ hy24, ⟨les_cons (give_os (fun _ _ => rfl) rfl rfl c51) (les_cons (AV.le_refl _) (les_nil)), trivial, rfl, rfl, rfl, rfl, trivial, rfl⟩, ?_⟩
          cbv
          refine fork (fun b50 => ?_) (fun b50 => ?_)
          · replace h := of_br_t b50 h
            cbv
            injection h with h
            subst h
            refine ⟨(sparse 81 [(2, .c (.v (.bool false)))] []), ?_, ?_⟩
            · exact le_sparse rfl ⟨AV.le_refl _, trivial⟩ trivial rfl
            · exact ⟨AV.le_refl _, trivial, rfl⟩
          · replace h := of_br_f b50 h
            cbv
            refine fork (fun b49 => ?_) (fun b49 => ?_)
            · replace h := of_br_t b49 h
              cbv
              injection h with h
              subst h
              refine ⟨(sparse 81 [(2, .c (.v (.bool false)))] []), ?_, ?_⟩
              · exact le_sparse rfl ⟨AV.le_refl _, trivial⟩ trivial rfl
              · exact ⟨AV.le_refl _, trivial, rfl⟩
            · replace h := of_br_f b49 h
              cbv
              replace h := of_bind h
              obtain ⟨y25, hy26, h⟩ := h
              refine ⟨{ args := [.c (.v (.string a0))], o0 := [], r := .tup [.c (.os 64000 0 (LEN y25.1)), .c (.os 64002 0 (LEN y25.2))], o1 := [(64000, .arr .rw [] (LEN y25.1) 1 (row GD (encS) y25.1)), (64002, .arr .rw [] (LEN y25.2) 1 (row GD (encI .i64) y25.2))], fl := true, σ := [], τ := [(64000, 3520), (64002, 3522)] }, hf_impl_SplitColumns _ _ hy26, ⟨les_cons (AV.le_refl _) (les_nil), trivial, rfl, rfl, rfl, rfl, ⟨fun h => absurd (show (64000 : Nat) % 2 = 1 from h) (by decide), fun h => absurd (show (64002 : Nat) % 2 = 1 from h) (by decide), trivial⟩, rfl⟩, _, rfl, _, _, rfl, fun _ _ _ _ => rfl, _, _, rfl, fun _ _ _ _ => rfl, ?_⟩
              cbv
              replace h := of_bind h
              obtain ⟨y27, hy28, h⟩ := h
              obtain ⟨S31, hS32⟩ : ∃ S, S = (sparse 81 [(5, .c (.os 1344 0 (LEN y3.1))), (6, .c (.os 1346 0 (LEN y3.2))), (7, .c (.v (.int .i64 y19.1))), (67, .c (.v (.bool y27)))] [(1344, .arr .rw [] (LEN y3.1) 1 (row GD (encS) y17.2)), (1346, .arr .rw [] (LEN y3.2) 1 (row GD (encI .i64) y19.2))]) := ⟨_, rfl⟩
              refine ⟨S31, ?_, ?_⟩
              · clear h
                have h := hy28
                clear hy28
                cbv
                replace h := of_bind h
                obtain ⟨y34, hy35, h⟩ := h
                refine ⟨{ args := [.c (.bs (LEN y25.1) 1 (row GD (encS) y25.1)), .c (.bs (LEN y1.1) 1 (row GD (encS) y1.1))], o0 := [], r := .c (.v (.bool y34)), o1 := [], fl := true, σ := [], τ := [] }, hf_laws_eqStringS _ _ _ hy35, ⟨les_cons (give_os (fun _ _ => rfl) rfl rfl rfl) (les_cons (give_os (fun _ _ => rfl) rfl rfl rfl) (les_nil)), trivial, rfl, rfl, rfl, rfl, trivial, rfl⟩, ?_⟩
                cbv
                refine fork (fun b38 => ?_) (fun b38 => ?_)
                · replace h := of_br_t b38 h
                  cbv
                  injection h with h
                  subst h
                  subst hS32
                  show St.le _ _
                  exact le_sparse rfl ⟨AV.le_refl _, AV.le_refl _, AV.le_refl _, AV.le_refl _, trivial⟩ ⟨⟨fun hw => hw, fun c hc => (by cases hc), .inl rfl, rfl, rfl, fun i hi j hj => rfl⟩, ⟨fun hw => hw, fun c hc => (by cases hc), .inl rfl, rfl, rfl, fun i hi j hj => rfl⟩, trivial⟩ rfl
                · replace h := of_br_f b38 h
                  cbv
                  replace h := of_bind h
                  obtain ⟨y36, hy37, h⟩ := h
                  refine ⟨{ args := [.c (.bs (LEN y25.2) 1 (row GD (encI .i64) y25.2)), .c (.bs (LEN y1.2) 1 (row GD (encI .i64) y1.2))], o0 := [], r := .c (.v (.bool y36)), o1 := [], fl := true, σ := [], τ := [] }, hf_laws_eqInt64S _ _ _ hy37, ⟨les_cons (give_os (fun _ _ => rfl) rfl rfl rfl) (les_cons (give_os (fun _ _ => rfl) rfl rfl rfl) (les_nil)), trivial, rfl, rfl, rfl, rfl, trivial, rfl⟩, ?_⟩
                  cbv
                  injection h with h
                  subst h
                  subst hS32
                  show St.le _ _
                  exact le_sparse rfl ⟨AV.le_refl _, AV.le_refl _, AV.le_refl _, AV.le_refl _, trivial⟩ ⟨⟨fun hw => hw, fun c hc => (by cases hc), .inl rfl, rfl, rfl, fun i hi j hj => rfl⟩, ⟨fun hw => hw, fun c hc => (by cases hc), .inl rfl, rfl, rfl, fun i hi j hj => rfl⟩, trivial⟩ rfl
              · clear hy28
                subst hS32
                replace h := of_let h
                obtain ⟨w33, hw33, h⟩ := h
                have hw33 : w33 = y27 := hw33
                subst hw33
                cbv
                refine fork (fun b48 => ?_) (fun b48 => ?_)
                · replace h := of_br_t b48 h
                  cbv
                  injection h with h
                  subst h
                  refine ⟨(sparse 81 [(2, .c (.v (.bool false)))] []), ?_, ?_⟩
                  · exact le_sparse rfl ⟨AV.le_refl _, trivial⟩ trivial rfl
                  · exact ⟨AV.le_refl _, trivial, rfl⟩
                · replace h := of_br_f b48 h
                  cbv
                  replace h := of_bind h
                  obtain ⟨y39, hy40, h⟩ := h
                  replace h := of_req h
                  obtain ⟨c47, h⟩ := h
                  refine ⟨{ args := [.c (.bs (LEN y17.2) 1 (row GD (encS) y17.2)), .c (.v (.int .i64 1))], o0 := [], r := .c (.v (.int .i64 y39)), o1 := [], fl := true, σ := [], τ := [] }, hf_laws_heldStringS _ _ _ hy40, ⟨les_cons (give_os (fun _ _ => rfl) rfl rfl c47) (les_cons (AV.le_refl _) (les_nil)), trivial, rfl, rfl, rfl, rfl, trivial, rfl⟩, ?_⟩
                  cbv
                  refine fork (fun b46 => ?_) (fun b46 => ?_)
                  · replace h := of_br_t b46 h
                    cbv
                    injection h with h
                    subst h
                    refine ⟨(sparse 81 [(2, .c (.v (.bool false)))] []), ?_, ?_⟩
                    · exact le_sparse rfl ⟨AV.le_refl _, trivial⟩ trivial rfl
                    · exact ⟨AV.le_refl _, trivial, rfl⟩
                  · replace h := of_br_f b46 h
                    cbv
                    replace h := of_bind h
                    obtain ⟨y41, hy42, h⟩ := h
                    replace h := of_req h
                    obtain ⟨c45, h⟩ := h
                    refine ⟨{ args := [.c (.bs (LEN y19.2) 1 (row GD (encI .i64) y19.2)), .c (.v (.int .i64 y39))], o0 := [], r := .c (.v (.int .i64 y41)), o1 := [], fl := true, σ := [], τ := [] }, hf_laws_heldInt64S _ _ _ hy42, ⟨les_cons (give_os (fun _ _ => rfl) rfl rfl c45) (les_cons (AV.le_refl _) (les_nil)), trivial, rfl, rfl, rfl, rfl, trivial, rfl⟩, ?_⟩
                    cbv
                    refine fork (fun b44 => ?_) (fun b44 => ?_)
                    · replace h := of_br_t b44 h
                      cbv
                      injection h with h
                      subst h
                      refine ⟨(sparse 81 [(2, .c (.v (.bool false)))] []), ?_, ?_⟩
                      · exact le_sparse rfl ⟨AV.le_refl _, trivial⟩ trivial rfl
                      · exact ⟨AV.le_refl _, trivial, rfl⟩
                    · replace h := of_br_f b44 h
                      cbv
                      refine fork (fun b43 => ?_) (fun b43 => ?_)
                      · replace h := of_br_t b43 h
                        cbv
                        injection h with h
                        subst h
                        refine ⟨(sparse 81 [(2, .c (.v (.bool false)))] []), ?_, ?_⟩
                        · exact le_sparse rfl ⟨AV.le_refl _, trivial⟩ trivial rfl
                        · exact ⟨AV.le_refl _, trivial, rfl⟩
                      · replace h := of_br_f b43 h
                        cbv
                        injection h with h
                        subst h
                        refine ⟨(sparse 81 [(2, .c (.v (.bool true)))] []), ?_, ?_⟩
                        · exact le_sparse rfl ⟨AV.le_refl _, trivial⟩ trivial rfl
                        · exact ⟨AV.le_refl _, trivial, rfl⟩
end Go.Proofs.Ytnmfighfidaglaa.AM
