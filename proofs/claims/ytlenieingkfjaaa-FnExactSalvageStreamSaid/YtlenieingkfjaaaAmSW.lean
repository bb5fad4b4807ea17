/-
  What the functions that the law reaches compute, and that they do. No condition.
-/
import Derived.Test.YtlenieingkfjaaaAmSV
namespace Go.Proofs.Ytlenieingkfjaaa.AM
open Go Go.Proofs Go.RowKit
set_option linter.unusedVariables false
set_option linter.unusedSimpArgs false
set_option maxRecDepth 100000

/-- spec.SalvageStream -/
noncomputable def F_spec_SalvageStream (a0 : ByteArray) : Option (TLibrary × Int) :=
 (F_spec_l14Read a0).bind fun y1 =>
 some (y1.1.gdone, std.ofN (len y1.1.gdone.fCells))
set_option maxHeartbeats 4000000 in
theorem run_spec_SalvageStream (a0 : ByteArray) (r : TLibrary × Int) (h : F_spec_SalvageStream a0 = some r) : Fun Try.prog 50 [.c (.v (.string a0))] [] (.tup [.agg [.bs (len r.1.fCells) 4 (row gd (encCell len gd) r.1.fCells)], .c (.v (.int .i64 r.2))]) [] false := by
 refine Fun.of_wp (oneOf []) tok mixed Try.func50 (by kernel_rfl) rfl Try.ntmps50 rfl trivial (fun h => by cases h) ?_
 unfold F_spec_SalvageStream at h
 have hf_spec_l14Read := @run_spec_l14Read
 generalize hLEN : @len = LEN at *
 generalize hGD : @gd = GD at *
 generalize hA : std = A at *
 generalize hP : Try.prog = P at *
 cbv
 replace h := of_bind h
 obtain ⟨y1, hy2, h⟩ := h
 refine ⟨{ args := [.c (.v (.string a0))], o0 := [], r := .tup [.c (.ptr 64000 0), .c (.v (.int .i64 y1.2.1)), .c (.v (.int .i64 y1.2.2))], o1 := [(64000, .var [.v (.int .i64 y1.1.gwant), .bs (LEN y1.1.gdone.fCells) 4 (row GD (encCell LEN GD) y1.1.gdone.fCells), .v (.bool y1.1.gopen), .v (.string y1.1.gcell.fName), .bs (LEN y1.1.gcell.fShapes) 5 (row GD (encShape) y1.1.gcell.fShapes), .bs (LEN y1.1.gcell.fLabels) 4 (row GD (encLabel) y1.1.gcell.fLabels), .bs (LEN y1.1.gcell.fInstances) 8 (row GD (encInstance) y1.1.gcell.fInstances), .v (.int .i64 y1.1.gkind), .v (.bool y1.1.gended)])], fl := false, σ := [], τ := [(64000, 576)] }, hf_spec_l14Read _ _ hy2, ⟨les_cons (lR _) (les_nil), trivial, rfl, rfl, rfl, rfl, ⟨fun h => absurd (show (64000 : Nat) % 2 = 1 from h) (by decide), trivial⟩, rfl⟩, ?_⟩
 cbv
 injection h with h
 subst h
 refine ⟨(sparse 23 [(2, .c (.ptr 128 0)), (3, .c (.v (.int .i64 (A.ofN (LEN y1.1.gdone.fCells)))))] [(128, .var [.bs (LEN y1.1.gdone.fCells) 4 (row GD (encCell LEN GD) y1.1.gdone.fCells)])]), ?_, ?_⟩
 ·exact le_sparse rfl ⟨lR _, lR _, trivial⟩ ⟨rfl, trivial⟩ rfl
 ·exact ⟨lR _, trivial, rfl⟩

/-- impl.within -/
noncomputable def F_impl_within (a0 : Int) (a1 : Int) (a2 : Int) : Option (Bool) :=
 ((
    br (std.le a1 a0)
    (some (std.le a0 a2))
    (some false)
  ) : Option (Bool)).bind fun y1 =>
 letO y1 fun w7 =>
 some w7
set_option maxHeartbeats 4000000 in
theorem run_impl_within (a0 : Int) (a1 : Int) (a2 : Int) (r : Bool) (h : F_impl_within a0 a1 a2 = some r) : Fun Try.prog 71 [.c (.v (.int .i64 a0)), .c (.v (.int .i64 a1)), .c (.v (.int .i64 a2))] [] (.c (.v (.bool r))) [] true := by
 refine Fun.of_wp (oneOf [1]) tok mixed Try.func71 (by kernel_rfl) rfl Try.ntmps71 rfl trivial (fun _ => ⟨trivial, trivial⟩) ?_
 unfold F_impl_within at h
 generalize hLEN : @len = LEN at *
 generalize hGD : @gd = GD at *
 generalize hA : std = A at *
 generalize hP : Try.prog = P at *
 cbv
 replace h := of_bind h
 obtain ⟨y1, hy2, h⟩ := h
 obtain ⟨S5, hS6⟩ : ∃ S, S = (sparse 15 [(6, .c (.v (.bool y1)))] []) := ⟨_, rfl⟩
 refine ⟨S5, ?_, ?_⟩
 ·clear h
  have h := hy2
  clear hy2
  cbv
  refine fork (fun b8 => ?_) (fun b8 => ?_)
  ·replace h := of_br_t b8 h
   cbv
   injection h with h
   subst h
   subst hS6
   show St.le _ _
   exact le_sparse rfl ⟨lR _, trivial⟩ trivial rfl
  ·replace h := of_br_f b8 h
   cbv
   injection h with h
   subst h
   subst hS6
   show St.le _ _
   exact le_sparse rfl ⟨lR _, trivial⟩ trivial rfl
 ·clear hy2
  subst hS6
  replace h := of_let h
  obtain ⟨w7, hw7, h⟩ := h
  have hw7 : w7 = y1 := hw7
  subst hw7
  cbv
  injection h with h
  subst h
  refine ⟨(sparse 15 [(6, .c (.v (.bool w7)))] []), ?_, ?_⟩
  ·exact le_sparse rfl ⟨lR _, trivial⟩ trivial rfl
  ·exact ⟨lR _, trivial, rfl⟩

noncomputable def L_impl_Checksum16_x3 (a0 : ByteArray) : (Int × Int) → Option ((Int × Int) ⊕ ((Int))) := fun x3 =>
 letO x3.1 fun v1 =>
 letO x3.2 fun v2 =>
 br (std.lt v2 (std.ofN (std.slen a0)))
 (req (std.inR v2 (std.slen a0)) <|
 req (std.nz 65521) <|
 some (.inl (std.rem (std.add .i64 (std.add .i64 (std.mul .i64 31 v1) (std.conv .i64 (std.sat a0 (std.toN v2)))) 1) 65521, std.add .i64 v2 1)))
 (some (.inr v1))
/-- impl.Checksum16 -/
noncomputable def F_impl_Checksum16 (a0 : ByteArray) : Option (Int) :=
 (whileP (σ := Int × Int) (ρ := (Int)) (L_impl_Checksum16_x3 a0) (1, 0)).bind fun y4 =>
 letO y4 fun y4k0 =>
 letO y4k0 fun w18 =>
 some w18
set_option maxHeartbeats 4000000 in
theorem run_impl_Checksum16 (a0 : ByteArray) (r : Int) (h : F_impl_Checksum16 a0 = some r) : Fun Try.prog 41 [.c (.v (.string a0))] [] (.c (.v (.int .i64 r))) [] true := by
 refine Fun.of_wp (oneOf []) tok mixed Try.func41 (by kernel_rfl) rfl Try.ntmps41 rfl trivial (fun _ => ⟨trivial, trivial⟩) ?_
 unfold F_impl_Checksum16 at h
 unfold L_impl_Checksum16_x3 at h
 generalize hLEN : @len = LEN at *
 generalize hGD : @gd = GD at *
 generalize hA : std = A at *
 generalize hP : Try.prog = P at *
 cbv
 replace h := of_bind h
 obtain ⟨y4, hr5, hN6⟩ := h
 refine loop_cut hr5 (fun x => (sparse 21 [(0, .c (.v (.string a0))), (3, .c (.v (.int .i64 x.1))), (4, .c (.v (.int .i64 x.2)))] [])) ?_ (fun y e s => (fun (w : Int) => e = .exit 0 ∧ s.le (sparse 21 [(3, .c (.v (.int .i64 w)))] [])) y) ?_ ?_
 ·clear hr5 hN6
  show St.le _ _
  exact le_sparse rfl ⟨lR _, lR _, lR _, trivial⟩ trivial rfl
 ·clear hr5 hN6
  intro x z10 h K8 hK9 hY7
  obtain ⟨x0_, x1_⟩ := x
  replace h := of_let h
  obtain ⟨v1, hv1, h⟩ := h
  have hv1 : v1 = x0_ := hv1
  subst hv1
  replace h := of_let h
  obtain ⟨v2, hv2, h⟩ := h
  have hv2 : v2 = x1_ := hv2
  subst hv2
  cbv
  refine fork (fun b17 => ?_) (fun b17 => ?_)
  ·replace h := of_br_t b17 h
   cbv
   replace h := of_req h
   obtain ⟨c15, h⟩ := h
   refine ⟨c15, ?_⟩
   replace h := of_req h
   obtain ⟨c16, h⟩ := h
   refine ⟨c16, ?_⟩
   injection h with h
   refine hK9 _ h.symm _ ?_
   exact le_sparse rfl ⟨lR _, lR _, lR _, trivial⟩ trivial rfl
  ·replace h := of_br_f b17 h
   cbv
   injection h with h
   refine hY7 _ h.symm _ _ (And.intro rfl ?_) (by intro hh; cases hh)
   exact le_sparse rfl ⟨lR _, trivial⟩ trivial rfl
 ·clear hr5
  have h := hN6
  clear hN6
  intro e13 s14 q12 hne
  replace h := of_let h
  obtain ⟨y4k0, hyk, h⟩ := h
  have hyk : y4k0 = y4 := hyk
  subst hyk
  obtain ⟨rfl, q12⟩ := q12
  replace h := of_let h
  obtain ⟨w18, hw18, h⟩ := h
  have hw18 : w18 = y4k0 := hw18
  subst hw18
  cbv
  refine ⟨_, q12, ?_⟩
  cbv
  injection h with h
  subst h
  refine ⟨(sparse 21 [(2, .c (.v (.int .i64 w18)))] []), ?_, ?_⟩
  ·exact le_sparse rfl ⟨lR _, trivial⟩ trivial rfl
  ·exact ⟨lR _, trivial, rfl⟩

/-- impl.SplitRecord -/
noncomputable def F_impl_SplitRecord (a0 : ByteArray) (a1 : Int) : Option (Int × ByteArray × Int × Int) :=
 (F_impl_within a1 0 (std.ofN (std.slen a0))).bind fun y1 =>
 br (!(y1))
 (some ((0 : Int), (ByteArray.mk #[]), (0 : Int), (2 : Int)))
 (req (std.upTo a1 (std.slen a0)) <|
 br (std.lt (std.ofN (std.slen (std.ssub a0 (std.toN a1) (std.slen a0)))) 2)
 (some ((0 : Int), (ByteArray.mk #[]), (0 : Int), (7 : Int)))
 (req (std.inR 0 (std.slen (std.ssub a0 (std.toN a1) (std.slen a0)))) <|
 req (std.nneg 8) <|
 req (std.inR 1 (std.slen (std.ssub a0 (std.toN a1) (std.slen a0)))) <|
 br (std.lt (std.add .i64 (std.shl .i64 (std.conv .i64 (std.sat (std.ssub a0 (std.toN a1) (std.slen a0)) (std.toN 0))) 8) (std.conv .i64 (std.sat (std.ssub a0 (std.toN a1) (std.slen a0)) (std.toN 1)))) 5)
 (some ((0 : Int), (ByteArray.mk #[]), (0 : Int), (4 : Int)))
 (br (std.lt (std.ofN (std.slen (std.ssub a0 (std.toN a1) (std.slen a0)))) (std.add .i64 (std.shl .i64 (std.conv .i64 (std.sat (std.ssub a0 (std.toN a1) (std.slen a0)) (std.toN 0))) 8) (std.conv .i64 (std.sat (std.ssub a0 (std.toN a1) (std.slen a0)) (std.toN 1)))))
 (some ((0 : Int), (ByteArray.mk #[]), (0 : Int), (7 : Int)))
 (req (std.inR (std.sub .i64 (std.add .i64 (std.shl .i64 (std.conv .i64 (std.sat (std.ssub a0 (std.toN a1) (std.slen a0)) (std.toN 0))) 8) (std.conv .i64 (std.sat (std.ssub a0 (std.toN a1) (std.slen a0)) (std.toN 1)))) 2) (std.slen (std.ssub a0 (std.toN a1) (std.slen a0)))) <|
 req (std.nneg 8) <|
 req (std.inR (std.sub .i64 (std.add .i64 (std.shl .i64 (std.conv .i64 (std.sat (std.ssub a0 (std.toN a1) (std.slen a0)) (std.toN 0))) 8) (std.conv .i64 (std.sat (std.ssub a0 (std.toN a1) (std.slen a0)) (std.toN 1)))) 1) (std.slen (std.ssub a0 (std.toN a1) (std.slen a0)))) <|
 req (std.inR 2 (std.slen (std.ssub a0 (std.toN a1) (std.slen a0)))) <|
 req (std.upTo (std.sub .i64 (std.add .i64 (std.shl .i64 (std.conv .i64 (std.sat (std.ssub a0 (std.toN a1) (std.slen a0)) (std.toN 0))) 8) (std.conv .i64 (std.sat (std.ssub a0 (std.toN a1) (std.slen a0)) (std.toN 1)))) 2) (std.slen (std.ssub a0 (std.toN a1) (std.slen a0)))) <|
 req (std.upTo 3 (std.toN (std.sub .i64 (std.add .i64 (std.shl .i64 (std.conv .i64 (std.sat (std.ssub a0 (std.toN a1) (std.slen a0)) (std.toN 0))) 8) (std.conv .i64 (std.sat (std.ssub a0 (std.toN a1) (std.slen a0)) (std.toN 1)))) 2))) <|
 req (std.upTo (std.sub .i64 (std.add .i64 (std.shl .i64 (std.conv .i64 (std.sat (std.ssub a0 (std.toN a1) (std.slen a0)) (std.toN 0))) 8) (std.conv .i64 (std.sat (std.ssub a0 (std.toN a1) (std.slen a0)) (std.toN 1)))) 2) (std.slen (std.ssub a0 (std.toN a1) (std.slen a0)))) <|
 (F_impl_Checksum16 (std.ssub (std.ssub a0 (std.toN a1) (std.slen a0)) 0 (std.toN (std.sub .i64 (std.add .i64 (std.shl .i64 (std.conv .i64 (std.sat (std.ssub a0 (std.toN a1) (std.slen a0)) (std.toN 0))) 8) (std.conv .i64 (std.sat (std.ssub a0 (std.toN a1) (std.slen a0)) (std.toN 1)))) 2)))).bind fun y14 =>
 br (std.not (std.eq (std.add .i64 (std.shl .i64 (std.conv .i64 (std.sat (std.ssub a0 (std.toN a1) (std.slen a0)) (std.toN (std.sub .i64 (std.add .i64 (std.shl .i64 (std.conv .i64 (std.sat (std.ssub a0 (std.toN a1) (std.slen a0)) (std.toN 0))) 8) (std.conv .i64 (std.sat (std.ssub a0 (std.toN a1) (std.slen a0)) (std.toN 1)))) 2)))) 8) (std.conv .i64 (std.sat (std.ssub a0 (std.toN a1) (std.slen a0)) (std.toN (std.sub .i64 (std.add .i64 (std.shl .i64 (std.conv .i64 (std.sat (std.ssub a0 (std.toN a1) (std.slen a0)) (std.toN 0))) 8) (std.conv .i64 (std.sat (std.ssub a0 (std.toN a1) (std.slen a0)) (std.toN 1)))) 1))))) y14))
 (some ((0 : Int), (ByteArray.mk #[]), (0 : Int), (8 : Int)))
 (((
    (F_impl_within (std.conv .i64 (std.sat (std.ssub a0 (std.toN a1) (std.slen a0)) (std.toN 2))) 1 7).bind fun y23 =>
    br (!(y23))
    (some true)
    (some (std.lt 200 (std.ofN (std.slen (std.ssub (std.ssub a0 (std.toN a1) (std.slen a0)) (std.toN 3) (std.toN (std.sub .i64 (std.add .i64 (std.shl .i64 (std.conv .i64 (std.sat (std.ssub a0 (std.toN a1) (std.slen a0)) (std.toN 0))) 8) (std.conv .i64 (std.sat (std.ssub a0 (std.toN a1) (std.slen a0)) (std.toN 1)))) 2)))))))
  ) : Option (Bool)).bind fun y16 =>
 letO y16 fun w22 =>
 br w22
 (some ((0 : Int), (ByteArray.mk #[]), (0 : Int), (4 : Int)))
 (some (std.conv .i64 (std.sat (std.ssub a0 (std.toN a1) (std.slen a0)) (std.toN 2)), std.ssub (std.ssub a0 (std.toN a1) (std.slen a0)) (std.toN 3) (std.toN (std.sub .i64 (std.add .i64 (std.shl .i64 (std.conv .i64 (std.sat (std.ssub a0 (std.toN a1) (std.slen a0)) (std.toN 0))) 8) (std.conv .i64 (std.sat (std.ssub a0 (std.toN a1) (std.slen a0)) (std.toN 1)))) 2)), std.add .i64 a1 (std.add .i64 (std.shl .i64 (std.conv .i64 (std.sat (std.ssub a0 (std.toN a1) (std.slen a0)) (std.toN 0))) 8) (std.conv .i64 (std.sat (std.ssub a0 (std.toN a1) (std.slen a0)) (std.toN 1)))), (0 : Int))))))))
set_option maxHeartbeats 4000000 in
theorem run_impl_SplitRecord (a0 : ByteArray) (a1 : Int) (r : Int × ByteArray × Int × Int) (h : F_impl_SplitRecord a0 a1 = some r) : Fun Try.prog 154 [.c (.v (.string a0)), .c (.v (.int .i64 a1))] [] (.tup [.c (.v (.int .i64 r.1)), .c (.v (.string r.2.1)), .c (.v (.int .i64 r.2.2.1)), .c (.v (.int .i64 r.2.2.2))]) [] true := by
 refine Fun.of_wp (oneOf [15]) tok mixed Try.func154 (by kernel_rfl) rfl Try.ntmps154 rfl trivial (fun _ => ⟨(by simp [AV.flat, AV.flat1, AC.flat]), trivial⟩) ?_
 unfold F_impl_SplitRecord at h
 have hf_impl_Checksum16 := @run_impl_Checksum16
 have hf_impl_within := @run_impl_within
 generalize hLEN : @len = LEN at *
 generalize hGD : @gd = GD at *
 generalize hA : std = A at *
 generalize hP : Try.prog = P at *
 cbv
 replace h := of_bind h
 obtain ⟨y1, hy2, h⟩ := h
 refine ⟨{ args := [.c (.v (.int .i64 a1)), .c (.v (.int .i64 0)), .c (.v (.int .i64 (A.ofN (A.slen a0))))], o0 := [], r := .c (.v (.bool y1)), o1 := [], fl := true, σ := [], τ := [] }, hf_impl_within _ _ _ _ hy2, ⟨les_cons (lR _) (les_cons (lR _) (les_cons (lR _) (les_nil))), trivial, rfl, rfl, rfl, rfl, trivial, rfl⟩, ?_⟩
 cbv
 refine fork (fun b31 => ?_) (fun b31 => ?_)
 ·replace h := of_br_t b31 h
  cbv
  injection h with h
  subst h
  refine ⟨(sparse 81 [(4, .c (.v (.int .i64 0))), (5, .c (.v (.string (ByteArray.mk #[])))), (6, .c (.v (.int .i64 0))), (7, .c (.v (.int .i64 2)))] []), ?_, ?_⟩
  ·exact le_sparse rfl ⟨lR _, lR _, lR _, lR _, trivial⟩ trivial rfl
  ·exact ⟨lR _, trivial, rfl⟩
 ·replace h := of_br_f b31 h
  cbv
  replace h := of_req h
  obtain ⟨c3, h⟩ := h
  refine ⟨c3, ?_⟩
  refine fork (fun b30 => ?_) (fun b30 => ?_)
  ·replace h := of_br_t b30 h
   cbv
   injection h with h
   subst h
   refine ⟨(sparse 81 [(4, .c (.v (.int .i64 0))), (5, .c (.v (.string (ByteArray.mk #[])))), (6, .c (.v (.int .i64 0))), (7, .c (.v (.int .i64 7)))] []), ?_, ?_⟩
   ·exact le_sparse rfl ⟨lR _, lR _, lR _, lR _, trivial⟩ trivial rfl
   ·exact ⟨lR _, trivial, rfl⟩
  ·replace h := of_br_f b30 h
   cbv
   replace h := of_req h
   obtain ⟨c4, h⟩ := h
   refine ⟨c4, ?_⟩
   replace h := of_req h
   obtain ⟨c5, h⟩ := h
   refine ⟨c5, ?_⟩
   replace h := of_req h
   obtain ⟨c6, h⟩ := h
   refine ⟨c6, ?_⟩
   refine fork (fun b29 => ?_) (fun b29 => ?_)
   ·replace h := of_br_t b29 h
    cbv
    injection h with h
    subst h
    refine ⟨(sparse 81 [(4, .c (.v (.int .i64 0))), (5, .c (.v (.string (ByteArray.mk #[])))), (6, .c (.v (.int .i64 0))), (7, .c (.v (.int .i64 4)))] []), ?_, ?_⟩
    ·exact le_sparse rfl ⟨lR _, lR _, lR _, lR _, trivial⟩ trivial rfl
    ·exact ⟨lR _, trivial, rfl⟩
   ·replace h := of_br_f b29 h
    cbv
    refine fork (fun b28 => ?_) (fun b28 => ?_)
    ·replace h := of_br_t b28 h
     cbv
     injection h with h
     subst h
     refine ⟨(sparse 81 [(4, .c (.v (.int .i64 0))), (5, .c (.v (.string (ByteArray.mk #[])))), (6, .c (.v (.int .i64 0))), (7, .c (.v (.int .i64 7)))] []), ?_, ?_⟩
     ·exact le_sparse rfl ⟨lR _, lR _, lR _, lR _, trivial⟩ trivial rfl
     ·exact ⟨lR _, trivial, rfl⟩
    ·replace h := of_br_f b28 h
     cbv
     replace h := of_req h
     obtain ⟨c7, h⟩ := h
     refine ⟨c7, ?_⟩
     replace h := of_req h
     obtain ⟨c8, h⟩ := h
     refine ⟨c8, ?_⟩
     replace h := of_req h
     obtain ⟨c9, h⟩ := h
     refine ⟨c9, ?_⟩
     replace h := of_req h
     obtain ⟨c10, h⟩ := h
     refine ⟨c10, ?_⟩
     replace h := of_req h
     obtain ⟨c11, h⟩ := h
     replace h := of_req h
     obtain ⟨c12, h⟩ := h
     refine ⟨⟨c11, c12⟩, ?_⟩
     replace h := of_req h
     obtain ⟨c13, h⟩ := h
     refine ⟨c13, ?_⟩
     replace h := of_bind h
     obtain ⟨y14, hy15, h⟩ := h
     refine ⟨{ args := [.c (.v (.string (A.ssub (A.ssub a0 (A.toN a1) (A.slen a0)) 0 (A.toN (A.sub .i64 (A.add .i64 (A.shl .i64 (A.conv .i64 (A.sat (A.ssub a0 (A.toN a1) (A.slen a0)) (A.toN 0))) 8) (A.conv .i64 (A.sat (A.ssub a0 (A.toN a1) (A.slen a0)) (A.toN 1)))) 2)))))], o0 := [], r := .c (.v (.int .i64 y14)), o1 := [], fl := true, σ := [], τ := [] }, hf_impl_Checksum16 _ _ hy15, ⟨les_cons (lR _) (les_nil), trivial, rfl, rfl, rfl, rfl, trivial, rfl⟩, ?_⟩
     cbv
     refine fork (fun b27 => ?_) (fun b27 => ?_)
     ·replace h := of_br_t b27 h
      cbv
      injection h with h
      subst h
      refine ⟨(sparse 81 [(4, .c (.v (.int .i64 0))), (5, .c (.v (.string (ByteArray.mk #[])))), (6, .c (.v (.int .i64 0))), (7, .c (.v (.int .i64 8)))] []), ?_, ?_⟩
      ·exact le_sparse rfl ⟨lR _, lR _, lR _, lR _, trivial⟩ trivial rfl
      ·exact ⟨lR _, trivial, rfl⟩
     ·replace h := of_br_f b27 h
      cbv
      replace h := of_bind h
      obtain ⟨y16, hy17, h⟩ := h
      obtain ⟨S20, hS21⟩ : ∃ S, S = (sparse 81 [(1, .c (.v (.int .i64 a1))), (9, .c (.v (.int .i64 (A.add .i64 (A.shl .i64 (A.conv .i64 (A.sat (A.ssub a0 (A.toN a1) (A.slen a0)) (A.toN 0))) 8) (A.conv .i64 (A.sat (A.ssub a0 (A.toN a1) (A.slen a0)) (A.toN 1))))))), (11, .c (.v (.int .i64 (A.conv .i64 (A.sat (A.ssub a0 (A.toN a1) (A.slen a0)) (A.toN 2)))))), (12, .c (.v (.string (A.ssub (A.ssub a0 (A.toN a1) (A.slen a0)) (A.toN 3) (A.toN (A.sub .i64 (A.add .i64 (A.shl .i64 (A.conv .i64 (A.sat (A.ssub a0 (A.toN a1) (A.slen a0)) (A.toN 0))) 8) (A.conv .i64 (A.sat (A.ssub a0 (A.toN a1) (A.slen a0)) (A.toN 1)))) 2)))))), (67, .c (.v (.bool y16)))] []) := ⟨_, rfl⟩
      refine ⟨S20, ?_, ?_⟩
      ·clear h
       have h := hy17
       clear hy17
       cbv
       replace h := of_bind h
       obtain ⟨y23, hy24, h⟩ := h
       refine ⟨{ args := [.c (.v (.int .i64 (A.conv .i64 (A.sat (A.ssub a0 (A.toN a1) (A.slen a0)) (A.toN 2))))), .c (.v (.int .i64 1)), .c (.v (.int .i64 7))], o0 := [], r := .c (.v (.bool y23)), o1 := [], fl := true, σ := [], τ := [] }, hf_impl_within _ _ _ _ hy24, ⟨les_cons (lR _) (les_cons (lR _) (les_cons (lR _) (les_nil))), trivial, rfl, rfl, rfl, rfl, trivial, rfl⟩, ?_⟩
       cbv
       refine fork (fun b25 => ?_) (fun b25 => ?_)
       ·replace h := of_br_t b25 h
        cbv
        injection h with h
        subst h
        subst hS21
        show St.le _ _
        exact le_sparse rfl ⟨lR _, lR _, lR _, lR _, lR _, trivial⟩ trivial rfl
       ·replace h := of_br_f b25 h
        cbv
        injection h with h
        subst h
        subst hS21
        show St.le _ _
        exact le_sparse rfl ⟨lR _, lR _, lR _, lR _, lR _, trivial⟩ trivial rfl
      ·clear hy17
       subst hS21
       replace h := of_let h
       obtain ⟨w22, hw22, h⟩ := h
       have hw22 : w22 = y16 := hw22
       subst hw22
       cbv
       refine fork (fun b26 => ?_) (fun b26 => ?_)
       ·replace h := of_br_t b26 h
        cbv
        injection h with h
        subst h
        refine ⟨(sparse 81 [(4, .c (.v (.int .i64 0))), (5, .c (.v (.string (ByteArray.mk #[])))), (6, .c (.v (.int .i64 0))), (7, .c (.v (.int .i64 4)))] []), ?_, ?_⟩
        ·exact le_sparse rfl ⟨lR _, lR _, lR _, lR _, trivial⟩ trivial rfl
        ·exact ⟨lR _, trivial, rfl⟩
       ·replace h := of_br_f b26 h
        cbv
        injection h with h
        subst h
        refine ⟨(sparse 81 [(4, .c (.v (.int .i64 (A.conv .i64 (A.sat (A.ssub a0 (A.toN a1) (A.slen a0)) (A.toN 2)))))), (5, .c (.v (.string (A.ssub (A.ssub a0 (A.toN a1) (A.slen a0)) (A.toN 3) (A.toN (A.sub .i64 (A.add .i64 (A.shl .i64 (A.conv .i64 (A.sat (A.ssub a0 (A.toN a1) (A.slen a0)) (A.toN 0))) 8) (A.conv .i64 (A.sat (A.ssub a0 (A.toN a1) (A.slen a0)) (A.toN 1)))) 2)))))), (6, .c (.v (.int .i64 (A.add .i64 a1 (A.add .i64 (A.shl .i64 (A.conv .i64 (A.sat (A.ssub a0 (A.toN a1) (A.slen a0)) (A.toN 0))) 8) (A.conv .i64 (A.sat (A.ssub a0 (A.toN a1) (A.slen a0)) (A.toN 1)))))))), (7, .c (.v (.int .i64 0)))] []), ?_, ?_⟩
        ·exact le_sparse rfl ⟨lR _, lR _, lR _, lR _, trivial⟩ trivial rfl
        ·exact ⟨lR _, trivial, rfl⟩

/-- impl.streamReader).possible -/
noncomputable def F_impl_streamReader_possible_mpb (a0 : TstreamReader) (a1 : Int) : Option (Bool) :=
 br a0.gdone
 (some false)
 (br (!(a0.gbegun))
 (some (std.eq a1 1))
 (((
    br (!(a0.ginside))
    (some (std.lt (std.ofN (len a0.glib.fCells)) a0.gcells))
    (some false)
  ) : Option (Bool)).bind fun y1 =>
 letO y1 fun w7 =>
 br w7
 (some (std.eq a1 2))
 (br (!(a0.ginside))
 (some (std.eq a1 7))
 (br (std.eq a1 3)
 (((
    br (std.eq (std.ofN (len a0.gcell.fLabels)) 0)
    (some (std.eq (std.ofN (len a0.gcell.fInstances)) 0))
    (some false)
  ) : Option (Bool)).bind fun y9 =>
 letO y9 fun w15 =>
 some w15)
 (br (std.eq a1 4)
 (some (std.eq (std.ofN (len a0.gcell.fInstances)) 0))
 (((
    br (std.eq a1 5)
    (some true)
    (some (std.eq a1 6))
  ) : Option (Bool)).bind fun y17 =>
 letO y17 fun w23 =>
 some w23))))))
set_option maxHeartbeats 4000000 in
theorem run_impl_streamReader_possible_mpb (a0 : TstreamReader) (a1 : Int) (r : Bool) (h : F_impl_streamReader_possible_mpb a0 a1 = some r) : Fun Try.prog 214 [.c (.bp 9 (encstreamReader len gd a0)), .c (.v (.int .i64 a1))] [] (.c (.v (.bool r))) [] true := by
 refine Fun.of_wp (oneOf [5, 11, 14]) tok mixed Try.func214 (by kernel_rfl) rfl Try.ntmps214 rfl trivial (fun _ => ⟨trivial, trivial⟩) ?_
 unfold F_impl_streamReader_possible_mpb at h
 generalize hLEN : @len = LEN at *
 generalize hGD : @gd = GD at *
 generalize hA : std = A at *
 generalize hP : Try.prog = P at *
 cbv
 refine fork (fun b30 => ?_) (fun b30 => ?_)
 ·replace h := of_br_t b30 h
  cbv
  injection h with h
  subst h
  refine ⟨(sparse 81 [(4, .c (.v (.bool false)))] []), ?_, ?_⟩
  ·exact le_sparse rfl ⟨lR _, trivial⟩ trivial rfl
  ·exact ⟨lR _, trivial, rfl⟩
 ·replace h := of_br_f b30 h
  cbv
  refine fork (fun b29 => ?_) (fun b29 => ?_)
  ·replace h := of_br_t b29 h
   cbv
   injection h with h
   subst h
   refine ⟨(sparse 81 [(4, .c (.v (.bool (A.eq a1 1))))] []), ?_, ?_⟩
   ·exact le_sparse rfl ⟨lR _, trivial⟩ trivial rfl
   ·exact ⟨lR _, trivial, rfl⟩
  ·replace h := of_br_f b29 h
   cbv
   replace h := of_bind h
   obtain ⟨y1, hy2, h⟩ := h
   obtain ⟨S5, hS6⟩ : ∃ S, S = (sparse 81 [(0, .c (.bp 9 (encstreamReader LEN GD a0))), (1, .c (.v (.int .i64 a1))), (18, .c (.v (.bool y1)))] []) := ⟨_, rfl⟩
   refine ⟨S5, ?_, ?_⟩
   ·clear h
    have h := hy2
    clear hy2
    cbv
    refine fork (fun b8 => ?_) (fun b8 => ?_)
    ·replace h := of_br_t b8 h
     cbv
     injection h with h
     subst h
     subst hS6
     show St.le _ _
     exact le_sparse rfl ⟨lR _, lR _, lR _, trivial⟩ trivial rfl
    ·replace h := of_br_f b8 h
     cbv
     injection h with h
     subst h
     subst hS6
     show St.le _ _
     exact le_sparse rfl ⟨lR _, lR _, lR _, trivial⟩ trivial rfl
   ·clear hy2
    subst hS6
    replace h := of_let h
    obtain ⟨w7, hw7, h⟩ := h
    have hw7 : w7 = y1 := hw7
    subst hw7
    cbv
    refine fork (fun b28 => ?_) (fun b28 => ?_)
    ·replace h := of_br_t b28 h
     cbv
     injection h with h
     subst h
     refine ⟨(sparse 81 [(4, .c (.v (.bool (A.eq a1 2))))] []), ?_, ?_⟩
     ·exact le_sparse rfl ⟨lR _, trivial⟩ trivial rfl
     ·exact ⟨lR _, trivial, rfl⟩
    ·replace h := of_br_f b28 h
     cbv
     refine fork (fun b27 => ?_) (fun b27 => ?_)
     ·replace h := of_br_t b27 h
      cbv
      injection h with h
      subst h
      refine ⟨(sparse 81 [(4, .c (.v (.bool (A.eq a1 7))))] []), ?_, ?_⟩
      ·exact le_sparse rfl ⟨lR _, trivial⟩ trivial rfl
      ·exact ⟨lR _, trivial, rfl⟩
     ·replace h := of_br_f b27 h
      cbv
      refine fork (fun b26 => ?_) (fun b26 => ?_)
      ·replace h := of_br_t b26 h
       cbv
       replace h := of_bind h
       obtain ⟨y9, hy10, h⟩ := h
       obtain ⟨S13, hS14⟩ : ∃ S, S = (sparse 81 [(4, .c (.v (.bool y9)))] []) := ⟨_, rfl⟩
       refine ⟨S13, ?_, ?_⟩
       ·clear h
        have h := hy10
        clear hy10
        cbv
        refine fork (fun b16 => ?_) (fun b16 => ?_)
        ·replace h := of_br_t b16 h
         cbv
         injection h with h
         subst h
         subst hS14
         show St.le _ _
         exact le_sparse rfl ⟨lR _, trivial⟩ trivial rfl
        ·replace h := of_br_f b16 h
         cbv
         injection h with h
         subst h
         subst hS14
         show St.le _ _
         exact le_sparse rfl ⟨lR _, trivial⟩ trivial rfl
       ·clear hy10
        subst hS14
        replace h := of_let h
        obtain ⟨w15, hw15, h⟩ := h
        have hw15 : w15 = y9 := hw15
        subst hw15
        cbv
        injection h with h
        subst h
        refine ⟨(sparse 81 [(4, .c (.v (.bool w15)))] []), ?_, ?_⟩
        ·exact le_sparse rfl ⟨lR _, trivial⟩ trivial rfl
        ·exact ⟨lR _, trivial, rfl⟩
      ·replace h := of_br_f b26 h
       cbv
       refine fork (fun b25 => ?_) (fun b25 => ?_)
       ·replace h := of_br_t b25 h
        cbv
        injection h with h
        subst h
        refine ⟨(sparse 81 [(4, .c (.v (.bool (A.eq (A.ofN (LEN a0.gcell.fInstances)) 0))))] []), ?_, ?_⟩
        ·exact le_sparse rfl ⟨lR _, trivial⟩ trivial rfl
        ·exact ⟨lR _, trivial, rfl⟩
       ·replace h := of_br_f b25 h
        cbv
        replace h := of_bind h
        obtain ⟨y17, hy18, h⟩ := h
        obtain ⟨S21, hS22⟩ : ∃ S, S = (sparse 81 [(4, .c (.v (.bool y17)))] []) := ⟨_, rfl⟩
        refine ⟨S21, ?_, ?_⟩
        ·clear h
         have h := hy18
         clear hy18
         cbv
         refine fork (fun b24 => ?_) (fun b24 => ?_)
         ·replace h := of_br_t b24 h
          cbv
          injection h with h
          subst h
          subst hS22
          show St.le _ _
          exact le_sparse rfl ⟨lR _, trivial⟩ trivial rfl
         ·replace h := of_br_f b24 h
          cbv
          injection h with h
          subst h
          subst hS22
          show St.le _ _
          exact le_sparse rfl ⟨lR _, trivial⟩ trivial rfl
        ·clear hy18
         subst hS22
         replace h := of_let h
         obtain ⟨w23, hw23, h⟩ := h
         have hw23 : w23 = y17 := hw23
         subst hw23
         cbv
         injection h with h
         subst h
         refine ⟨(sparse 81 [(4, .c (.v (.bool w23)))] []), ?_, ?_⟩
         ·exact le_sparse rfl ⟨lR _, trivial⟩ trivial rfl
         ·exact ⟨lR _, trivial, rfl⟩

/-- impl.byteReader).one -/
noncomputable def F_impl_byteReader_one_mPb (a0 : TbyteReader) : Option (Int × TbyteReader) :=
 br (std.lt (std.ofN (std.slen a0.gs)) 1)
 (some ((0 : Int), (TbyteReader.mk a0.gs true)))
 (req (std.inR 0 (std.slen a0.gs)) <|
 req (std.upTo 1 (std.slen a0.gs)) <|
 some (std.conv .i64 (std.sat a0.gs (std.toN 0)), (TbyteReader.mk (std.ssub a0.gs (std.toN 1) (std.slen a0.gs)) a0.gbad)))
set_option maxHeartbeats 4000000 in
theorem run_impl_byteReader_one_mPb (a0 : TbyteReader) (r : Int × TbyteReader) (h : F_impl_byteReader_one_mPb a0 = some r) : Fun Try.prog 216 [.c (.ptr 5 0)] [(5, .var [.v (.string a0.gs), .v (.bool a0.gbad)])] (.c (.v (.int .i64 r.1))) [(5, .var [.v (.string r.2.gs), .v (.bool r.2.gbad)])] true := by
 refine Fun.of_wp (oneOf []) tok mixed Try.func216 (by kernel_rfl) rfl Try.ntmps216 rfl trivial (fun _ => ⟨trivial, ⟨(by simp [AO.flat, AC.flat]), trivial⟩⟩) ?_
 unfold F_impl_byteReader_one_mPb at h
 generalize hLEN : @len = LEN at *
 generalize hGD : @gd = GD at *
 generalize hA : std = A at *
 generalize hP : Try.prog = P at *
 cbv
 refine fork (fun b3 => ?_) (fun b3 => ?_)
 ·replace h := of_br_t b3 h
  cbv
  injection h with h
  subst h
  refine ⟨(sparse 28 [(2, .c (.v (.int .i64 0)))] [(5, .var [.v (.string a0.gs), .v (.bool true)])]), ?_, ?_⟩
  ·exact le_sparse rfl ⟨lR _, trivial⟩ ⟨rfl, trivial⟩ rfl
  ·exact ⟨lR _, ⟨rfl, trivial⟩, rfl⟩
 ·replace h := of_br_f b3 h
  cbv
  replace h := of_req h
  obtain ⟨c1, h⟩ := h
  refine ⟨c1, ?_⟩
  replace h := of_req h
  obtain ⟨c2, h⟩ := h
  refine ⟨c2, ?_⟩
  injection h with h
  subst h
  refine ⟨(sparse 28 [(2, .c (.v (.int .i64 (A.conv .i64 (A.sat a0.gs (A.toN 0))))))] [(5, .var [.v (.string (A.ssub a0.gs (A.toN 1) (A.slen a0.gs))), .v (.bool a0.gbad)])]), ?_, ?_⟩
  ·exact le_sparse rfl ⟨lR _, trivial⟩ ⟨rfl, trivial⟩ rfl
  ·exact ⟨lR _, ⟨rfl, trivial⟩, rfl⟩
/-- impl.streamReader).take$1 -/
noncomputable def F_impl_streamReader_take_1_mPP (a0 : TbyteReader) : Option (Bool × TbyteReader × TbyteReader) :=
 ((
    br (!(a0.gbad))
    (some (std.seq a0.gs (ByteArray.mk #[])))
    (some false)
  ) : Option (Bool)).bind fun y1 =>
 letO y1 fun w7 =>
 some (w7, a0, a0)
set_option maxHeartbeats 4000000 in
theorem run_impl_streamReader_take_1_mPP (a0 : TbyteReader) (r : Bool × TbyteReader × TbyteReader) (h : F_impl_streamReader_take_1_mPP a0 = some r) : Fun Try.prog 215 [.c (.ptr 5 0)] [(5, .var [.ptr 7 0]), (7, .var [.v (.string a0.gs), .v (.bool a0.gbad)])] (.c (.v (.bool r.1))) [(5, .var [.ptr 7 0]), (7, .var [.v (.string r.2.2.gs), .v (.bool r.2.2.gbad)])] true := by
 refine Fun.of_wp (oneOf [1]) tok mixed Try.func215 (by kernel_rfl) rfl Try.ntmps215 rfl trivial (fun _ => ⟨trivial, ⟨(by simp [AO.flat, AC.flat]), (by simp [AO.flat, AC.flat]), trivial⟩⟩) ?_
 unfold F_impl_streamReader_take_1_mPP at h
 generalize hLEN : @len = LEN at *
 generalize hGD : @gd = GD at *
 generalize hA : std = A at *
 generalize hP : Try.prog = P at *
 cbv
 replace h := of_bind h
 obtain ⟨y1, hy2, h⟩ := h
 obtain ⟨S5, hS6⟩ : ∃ S, S = (sparse 14 [(1, .c (.v (.bool y1)))] [(5, .var [.ptr 7 0]), (7, .var [.v (.string a0.gs), .v (.bool a0.gbad)])]) := ⟨_, rfl⟩
 refine ⟨S5, ?_, ?_⟩
 ·clear h
  have h := hy2
  clear hy2
  cbv
  refine fork (fun b8 => ?_) (fun b8 => ?_)
  ·replace h := of_br_t b8 h
   cbv
   injection h with h
   subst h
   subst hS6
   show St.le _ _
   exact le_sparse rfl ⟨lR _, trivial⟩ ⟨rfl, rfl, trivial⟩ rfl
  ·replace h := of_br_f b8 h
   cbv
   injection h with h
   subst h
   subst hS6
   show St.le _ _
   exact le_sparse rfl ⟨lR _, trivial⟩ ⟨rfl, rfl, trivial⟩ rfl
 ·clear hy2
  subst hS6
  replace h := of_let h
  obtain ⟨w7, hw7, h⟩ := h
  have hw7 : w7 = y1 := hw7
  subst hw7
  cbv
  injection h with h
  subst h
  refine ⟨(sparse 14 [(1, .c (.v (.bool w7)))] [(5, .var [.ptr 7 0]), (7, .var [.v (.string a0.gs), .v (.bool a0.gbad)])]), ?_, ?_⟩
  ·exact le_sparse rfl ⟨lR _, trivial⟩ ⟨rfl, rfl, trivial⟩ rfl
  ·exact ⟨lR _, ⟨rfl, rfl, trivial⟩, rfl⟩

/-- impl.byteReader).name -/
noncomputable def F_impl_byteReader_name_mPb (a0 : TbyteReader) : Option (ByteArray × TbyteReader) :=
 (F_impl_byteReader_one_mPb a0).bind fun y1 =>
 br (std.lt (std.ofN (std.slen y1.2.gs)) y1.1)
 (some ((ByteArray.mk #[]), (TbyteReader.mk y1.2.gs true)))
 (req (std.upTo y1.1 (std.slen y1.2.gs)) <|
 req (std.upTo y1.1 (std.slen y1.2.gs)) <|
 some (std.ssub y1.2.gs 0 (std.toN y1.1), (TbyteReader.mk (std.ssub y1.2.gs (std.toN y1.1) (std.slen y1.2.gs)) y1.2.gbad)))
set_option maxHeartbeats 4000000 in
theorem run_impl_byteReader_name_mPb (a0 : TbyteReader) (r : ByteArray × TbyteReader) (h : F_impl_byteReader_name_mPb a0 = some r) : Fun Try.prog 217 [.c (.ptr 5 0)] [(5, .var [.v (.string a0.gs), .v (.bool a0.gbad)])] (.c (.v (.string r.1))) [(5, .var [.v (.string r.2.gs), .v (.bool r.2.gbad)])] true := by
 refine Fun.of_wp (oneOf []) tok mixed Try.func217 (by kernel_rfl) rfl Try.ntmps217 rfl trivial (fun _ => ⟨trivial, ⟨(by simp [AO.flat, AC.flat]), trivial⟩⟩) ?_
 unfold F_impl_byteReader_name_mPb at h
 have hf_impl_byteReader_one_mPb := @run_impl_byteReader_one_mPb
 generalize hLEN : @len = LEN at *
 generalize hGD : @gd = GD at *
 generalize hA : std = A at *
 generalize hP : Try.prog = P at *
 cbv
 replace h := of_bind h
 obtain ⟨y1, hy2, h⟩ := h
 refine ⟨{ args := [.c (.ptr 5 0)], o0 := [(5, .var [.v (.string a0.gs), .v (.bool a0.gbad)])], r := .c (.v (.int .i64 y1.1)), o1 := [(5, .var [.v (.string y1.2.gs), .v (.bool y1.2.gbad)])], fl := true, σ := [(5, 5)], τ := [(5, 5)] }, hf_impl_byteReader_one_mPb _ _ hy2, ⟨les_cons (lR _) (les_nil), ⟨rfl, trivial⟩, rfl, rfl, rfl, rfl, ⟨fun _ => rfl, trivial⟩, rfl⟩, ?_⟩
 cbv
 refine fork (fun b5 => ?_) (fun b5 => ?_)
 ·replace h := of_br_t b5 h
  cbv
  injection h with h
  subst h
  refine ⟨(sparse 33 [(2, .c (.v (.string (ByteArray.mk #[]))))] [(5, .var [.v (.string y1.2.gs), .v (.bool true)])]), ?_, ?_⟩
  ·exact le_sparse rfl ⟨lR _, trivial⟩ ⟨rfl, trivial⟩ rfl
  ·exact ⟨lR _, ⟨rfl, trivial⟩, rfl⟩
 ·replace h := of_br_f b5 h
  cbv
  replace h := of_req h
  obtain ⟨c3, h⟩ := h
  refine ⟨c3, ?_⟩
  replace h := of_req h
  obtain ⟨c4, h⟩ := h
  refine ⟨c4, ?_⟩
  injection h with h
  subst h
  refine ⟨(sparse 33 [(2, .c (.v (.string (A.ssub y1.2.gs 0 (A.toN y1.1)))))] [(5, .var [.v (.string (A.ssub y1.2.gs (A.toN y1.1) (A.slen y1.2.gs))), .v (.bool y1.2.gbad)])]), ?_, ?_⟩
  ·exact le_sparse rfl ⟨lR _, trivial⟩ ⟨rfl, trivial⟩ rfl
  ·exact ⟨lR _, ⟨rfl, trivial⟩, rfl⟩

noncomputable def L_impl_IsName_x2 (a0 : ByteArray) : (Int) → Option ((Int) ⊕ ((Unit) ⊕ (Unit))) := fun x2 =>
 letO x2 fun v1 =>
 br (std.lt v1 (std.ofN (std.slen a0)))
 (((
    req (std.inR v1 (std.slen a0)) <|
    br (std.lt (std.sat a0 (std.toN v1)) 97)
    (req (std.inR v1 (std.slen a0)) <|
    br (std.lt (std.sat a0 (std.toN v1)) 48)
    (some true)
    (req (std.inR v1 (std.slen a0)) <|
    some (std.lt 57 (std.sat a0 (std.toN v1)))))
    (req (std.inR v1 (std.slen a0)) <|
    br (std.lt 122 (std.sat a0 (std.toN v1)))
    (req (std.inR v1 (std.slen a0)) <|
    br (std.lt (std.sat a0 (std.toN v1)) 48)
    (some true)
    (req (std.inR v1 (std.slen a0)) <|
    some (std.lt 57 (std.sat a0 (std.toN v1)))))
    (some false))
  ) : Option (Bool)).bind fun y14 =>
 letO y14 fun w20 =>
 br w20
 (some (.inr (.inl ())))
 (some (.inl (std.add .i64 v1 1))))
 (some (.inr (.inr ())))
/-- impl.IsName -/
noncomputable def F_impl_IsName (a0 : ByteArray) : Option (Bool) :=
 (whileP (σ := Int) (ρ := (Unit) ⊕ (Unit)) (L_impl_IsName_x2 a0) 0).bind fun y3 =>
 (match y3 with
  | .inl y3k0 => (
    some false)
  | .inr y3m0 =>
    ((
       br (std.le 1 (std.ofN (std.slen a0)))
       (some (std.le (std.ofN (std.slen a0)) 8))
       (some false)
     ) : Option (Bool)).bind fun y33 =>
    letO y33 fun w39 =>
    some w39)
set_option maxHeartbeats 4000000 in
theorem run_impl_IsName (a0 : ByteArray) (r : Bool) (h : F_impl_IsName a0 = some r) : Fun Try.prog 198 [.c (.v (.string a0))] [] (.c (.v (.bool r))) [] true := by
 refine Fun.of_wp (oneOf [4, 6]) tok mixed Try.func198 (by kernel_rfl) rfl Try.ntmps198 rfl trivial (fun _ => ⟨trivial, trivial⟩) ?_
 unfold F_impl_IsName at h
 unfold L_impl_IsName_x2 at h
 generalize hLEN : @len = LEN at *
 generalize hGD : @gd = GD at *
 generalize hA : std = A at *
 generalize hP : Try.prog = P at *
 cbv
 replace h := of_bind h
 obtain ⟨y3, hr4, hN5⟩ := h
 refine loop_cut hr4 (fun x => (sparse 40 [(0, .c (.v (.string a0))), (3, .c (.v (.int .i64 x)))] [])) ?_ (fun y e s => (match y with | .inl w => e = .ret ∧ s.le (sparse 40 [(2, .c (.v (.bool false)))] []) | .inr w0 => (fun (w : Unit) => e = .exit 0 ∧ s.le (sparse 40 [(0, .c (.v (.string a0)))] [])) w0)) ?_ ?_
 ·clear hr4 hN5
  show St.le _ _
  exact le_sparse rfl ⟨lR _, lR _, trivial⟩ trivial rfl
 ·clear hr4 hN5
  intro x z9 h K7 hK8 hY6
  replace h := of_let h
  obtain ⟨v1, hv1, h⟩ := h
  have hv1 : v1 = x := hv1
  subst hv1
  cbv
  refine fork (fun b32 => ?_) (fun b32 => ?_)
  ·replace h := of_br_t b32 h
   cbv
   replace h := of_bind h
   obtain ⟨y14, hy15, h⟩ := h
   obtain ⟨S18, hS19⟩ : ∃ S, S = (sparse 40 [(0, .c (.v (.string a0))), (3, .c (.v (.int .i64 v1))), (31, .c (.v (.bool y14)))] []) := ⟨_, rfl⟩
   refine ⟨S18, ?_, ?_⟩
   ·clear h
    have h := hy15
    clear hy15
    cbv
    replace h := of_req h
    obtain ⟨c21, h⟩ := h
    refine ⟨c21, ?_⟩
    refine fork (fun b30 => ?_) (fun b30 => ?_)
    ·replace h := of_br_t b30 h
     cbv
     replace h := of_req h
     obtain ⟨c27, h⟩ := h
     refine ⟨c27, ?_⟩
     refine fork (fun b29 => ?_) (fun b29 => ?_)
     ·replace h := of_br_t b29 h
      cbv
      injection h with h
      subst h
      subst hS19
      show St.le _ _
      exact le_sparse rfl ⟨lR _, lR _, lR _, trivial⟩ trivial rfl
     ·replace h := of_br_f b29 h
      cbv
      replace h := of_req h
      obtain ⟨c28, h⟩ := h
      refine ⟨c28, ?_⟩
      injection h with h
      subst h
      subst hS19
      show St.le _ _
      exact le_sparse rfl ⟨lR _, lR _, lR _, trivial⟩ trivial rfl
    ·replace h := of_br_f b30 h
     cbv
     replace h := of_req h
     obtain ⟨c22, h⟩ := h
     refine ⟨c22, ?_⟩
     refine fork (fun b26 => ?_) (fun b26 => ?_)
     ·replace h := of_br_t b26 h
      cbv
      replace h := of_req h
      obtain ⟨c23, h⟩ := h
      refine ⟨c23, ?_⟩
      refine fork (fun b25 => ?_) (fun b25 => ?_)
      ·replace h := of_br_t b25 h
       cbv
       injection h with h
       subst h
       subst hS19
       show St.le _ _
       exact le_sparse rfl ⟨lR _, lR _, lR _, trivial⟩ trivial rfl
      ·replace h := of_br_f b25 h
       cbv
       replace h := of_req h
       obtain ⟨c24, h⟩ := h
       refine ⟨c24, ?_⟩
       injection h with h
       subst h
       subst hS19
       show St.le _ _
       exact le_sparse rfl ⟨lR _, lR _, lR _, trivial⟩ trivial rfl
     ·replace h := of_br_f b26 h
      cbv
      injection h with h
      subst h
      subst hS19
      show St.le _ _
      exact le_sparse rfl ⟨lR _, lR _, lR _, trivial⟩ trivial rfl
   ·clear hy15
    subst hS19
    replace h := of_let h
    obtain ⟨w20, hw20, h⟩ := h
    have hw20 : w20 = y14 := hw20
    subst hw20
    cbv
    refine fork (fun b31 => ?_) (fun b31 => ?_)
    ·replace h := of_br_t b31 h
     cbv
     injection h with h
     refine hY6 _ h.symm _ _ (And.intro rfl ?_) (by intro hh; cases hh)
     exact le_sparse rfl ⟨lR _, trivial⟩ trivial rfl
    ·replace h := of_br_f b31 h
     cbv
     injection h with h
     refine hK8 _ h.symm _ ?_
     exact le_sparse rfl ⟨lR _, lR _, trivial⟩ trivial rfl
  ·replace h := of_br_f b32 h
   cbv
   injection h with h
   refine hY6 _ h.symm _ _ (And.intro rfl ?_) (by intro hh; cases hh)
   exact le_sparse rfl ⟨lR _, trivial⟩ trivial rfl
 ·clear hr4
  have h := hN5
  clear hN5
  intro e12 s13 q11 hne
  rcases y3 with y3k0 | y3m0
  ·replace h := h
   obtain ⟨rfl, q11⟩ := q11
   cbv
   injection h with h
   subst h
   refine ⟨(sparse 40 [(2, .c (.v (.bool false)))] []), ?_, ?_⟩
   ·refine St.le_trans q11 ?_
    exact le_sparse rfl ⟨lR _, trivial⟩ trivial rfl
   ·exact ⟨lR _, trivial, rfl⟩
  ·obtain ⟨rfl, q11⟩ := q11
   cbv
   refine ⟨_, q11, ?_⟩
   cbv
   replace h := of_bind h
   obtain ⟨y33, hy34, h⟩ := h
   obtain ⟨S37, hS38⟩ : ∃ S, S = (sparse 40 [(2, .c (.v (.bool y33)))] []) := ⟨_, rfl⟩
   refine ⟨S37, ?_, ?_⟩
   ·clear h
    have h := hy34
    clear hy34
    cbv
    refine fork (fun b40 => ?_) (fun b40 => ?_)
    ·replace h := of_br_t b40 h
     cbv
     injection h with h
     subst h
     subst hS38
     show St.le _ _
     exact le_sparse rfl ⟨lR _, trivial⟩ trivial rfl
    ·replace h := of_br_f b40 h
     cbv
     injection h with h
     subst h
     subst hS38
     show St.le _ _
     exact le_sparse rfl ⟨lR _, trivial⟩ trivial rfl
   ·clear hy34
    subst hS38
    replace h := of_let h
    obtain ⟨w39, hw39, h⟩ := h
    have hw39 : w39 = y33 := hw39
    subst hw39
    cbv
    injection h with h
    subst h
    refine ⟨(sparse 40 [(2, .c (.v (.bool w39)))] []), ?_, ?_⟩
    ·exact le_sparse rfl ⟨lR _, trivial⟩ trivial rfl
    ·exact ⟨lR _, trivial, rfl⟩

/-- impl.named$1 -/
noncomputable def F_impl_named_1_mbp (a0 : TCell) (a1 : ByteArray) : Option (Bool) :=
 some (std.seq a0.fName a1)
set_option maxHeartbeats 4000000 in
theorem run_impl_named_1_mbp (a0 : TCell) (a1 : ByteArray) (r : Bool) (h : F_impl_named_1_mbp a0 a1 = some r) : Fun Try.prog 209 [.agg [.v (.string a0.fName), .bs (len a0.fShapes) 5 (row gd (encShape) a0.fShapes), .bs (len a0.fLabels) 4 (row gd (encLabel) a0.fLabels), .bs (len a0.fInstances) 8 (row gd (encInstance) a0.fInstances)], .c (.bp 1 (encS a1))] [] (.c (.v (.bool r))) [] true := by
 refine Fun.of_wp (oneOf []) tok mixed Try.func209 (by kernel_rfl) rfl Try.ntmps209 rfl trivial (fun _ => ⟨trivial, trivial⟩) ?_
 unfold F_impl_named_1_mbp at h
 generalize hLEN : @len = LEN at *
 generalize hGD : @gd = GD at *
 generalize hA : std = A at *
 generalize hP : Try.prog = P at *
 cbv
 injection h with h
 subst h
 refine ⟨(sparse 8 [(3, .c (.v (.bool (A.seq a0.fName a1))))] []), ?_, ?_⟩
 ·exact le_sparse rfl ⟨lR _, trivial⟩ trivial rfl
 ·exact ⟨lR _, trivial, rfl⟩

noncomputable def L_slices_IndexFunc_Limpl_Cell_impl_Cell_mbFimpl_named_1p_x2 (a0 : List TCell) (a1_0 : ByteArray) : (Int) → Option ((Int) ⊕ ((Int) ⊕ (Unit))) := fun x2 =>
 letO x2 fun v1 =>
 br (std.lt v1 (std.ofN (len a0)))
 (req (std.inR v1 (len a0)) <|
 (F_impl_named_1_mbp (gd a0 (std.toN v1)) a1_0).bind fun y15 =>
 br y15
 (some (.inr (.inl v1)))
 (some (.inl (std.add .i64 v1 1))))
 (some (.inr (.inr ())))
/-- impl.Cell] -/
noncomputable def F_slices_IndexFunc_Limpl_Cell_impl_Cell_mbFimpl_named_1p (a0 : List TCell) (a1_0 : ByteArray) : Option (Int) :=
 (whileP (σ := Int) (ρ := (Int) ⊕ (Unit)) (L_slices_IndexFunc_Limpl_Cell_impl_Cell_mbFimpl_named_1p_x2 a0 a1_0) 0).bind fun y3 =>
 (match y3 with
  | .inl y3k0 => (
    letO y3k0 fun w19 =>
    some w19)
  | .inr y3m0 =>
    some (-1))
set_option maxHeartbeats 4000000 in
theorem run_slices_IndexFunc_Limpl_Cell_impl_Cell_mbFimpl_named_1p (a0 : List TCell) (a1_0 : ByteArray) (r : Int) (h : F_slices_IndexFunc_Limpl_Cell_impl_Cell_mbFimpl_named_1p a0 a1_0 = some r) : Fun Try.prog 208 [.c (.bs (len a0) 4 (row gd (encCell len gd) a0)), .c (.fn 209 1 fun j => ([.bp 1 (encS a1_0)] : List AC).getD j .junk)] [] (.c (.v (.int .i64 r))) [] true := by
 refine Fun.of_wp (oneOf []) tok mixed Try.func208 (by kernel_rfl) rfl Try.ntmps208 rfl trivial (fun _ => ⟨trivial, trivial⟩) ?_
 unfold F_slices_IndexFunc_Limpl_Cell_impl_Cell_mbFimpl_named_1p at h
 unfold L_slices_IndexFunc_Limpl_Cell_impl_Cell_mbFimpl_named_1p_x2 at h
 have hf_impl_named_1_mbp := @run_impl_named_1_mbp
 generalize hLEN : @len = LEN at *
 generalize hGD : @gd = GD at *
 generalize hA : std = A at *
 generalize hP : Try.prog = P at *
 cbv
 replace h := of_bind h
 obtain ⟨y3, hr4, hN5⟩ := h
 refine loop_cut hr4 (fun x => (sparse 19 [(0, .c (.bs (LEN a0) 4 (row GD (encCell LEN GD) a0))), (1, .c (.fn 209 1 fun j => ([.bp 1 (encS a1_0)] : List AC).getD j .junk)), (7, .c (.v (.int .i64 (A.ofN (LEN a0))))), (8, .c (.v (.int .i64 x)))] [])) ?_ (fun y e s => (match y with | .inl w => e = .ret ∧ s.le (sparse 19 [(4, .c (.v (.int .i64 w)))] []) | .inr w0 => (fun (w : Unit) => e = .exit 0 ∧ s.le (sparse 19 [] [])) w0)) ?_ ?_
 ·clear hr4 hN5
  show St.le _ _
  exact le_sparse rfl ⟨lR _, lR _, lR _, lR _, trivial⟩ trivial rfl
 ·clear hr4 hN5
  intro x z9 h K7 hK8 hY6
  replace h := of_let h
  obtain ⟨v1, hv1, h⟩ := h
  have hv1 : v1 = x := hv1
  subst hv1
  cbv
  refine fork (fun b18 => ?_) (fun b18 => ?_)
  ·replace h := of_br_t b18 h
   cbv
   replace h := of_req h
   obtain ⟨c14, h⟩ := h
   refine ⟨⟨c14, trivial⟩, ?_⟩
   replace h := of_bind h
   obtain ⟨y15, hy16, h⟩ := h
   refine ⟨{ args := [.agg [.v (.string (GD a0 (A.toN v1)).fName), .bs (LEN (GD a0 (A.toN v1)).fShapes) 5 (row GD (encShape) (GD a0 (A.toN v1)).fShapes), .bs (LEN (GD a0 (A.toN v1)).fLabels) 4 (row GD (encLabel) (GD a0 (A.toN v1)).fLabels), .bs (LEN (GD a0 (A.toN v1)).fInstances) 8 (row GD (encInstance) (GD a0 (A.toN v1)).fInstances)], .c (.bp 1 (encS a1_0))], o0 := [], r := .c (.v (.bool y15)), o1 := [], fl := true, σ := [], τ := [] }, hf_impl_named_1_mbp _ _ _ hy16, ⟨les_cons (lR _) (les_cons (le_bp (show 1 ≤ 1 from by decide) (by intro j hj; match j, hj with | 0, _ => exact rle_refl _ | (j_ + 1), h_ => exact absurd h_ (by omega))) (les_nil)), trivial, rfl, rfl, rfl, rfl, trivial, rfl⟩, ?_⟩
   cbv
   refine fork (fun b17 => ?_) (fun b17 => ?_)
   ·replace h := of_br_t b17 h
    cbv
    injection h with h
    refine hY6 _ h.symm _ _ (And.intro rfl ?_) (by intro hh; cases hh)
    exact le_sparse rfl ⟨lR _, trivial⟩ trivial rfl
   ·replace h := of_br_f b17 h
    cbv
    injection h with h
    refine hK8 _ h.symm _ ?_
    exact le_sparse rfl ⟨lR _, lR _, lR _, lR _, trivial⟩ trivial rfl
  ·replace h := of_br_f b18 h
   cbv
   injection h with h
   refine hY6 _ h.symm _ _ (And.intro rfl ?_) (by intro hh; cases hh)
   exact le_sparse rfl trivial trivial rfl
 ·clear hr4
  have h := hN5
  clear hN5
  intro e12 s13 q11 hne
  rcases y3 with y3k0 | y3m0
  ·replace h := h
   obtain ⟨rfl, q11⟩ := q11
   replace h := of_let h
   obtain ⟨w19, hw19, h⟩ := h
   have hw19 : w19 = y3k0 := hw19
   subst hw19
   cbv
   injection h with h
   subst h
   refine ⟨(sparse 19 [(4, .c (.v (.int .i64 w19)))] []), ?_, ?_⟩
   ·refine St.le_trans q11 ?_
    exact le_sparse rfl ⟨lR _, trivial⟩ trivial rfl
   ·exact ⟨lR _, trivial, rfl⟩
  ·obtain ⟨rfl, q11⟩ := q11
   cbv
   refine ⟨_, q11, ?_⟩
   cbv
   injection h with h
   subst h
   refine ⟨(sparse 19 [(4, .c (.v (.int .i64 (-1))))] []), ?_, ?_⟩
   ·exact le_sparse rfl ⟨lR _, trivial⟩ trivial rfl
   ·exact ⟨lR _, trivial, rfl⟩

/-- impl.named -/
noncomputable def F_impl_named (a0 : TLibrary) (a1 : ByteArray) : Option (Int) :=
 (F_slices_IndexFunc_Limpl_Cell_impl_Cell_mbFimpl_named_1p a0.fCells a1).bind fun y1 =>
 some y1
set_option maxHeartbeats 4000000 in
theorem run_impl_named (a0 : TLibrary) (a1 : ByteArray) (r : Int) (h : F_impl_named a0 a1 = some r) : Fun Try.prog 145 [.agg [.bs (len a0.fCells) 4 (row gd (encCell len gd) a0.fCells)], .c (.v (.string a1))] [] (.c (.v (.int .i64 r))) [] true := by
 refine Fun.of_wp (oneOf []) tok mixed Try.func145 (by kernel_rfl) rfl Try.ntmps145 rfl trivial (fun _ => ⟨trivial, trivial⟩) ?_
 unfold F_impl_named at h
 have hf_slices_IndexFunc_Limpl_Cell_impl_Cell_mbFimpl_named_1p := @run_slices_IndexFunc_Limpl_Cell_impl_Cell_mbFimpl_named_1p
 generalize hLEN : @len = LEN at *
 generalize hGD : @gd = GD at *
 generalize hA : std = A at *
 generalize hP : Try.prog = P at *
 cbv
 replace h := of_bind h
 obtain ⟨y1, hy2, h⟩ := h
 refine ⟨{ args := [.c (.bs (LEN a0.fCells) 4 (row GD (encCell LEN GD) a0.fCells)), .c (.fn 209 1 fun j => ([.bp 1 (encS a1)] : List AC).getD j .junk)], o0 := [], r := .c (.v (.int .i64 y1)), o1 := [], fl := true, σ := [], τ := [] }, hf_slices_IndexFunc_Limpl_Cell_impl_Cell_mbFimpl_named_1p _ _ _ hy2, ⟨les_cons (lR _) (les_cons (le_fn (by intro j hj; match j, hj with | 0, _ => exact le_bp (show 1 ≤ 1 from by decide) (by intro j hj; match j, hj with | 0, _ => exact rle_refl _ | (j_ + 1), h_ => exact absurd h_ (by omega)) | (j_ + 1), h_ => exact absurd h_ (by omega))) (les_nil)), trivial, rfl, rfl, rfl, rfl, trivial, rfl⟩, ?_⟩
 cbv
 injection h with h
 subst h
 refine ⟨(sparse 9 [(4, .c (.v (.int .i64 y1)))] []), ?_, ?_⟩
 ·exact le_sparse rfl ⟨lR _, trivial⟩ trivial rfl
 ·exact ⟨lR _, trivial, rfl⟩
/-- impl.byteReader).two -/
noncomputable def F_impl_byteReader_two_mPb (a0 : TbyteReader) : Option (Int × TbyteReader) :=
 (F_impl_byteReader_one_mPb a0).bind fun y1 =>
 req (std.nneg 8) <|
 (F_impl_byteReader_one_mPb y1.2).bind fun y4 =>
 some (std.add .i64 (std.shl .i64 y1.1 8) y4.1, y4.2)
set_option maxHeartbeats 4000000 in
theorem run_impl_byteReader_two_mPb (a0 : TbyteReader) (r : Int × TbyteReader) (h : F_impl_byteReader_two_mPb a0 = some r) : Fun Try.prog 221 [.c (.ptr 5 0)] [(5, .var [.v (.string a0.gs), .v (.bool a0.gbad)])] (.c (.v (.int .i64 r.1))) [(5, .var [.v (.string r.2.gs), .v (.bool r.2.gbad)])] true := by
 refine Fun.of_wp (oneOf []) tok mixed Try.func221 (by kernel_rfl) rfl Try.ntmps221 rfl trivial (fun _ => ⟨trivial, ⟨(by simp [AO.flat, AC.flat]), trivial⟩⟩) ?_
 unfold F_impl_byteReader_two_mPb at h
 have hf_impl_byteReader_one_mPb := @run_impl_byteReader_one_mPb
 generalize hLEN : @len = LEN at *
 generalize hGD : @gd = GD at *
 generalize hA : std = A at *
 generalize hP : Try.prog = P at *
 cbv
 replace h := of_bind h
 obtain ⟨y1, hy2, h⟩ := h
 refine ⟨{ args := [.c (.ptr 5 0)], o0 := [(5, .var [.v (.string a0.gs), .v (.bool a0.gbad)])], r := .c (.v (.int .i64 y1.1)), o1 := [(5, .var [.v (.string y1.2.gs), .v (.bool y1.2.gbad)])], fl := true, σ := [(5, 5)], τ := [(5, 5)] }, hf_impl_byteReader_one_mPb _ _ hy2, ⟨les_cons (lR _) (les_nil), ⟨rfl, trivial⟩, rfl, rfl, rfl, rfl, ⟨fun _ => rfl, trivial⟩, rfl⟩, ?_⟩
 cbv
 replace h := of_req h
 obtain ⟨c3, h⟩ := h
 refine ⟨c3, ?_⟩
 replace h := of_bind h
 obtain ⟨y4, hy5, h⟩ := h
 refine ⟨{ args := [.c (.ptr 5 0)], o0 := [(5, .var [.v (.string y1.2.gs), .v (.bool y1.2.gbad)])], r := .c (.v (.int .i64 y4.1)), o1 := [(5, .var [.v (.string y4.2.gs), .v (.bool y4.2.gbad)])], fl := true, σ := [(5, 5)], τ := [(5, 5)] }, hf_impl_byteReader_one_mPb _ _ hy5, ⟨les_cons (lR _) (les_nil), ⟨rfl, trivial⟩, rfl, rfl, rfl, rfl, ⟨fun _ => rfl, trivial⟩, rfl⟩, ?_⟩
 cbv
 injection h with h
 subst h
 refine ⟨(sparse 11 [(2, .c (.v (.int .i64 (A.add .i64 (A.shl .i64 y1.1 8) y4.1))))] [(5, .var [.v (.string y4.2.gs), .v (.bool y4.2.gbad)])]), ?_, ?_⟩
 ·exact le_sparse rfl ⟨lR _, trivial⟩ ⟨rfl, trivial⟩ rfl
 ·exact ⟨lR _, ⟨rfl, trivial⟩, rfl⟩

/-- impl.byteReader).coordinate -/
noncomputable def F_impl_byteReader_coordinate_mPb (a0 : TbyteReader) : Option (Int × TbyteReader) :=
 (F_impl_byteReader_two_mPb a0).bind fun y1 =>
 some (std.sub .i64 y1.1 32768, y1.2)
set_option maxHeartbeats 4000000 in
theorem run_impl_byteReader_coordinate_mPb (a0 : TbyteReader) (r : Int × TbyteReader) (h : F_impl_byteReader_coordinate_mPb a0 = some r) : Fun Try.prog 253 [.c (.ptr 5 0)] [(5, .var [.v (.string a0.gs), .v (.bool a0.gbad)])] (.c (.v (.int .i64 r.1))) [(5, .var [.v (.string r.2.gs), .v (.bool r.2.gbad)])] true := by
 refine Fun.of_wp (oneOf []) tok mixed Try.func253 (by kernel_rfl) rfl Try.ntmps253 rfl trivial (fun _ => ⟨trivial, ⟨(by simp [AO.flat, AC.flat]), trivial⟩⟩) ?_
 unfold F_impl_byteReader_coordinate_mPb at h
 have hf_impl_byteReader_two_mPb := @run_impl_byteReader_two_mPb
 generalize hLEN : @len = LEN at *
 generalize hGD : @gd = GD at *
 generalize hA : std = A at *
 generalize hP : Try.prog = P at *
 cbv
 replace h := of_bind h
 obtain ⟨y1, hy2, h⟩ := h
 refine ⟨{ args := [.c (.ptr 5 0)], o0 := [(5, .var [.v (.string a0.gs), .v (.bool a0.gbad)])], r := .c (.v (.int .i64 y1.1)), o1 := [(5, .var [.v (.string y1.2.gs), .v (.bool y1.2.gbad)])], fl := true, σ := [(5, 5)], τ := [(5, 5)] }, hf_impl_byteReader_two_mPb _ _ hy2, ⟨les_cons (lR _) (les_nil), ⟨rfl, trivial⟩, rfl, rfl, rfl, rfl, ⟨fun _ => rfl, trivial⟩, rfl⟩, ?_⟩
 cbv
 injection h with h
 subst h
 refine ⟨(sparse 6 [(2, .c (.v (.int .i64 (A.sub .i64 y1.1 32768))))] [(5, .var [.v (.string y1.2.gs), .v (.bool y1.2.gbad)])]), ?_, ?_⟩
 ·exact le_sparse rfl ⟨lR _, trivial⟩ ⟨rfl, trivial⟩ rfl
 ·exact ⟨lR _, ⟨rfl, trivial⟩, rfl⟩

/-- impl.byteReader).shape -/
noncomputable def F_impl_byteReader_shape_mPb (a0 : TbyteReader) : Option (TShape × TbyteReader) :=
 (F_impl_byteReader_one_mPb a0).bind fun y1 =>
 (F_impl_byteReader_coordinate_mPb y1.2).bind fun y3 =>
 (F_impl_byteReader_coordinate_mPb y3.2).bind fun y5 =>
 (F_impl_byteReader_coordinate_mPb y5.2).bind fun y7 =>
 (F_impl_byteReader_coordinate_mPb y7.2).bind fun y9 =>
 some ((TShape.mk y1.1 (TRect.mk y3.1 y5.1 y7.1 y9.1)), y9.2)
set_option maxHeartbeats 4000000 in
theorem run_impl_byteReader_shape_mPb (a0 : TbyteReader) (r : TShape × TbyteReader) (h : F_impl_byteReader_shape_mPb a0 = some r) : Fun Try.prog 218 [.c (.ptr 5 0)] [(5, .var [.v (.string a0.gs), .v (.bool a0.gbad)])] (.agg [.v (.int .i64 r.1.fLayer), .v (.int .i64 r.1.fBox.fX0), .v (.int .i64 r.1.fBox.fY0), .v (.int .i64 r.1.fBox.fX1), .v (.int .i64 r.1.fBox.fY1)]) [(5, .var [.v (.string r.2.gs), .v (.bool r.2.gbad)])] true := by
 refine Fun.of_wp (oneOf []) tok mixed Try.func218 (by kernel_rfl) rfl Try.ntmps218 rfl trivial (fun _ => ⟨(by simp [AV.flat, AV.flat1, AC.flat]), ⟨(by simp [AO.flat, AC.flat]), trivial⟩⟩) ?_
 unfold F_impl_byteReader_shape_mPb at h
 have hf_impl_byteReader_coordinate_mPb := @run_impl_byteReader_coordinate_mPb
 have hf_impl_byteReader_one_mPb := @run_impl_byteReader_one_mPb
 generalize hLEN : @len = LEN at *
 generalize hGD : @gd = GD at *
 generalize hA : std = A at *
 generalize hP : Try.prog = P at *
 cbv
 replace h := of_bind h
 obtain ⟨y1, hy2, h⟩ := h
 refine ⟨{ args := [.c (.ptr 5 0)], o0 := [(5, .var [.v (.string a0.gs), .v (.bool a0.gbad)])], r := .c (.v (.int .i64 y1.1)), o1 := [(5, .var [.v (.string y1.2.gs), .v (.bool y1.2.gbad)])], fl := true, σ := [(5, 5)], τ := [(5, 5)] }, hf_impl_byteReader_one_mPb _ _ hy2, ⟨les_cons (lR _) (les_nil), ⟨rfl, trivial⟩, rfl, rfl, rfl, rfl, ⟨fun _ => rfl, trivial⟩, rfl⟩, ?_⟩
 cbv
 replace h := of_bind h
 obtain ⟨y3, hy4, h⟩ := h
 refine ⟨{ args := [.c (.ptr 5 0)], o0 := [(5, .var [.v (.string y1.2.gs), .v (.bool y1.2.gbad)])], r := .c (.v (.int .i64 y3.1)), o1 := [(5, .var [.v (.string y3.2.gs), .v (.bool y3.2.gbad)])], fl := true, σ := [(5, 5)], τ := [(5, 5)] }, hf_impl_byteReader_coordinate_mPb _ _ hy4, ⟨les_cons (lR _) (les_nil), ⟨rfl, trivial⟩, rfl, rfl, rfl, rfl, ⟨fun _ => rfl, trivial⟩, rfl⟩, ?_⟩
 cbv
 replace h := of_bind h
 obtain ⟨y5, hy6, h⟩ := h
 refine ⟨{ args := [.c (.ptr 5 0)], o0 := [(5, .var [.v (.string y3.2.gs), .v (.bool y3.2.gbad)])], r := .c (.v (.int .i64 y5.1)), o1 := [(5, .var [.v (.string y5.2.gs), .v (.bool y5.2.gbad)])], fl := true, σ := [(5, 5)], τ := [(5, 5)] }, hf_impl_byteReader_coordinate_mPb _ _ hy6, ⟨les_cons (lR _) (les_nil), ⟨rfl, trivial⟩, rfl, rfl, rfl, rfl, ⟨fun _ => rfl, trivial⟩, rfl⟩, ?_⟩
 cbv
 replace h := of_bind h
 obtain ⟨y7, hy8, h⟩ := h
 refine ⟨{ args := [.c (.ptr 5 0)], o0 := [(5, .var [.v (.string y5.2.gs), .v (.bool y5.2.gbad)])], r := .c (.v (.int .i64 y7.1)), o1 := [(5, .var [.v (.string y7.2.gs), .v (.bool y7.2.gbad)])], fl := true, σ := [(5, 5)], τ := [(5, 5)] }, hf_impl_byteReader_coordinate_mPb _ _ hy8, ⟨les_cons (lR _) (les_nil), ⟨rfl, trivial⟩, rfl, rfl, rfl, rfl, ⟨fun _ => rfl, trivial⟩, rfl⟩, ?_⟩
 cbv
 replace h := of_bind h
 obtain ⟨y9, hy10, h⟩ := h
 refine ⟨{ args := [.c (.ptr 5 0)], o0 := [(5, .var [.v (.string y7.2.gs), .v (.bool y7.2.gbad)])], r := .c (.v (.int .i64 y9.1)), o1 := [(5, .var [.v (.string y9.2.gs), .v (.bool y9.2.gbad)])], fl := true, σ := [(5, 5)], τ := [(5, 5)] }, hf_impl_byteReader_coordinate_mPb _ _ hy10, ⟨les_cons (lR _) (les_nil), ⟨rfl, trivial⟩, rfl, rfl, rfl, rfl, ⟨fun _ => rfl, trivial⟩, rfl⟩, ?_⟩
 cbv
 injection h with h
 subst h
 refine ⟨(sparse 25 [(2, .c (.ptr 128 0))] [(128, .var [.v (.int .i64 y1.1), .v (.int .i64 y3.1), .v (.int .i64 y5.1), .v (.int .i64 y7.1), .v (.int .i64 y9.1)]), (5, .var [.v (.string y9.2.gs), .v (.bool y9.2.gbad)])]), ?_, ?_⟩
 ·exact le_sparse rfl ⟨lR _, trivial⟩ ⟨rfl, rfl, trivial⟩ rfl
 ·exact ⟨lR _, ⟨rfl, trivial⟩, rfl⟩

/-- impl.IsValidRect -/
noncomputable def F_impl_IsValidRect (a0 : TRect) : Option (Bool) :=
 ((
    br (std.le (-40) a0.fX0)
    (br (std.lt a0.fX0 a0.fX1)
    (br (std.le a0.fX1 40)
    (br (std.le (-40) a0.fY0)
    (br (std.lt a0.fY0 a0.fY1)
    (some (std.le a0.fY1 40))
    (some false))
    (some false))
    (some false))
    (some false))
    (some false)
  ) : Option (Bool)).bind fun y1 =>
 letO y1 fun w7 =>
 some w7
set_option maxHeartbeats 4000000 in
theorem run_impl_IsValidRect (a0 : TRect) (r : Bool) (h : F_impl_IsValidRect a0 = some r) : Fun Try.prog 74 [.agg [.v (.int .i64 a0.fX0), .v (.int .i64 a0.fY0), .v (.int .i64 a0.fX1), .v (.int .i64 a0.fY1)]] [] (.c (.v (.bool r))) [] true := by
 refine Fun.of_wp (oneOf [1]) tok mixed Try.func74 (by kernel_rfl) rfl Try.ntmps74 rfl trivial (fun _ => ⟨trivial, trivial⟩) ?_
 unfold F_impl_IsValidRect at h
 generalize hLEN : @len = LEN at *
 generalize hGD : @gd = GD at *
 generalize hA : std = A at *
 generalize hP : Try.prog = P at *
 cbv
 replace h := of_bind h
 obtain ⟨y1, hy2, h⟩ := h
 obtain ⟨S5, hS6⟩ : ∃ S, S = (sparse 35 [(2, .c (.v (.bool y1)))] []) := ⟨_, rfl⟩
 refine ⟨S5, ?_, ?_⟩
 ·clear h
  have h := hy2
  clear hy2
  cbv
  refine fork (fun b12 => ?_) (fun b12 => ?_)
  ·replace h := of_br_t b12 h
   cbv
   refine fork (fun b11 => ?_) (fun b11 => ?_)
   ·replace h := of_br_t b11 h
    cbv
    refine fork (fun b10 => ?_) (fun b10 => ?_)
    ·replace h := of_br_t b10 h
     cbv
     refine fork (fun b9 => ?_) (fun b9 => ?_)
     ·replace h := of_br_t b9 h
      cbv
      refine fork (fun b8 => ?_) (fun b8 => ?_)
      ·replace h := of_br_t b8 h
       cbv
       injection h with h
       subst h
       subst hS6
       show St.le _ _
       exact le_sparse rfl ⟨lR _, trivial⟩ trivial rfl
      ·replace h := of_br_f b8 h
       cbv
       injection h with h
       subst h
       subst hS6
       show St.le _ _
       exact le_sparse rfl ⟨lR _, trivial⟩ trivial rfl
     ·replace h := of_br_f b9 h
      cbv
      injection h with h
      subst h
      subst hS6
      show St.le _ _
      exact le_sparse rfl ⟨lR _, trivial⟩ trivial rfl
    ·replace h := of_br_f b10 h
     cbv
     injection h with h
     subst h
     subst hS6
     show St.le _ _
     exact le_sparse rfl ⟨lR _, trivial⟩ trivial rfl
   ·replace h := of_br_f b11 h
    cbv
    injection h with h
    subst h
    subst hS6
    show St.le _ _
    exact le_sparse rfl ⟨lR _, trivial⟩ trivial rfl
  ·replace h := of_br_f b12 h
   cbv
   injection h with h
   subst h
   subst hS6
   show St.le _ _
   exact le_sparse rfl ⟨lR _, trivial⟩ trivial rfl
 ·clear hy2
  subst hS6
  replace h := of_let h
  obtain ⟨w7, hw7, h⟩ := h
  have hw7 : w7 = y1 := hw7
  subst hw7
  cbv
  injection h with h
  subst h
  refine ⟨(sparse 35 [(2, .c (.v (.bool w7)))] []), ?_, ?_⟩
  ·exact le_sparse rfl ⟨lR _, trivial⟩ trivial rfl
  ·exact ⟨lR _, trivial, rfl⟩

/-- impl.validShape -/
noncomputable def F_impl_validShape (a0 : TShape) : Option (Bool) :=
 ((
    (F_impl_within a0.fLayer 0 7).bind fun y8 =>
    br y8
    ((F_impl_IsValidRect a0.fBox).bind fun y10 =>
    some y10)
    (some false)
  ) : Option (Bool)).bind fun y1 =>
 letO y1 fun w7 =>
 some w7
set_option maxHeartbeats 4000000 in
theorem run_impl_validShape (a0 : TShape) (r : Bool) (h : F_impl_validShape a0 = some r) : Fun Try.prog 201 [.agg [.v (.int .i64 a0.fLayer), .v (.int .i64 a0.fBox.fX0), .v (.int .i64 a0.fBox.fY0), .v (.int .i64 a0.fBox.fX1), .v (.int .i64 a0.fBox.fY1)]] [] (.c (.v (.bool r))) [] true := by
 refine Fun.of_wp (oneOf [1]) tok mixed Try.func201 (by kernel_rfl) rfl Try.ntmps201 rfl trivial (fun _ => ⟨trivial, trivial⟩) ?_
 unfold F_impl_validShape at h
 have hf_impl_IsValidRect := @run_impl_IsValidRect
 have hf_impl_within := @run_impl_within
 generalize hLEN : @len = LEN at *
 generalize hGD : @gd = GD at *
 generalize hA : std = A at *
 generalize hP : Try.prog = P at *
 cbv
 replace h := of_bind h
 obtain ⟨y1, hy2, h⟩ := h
 obtain ⟨S5, hS6⟩ : ∃ S, S = (sparse 11 [(2, .c (.v (.bool y1)))] []) := ⟨_, rfl⟩
 refine ⟨S5, ?_, ?_⟩
 ·clear h
  have h := hy2
  clear hy2
  cbv
  replace h := of_bind h
  obtain ⟨y8, hy9, h⟩ := h
  refine ⟨{ args := [.c (.v (.int .i64 a0.fLayer)), .c (.v (.int .i64 0)), .c (.v (.int .i64 7))], o0 := [], r := .c (.v (.bool y8)), o1 := [], fl := true, σ := [], τ := [] }, hf_impl_within _ _ _ _ hy9, ⟨les_cons (lR _) (les_cons (lR _) (les_cons (lR _) (les_nil))), trivial, rfl, rfl, rfl, rfl, trivial, rfl⟩, ?_⟩
  cbv
  refine fork (fun b12 => ?_) (fun b12 => ?_)
  ·replace h := of_br_t b12 h
   cbv
   replace h := of_bind h
   obtain ⟨y10, hy11, h⟩ := h
   refine ⟨{ args := [.agg [.v (.int .i64 a0.fBox.fX0), .v (.int .i64 a0.fBox.fY0), .v (.int .i64 a0.fBox.fX1), .v (.int .i64 a0.fBox.fY1)]], o0 := [], r := .c (.v (.bool y10)), o1 := [], fl := true, σ := [], τ := [] }, hf_impl_IsValidRect _ _ hy11, ⟨les_cons (lR _) (les_nil), trivial, rfl, rfl, rfl, rfl, trivial, rfl⟩, ?_⟩
   cbv
   injection h with h
   subst h
   subst hS6
   show St.le _ _
   exact le_sparse rfl ⟨lR _, trivial⟩ trivial rfl
  ·replace h := of_br_f b12 h
   cbv
   injection h with h
   subst h
   subst hS6
   show St.le _ _
   exact le_sparse rfl ⟨lR _, trivial⟩ trivial rfl
 ·clear hy2
  subst hS6
  replace h := of_let h
  obtain ⟨w7, hw7, h⟩ := h
  have hw7 : w7 = y1 := hw7
  subst hw7
  cbv
  injection h with h
  subst h
  refine ⟨(sparse 11 [(2, .c (.v (.bool w7)))] []), ?_, ?_⟩
  ·exact le_sparse rfl ⟨lR _, trivial⟩ trivial rfl
  ·exact ⟨lR _, trivial, rfl⟩

/-- impl.byteReader).label -/
noncomputable def F_impl_byteReader_label_mPb (a0 : TbyteReader) : Option (TLabel × TbyteReader) :=
 (F_impl_byteReader_one_mPb a0).bind fun y1 =>
 (F_impl_byteReader_coordinate_mPb y1.2).bind fun y3 =>
 (F_impl_byteReader_coordinate_mPb y3.2).bind fun y5 =>
 (F_impl_byteReader_name_mPb y5.2).bind fun y7 =>
 some ((TLabel.mk y1.1 (TPoint.mk y3.1 y5.1) y7.1), y7.2)
set_option maxHeartbeats 4000000 in
theorem run_impl_byteReader_label_mPb (a0 : TbyteReader) (r : TLabel × TbyteReader) (h : F_impl_byteReader_label_mPb a0 = some r) : Fun Try.prog 219 [.c (.ptr 5 0)] [(5, .var [.v (.string a0.gs), .v (.bool a0.gbad)])] (.agg [.v (.int .i64 r.1.fLayer), .v (.int .i64 r.1.fAt.fX), .v (.int .i64 r.1.fAt.fY), .v (.string r.1.fName)]) [(5, .var [.v (.string r.2.gs), .v (.bool r.2.gbad)])] true := by
 refine Fun.of_wp (oneOf []) tok mixed Try.func219 (by kernel_rfl) rfl Try.ntmps219 rfl trivial (fun _ => ⟨(by simp [AV.flat, AV.flat1, AC.flat]), ⟨(by simp [AO.flat, AC.flat]), trivial⟩⟩) ?_
 unfold F_impl_byteReader_label_mPb at h
 have hf_impl_byteReader_coordinate_mPb := @run_impl_byteReader_coordinate_mPb
 have hf_impl_byteReader_name_mPb := @run_impl_byteReader_name_mPb
 have hf_impl_byteReader_one_mPb := @run_impl_byteReader_one_mPb
 generalize hLEN : @len = LEN at *
 generalize hGD : @gd = GD at *
 generalize hA : std = A at *
 generalize hP : Try.prog = P at *
 cbv
 replace h := of_bind h
 obtain ⟨y1, hy2, h⟩ := h
 refine ⟨{ args := [.c (.ptr 5 0)], o0 := [(5, .var [.v (.string a0.gs), .v (.bool a0.gbad)])], r := .c (.v (.int .i64 y1.1)), o1 := [(5, .var [.v (.string y1.2.gs), .v (.bool y1.2.gbad)])], fl := true, σ := [(5, 5)], τ := [(5, 5)] }, hf_impl_byteReader_one_mPb _ _ hy2, ⟨les_cons (lR _) (les_nil), ⟨rfl, trivial⟩, rfl, rfl, rfl, rfl, ⟨fun _ => rfl, trivial⟩, rfl⟩, ?_⟩
 cbv
 replace h := of_bind h
 obtain ⟨y3, hy4, h⟩ := h
 refine ⟨{ args := [.c (.ptr 5 0)], o0 := [(5, .var [.v (.string y1.2.gs), .v (.bool y1.2.gbad)])], r := .c (.v (.int .i64 y3.1)), o1 := [(5, .var [.v (.string y3.2.gs), .v (.bool y3.2.gbad)])], fl := true, σ := [(5, 5)], τ := [(5, 5)] }, hf_impl_byteReader_coordinate_mPb _ _ hy4, ⟨les_cons (lR _) (les_nil), ⟨rfl, trivial⟩, rfl, rfl, rfl, rfl, ⟨fun _ => rfl, trivial⟩, rfl⟩, ?_⟩
 cbv
 replace h := of_bind h
 obtain ⟨y5, hy6, h⟩ := h
 refine ⟨{ args := [.c (.ptr 5 0)], o0 := [(5, .var [.v (.string y3.2.gs), .v (.bool y3.2.gbad)])], r := .c (.v (.int .i64 y5.1)), o1 := [(5, .var [.v (.string y5.2.gs), .v (.bool y5.2.gbad)])], fl := true, σ := [(5, 5)], τ := [(5, 5)] }, hf_impl_byteReader_coordinate_mPb _ _ hy6, ⟨les_cons (lR _) (les_nil), ⟨rfl, trivial⟩, rfl, rfl, rfl, rfl, ⟨fun _ => rfl, trivial⟩, rfl⟩, ?_⟩
 cbv
 replace h := of_bind h
 obtain ⟨y7, hy8, h⟩ := h
 refine ⟨{ args := [.c (.ptr 5 0)], o0 := [(5, .var [.v (.string y5.2.gs), .v (.bool y5.2.gbad)])], r := .c (.v (.string y7.1)), o1 := [(5, .var [.v (.string y7.2.gs), .v (.bool y7.2.gbad)])], fl := true, σ := [(5, 5)], τ := [(5, 5)] }, hf_impl_byteReader_name_mPb _ _ hy8, ⟨les_cons (lR _) (les_nil), ⟨rfl, trivial⟩, rfl, rfl, rfl, rfl, ⟨fun _ => rfl, trivial⟩, rfl⟩, ?_⟩
 cbv
 injection h with h
 subst h
 refine ⟨(sparse 19 [(2, .c (.ptr 128 0))] [(128, .var [.v (.int .i64 y1.1), .v (.int .i64 y3.1), .v (.int .i64 y5.1), .v (.string y7.1)]), (5, .var [.v (.string y7.2.gs), .v (.bool y7.2.gbad)])]), ?_, ?_⟩
 ·exact le_sparse rfl ⟨lR _, trivial⟩ ⟨rfl, rfl, trivial⟩ rfl
 ·exact ⟨lR _, ⟨rfl, trivial⟩, rfl⟩
/-- impl.isUnitCell -/
noncomputable def F_impl_isUnitCell (a0 : TPoint) : Option (Bool) :=
 ((
    (F_impl_within a0.fX (-40) 39).bind fun y8 =>
    br y8
    ((F_impl_within a0.fY (-40) 39).bind fun y10 =>
    some y10)
    (some false)
  ) : Option (Bool)).bind fun y1 =>
 letO y1 fun w7 =>
 some w7
set_option maxHeartbeats 4000000 in
theorem run_impl_isUnitCell (a0 : TPoint) (r : Bool) (h : F_impl_isUnitCell a0 = some r) : Fun Try.prog 63 [.agg [.v (.int .i64 a0.fX), .v (.int .i64 a0.fY)]] [] (.c (.v (.bool r))) [] true := by
 refine Fun.of_wp (oneOf [1]) tok mixed Try.func63 (by kernel_rfl) rfl Try.ntmps63 rfl trivial (fun _ => ⟨trivial, trivial⟩) ?_
 unfold F_impl_isUnitCell at h
 have hf_impl_within := @run_impl_within
 generalize hLEN : @len = LEN at *
 generalize hGD : @gd = GD at *
 generalize hA : std = A at *
 generalize hP : Try.prog = P at *
 cbv
 replace h := of_bind h
 obtain ⟨y1, hy2, h⟩ := h
 obtain ⟨S5, hS6⟩ : ∃ S, S = (sparse 11 [(2, .c (.v (.bool y1)))] []) := ⟨_, rfl⟩
 refine ⟨S5, ?_, ?_⟩
 ·clear h
  have h := hy2
  clear hy2
  cbv
  replace h := of_bind h
  obtain ⟨y8, hy9, h⟩ := h
  refine ⟨{ args := [.c (.v (.int .i64 a0.fX)), .c (.v (.int .i64 (-40))), .c (.v (.int .i64 39))], o0 := [], r := .c (.v (.bool y8)), o1 := [], fl := true, σ := [], τ := [] }, hf_impl_within _ _ _ _ hy9, ⟨les_cons (lR _) (les_cons (lR _) (les_cons (lR _) (les_nil))), trivial, rfl, rfl, rfl, rfl, trivial, rfl⟩, ?_⟩
  cbv
  refine fork (fun b12 => ?_) (fun b12 => ?_)
  ·replace h := of_br_t b12 h
   cbv
   replace h := of_bind h
   obtain ⟨y10, hy11, h⟩ := h
   refine ⟨{ args := [.c (.v (.int .i64 a0.fY)), .c (.v (.int .i64 (-40))), .c (.v (.int .i64 39))], o0 := [], r := .c (.v (.bool y10)), o1 := [], fl := true, σ := [], τ := [] }, hf_impl_within _ _ _ _ hy11, ⟨les_cons (lR _) (les_cons (lR _) (les_cons (lR _) (les_nil))), trivial, rfl, rfl, rfl, rfl, trivial, rfl⟩, ?_⟩
   cbv
   injection h with h
   subst h
   subst hS6
   show St.le _ _
   exact le_sparse rfl ⟨lR _, trivial⟩ trivial rfl
  ·replace h := of_br_f b12 h
   cbv
   injection h with h
   subst h
   subst hS6
   show St.le _ _
   exact le_sparse rfl ⟨lR _, trivial⟩ trivial rfl
 ·clear hy2
  subst hS6
  replace h := of_let h
  obtain ⟨w7, hw7, h⟩ := h
  have hw7 : w7 = y1 := hw7
  subst hw7
  cbv
  injection h with h
  subst h
  refine ⟨(sparse 11 [(2, .c (.v (.bool w7)))] []), ?_, ?_⟩
  ·exact le_sparse rfl ⟨lR _, trivial⟩ trivial rfl
  ·exact ⟨lR _, trivial, rfl⟩

/-- impl.validLabel -/
noncomputable def F_impl_validLabel (a0 : TLabel) : Option (Bool) :=
 ((
    (F_impl_within a0.fLayer 0 7).bind fun y8 =>
    br y8
    ((F_impl_isUnitCell a0.fAt).bind fun y10 =>
    br y10
    ((F_impl_IsName a0.fName).bind fun y12 =>
    some y12)
    (some false))
    (some false)
  ) : Option (Bool)).bind fun y1 =>
 letO y1 fun w7 =>
 some w7
set_option maxHeartbeats 4000000 in
theorem run_impl_validLabel (a0 : TLabel) (r : Bool) (h : F_impl_validLabel a0 = some r) : Fun Try.prog 204 [.agg [.v (.int .i64 a0.fLayer), .v (.int .i64 a0.fAt.fX), .v (.int .i64 a0.fAt.fY), .v (.string a0.fName)]] [] (.c (.v (.bool r))) [] true := by
 refine Fun.of_wp (oneOf [1]) tok mixed Try.func204 (by kernel_rfl) rfl Try.ntmps204 rfl trivial (fun _ => ⟨trivial, trivial⟩) ?_
 unfold F_impl_validLabel at h
 have hf_impl_IsName := @run_impl_IsName
 have hf_impl_isUnitCell := @run_impl_isUnitCell
 have hf_impl_within := @run_impl_within
 generalize hLEN : @len = LEN at *
 generalize hGD : @gd = GD at *
 generalize hA : std = A at *
 generalize hP : Try.prog = P at *
 cbv
 replace h := of_bind h
 obtain ⟨y1, hy2, h⟩ := h
 obtain ⟨S5, hS6⟩ : ∃ S, S = (sparse 16 [(2, .c (.v (.bool y1)))] []) := ⟨_, rfl⟩
 refine ⟨S5, ?_, ?_⟩
 ·clear h
  have h := hy2
  clear hy2
  cbv
  replace h := of_bind h
  obtain ⟨y8, hy9, h⟩ := h
  refine ⟨{ args := [.c (.v (.int .i64 a0.fLayer)), .c (.v (.int .i64 0)), .c (.v (.int .i64 7))], o0 := [], r := .c (.v (.bool y8)), o1 := [], fl := true, σ := [], τ := [] }, hf_impl_within _ _ _ _ hy9, ⟨les_cons (lR _) (les_cons (lR _) (les_cons (lR _) (les_nil))), trivial, rfl, rfl, rfl, rfl, trivial, rfl⟩, ?_⟩
  cbv
  refine fork (fun b15 => ?_) (fun b15 => ?_)
  ·replace h := of_br_t b15 h
   cbv
   replace h := of_bind h
   obtain ⟨y10, hy11, h⟩ := h
   refine ⟨{ args := [.agg [.v (.int .i64 a0.fAt.fX), .v (.int .i64 a0.fAt.fY)]], o0 := [], r := .c (.v (.bool y10)), o1 := [], fl := true, σ := [], τ := [] }, hf_impl_isUnitCell _ _ hy11, ⟨les_cons (lR _) (les_nil), trivial, rfl, rfl, rfl, rfl, trivial, rfl⟩, ?_⟩
   cbv
   refine fork (fun b14 => ?_) (fun b14 => ?_)
   ·replace h := of_br_t b14 h
    cbv
    replace h := of_bind h
    obtain ⟨y12, hy13, h⟩ := h
    refine ⟨{ args := [.c (.v (.string a0.fName))], o0 := [], r := .c (.v (.bool y12)), o1 := [], fl := true, σ := [], τ := [] }, hf_impl_IsName _ _ hy13, ⟨les_cons (lR _) (les_nil), trivial, rfl, rfl, rfl, rfl, trivial, rfl⟩, ?_⟩
    cbv
    injection h with h
    subst h
    subst hS6
    show St.le _ _
    exact le_sparse rfl ⟨lR _, trivial⟩ trivial rfl
   ·replace h := of_br_f b14 h
    cbv
    injection h with h
    subst h
    subst hS6
    show St.le _ _
    exact le_sparse rfl ⟨lR _, trivial⟩ trivial rfl
  ·replace h := of_br_f b15 h
   cbv
   injection h with h
   subst h
   subst hS6
   show St.le _ _
   exact le_sparse rfl ⟨lR _, trivial⟩ trivial rfl
 ·clear hy2
  subst hS6
  replace h := of_let h
  obtain ⟨w7, hw7, h⟩ := h
  have hw7 : w7 = y1 := hw7
  subst hw7
  cbv
  injection h with h
  subst h
  refine ⟨(sparse 16 [(2, .c (.v (.bool w7)))] []), ?_, ?_⟩
  ·exact le_sparse rfl ⟨lR _, trivial⟩ trivial rfl
  ·exact ⟨lR _, trivial, rfl⟩

/-- impl.byteReader).instance -/
noncomputable def F_impl_byteReader_instance_mPb (a0 : TbyteReader) : Option (TInstance × TbyteReader) :=
 (F_impl_byteReader_one_mPb a0).bind fun y1 =>
 (F_impl_byteReader_coordinate_mPb y1.2).bind fun y3 =>
 (F_impl_byteReader_coordinate_mPb y3.2).bind fun y5 =>
 (F_impl_byteReader_one_mPb y5.2).bind fun y7 =>
 (F_impl_byteReader_one_mPb y7.2).bind fun y9 =>
 (F_impl_byteReader_coordinate_mPb y9.2).bind fun y11 =>
 (F_impl_byteReader_coordinate_mPb y11.2).bind fun y13 =>
 some ((TInstance.mk 0 (TTransform.mk y1.1 y3.1 y5.1) y7.1 y9.1 y11.1 y13.1), y13.2)
set_option maxHeartbeats 4000000 in
theorem run_impl_byteReader_instance_mPb (a0 : TbyteReader) (r : TInstance × TbyteReader) (h : F_impl_byteReader_instance_mPb a0 = some r) : Fun Try.prog 220 [.c (.ptr 5 0)] [(5, .var [.v (.string a0.gs), .v (.bool a0.gbad)])] (.agg [.v (.int .i64 r.1.fCell), .v (.int .i64 r.1.fPlace.fOrientation), .v (.int .i64 r.1.fPlace.fX), .v (.int .i64 r.1.fPlace.fY), .v (.int .i64 r.1.fColumns), .v (.int .i64 r.1.fRows), .v (.int .i64 r.1.fStepX), .v (.int .i64 r.1.fStepY)]) [(5, .var [.v (.string r.2.gs), .v (.bool r.2.gbad)])] true := by
 refine Fun.of_wp (oneOf []) tok mixed Try.func220 (by kernel_rfl) rfl Try.ntmps220 rfl trivial (fun _ => ⟨(by simp [AV.flat, AV.flat1, AC.flat]), ⟨(by simp [AO.flat, AC.flat]), trivial⟩⟩) ?_
 unfold F_impl_byteReader_instance_mPb at h
 have hf_impl_byteReader_coordinate_mPb := @run_impl_byteReader_coordinate_mPb
 have hf_impl_byteReader_one_mPb := @run_impl_byteReader_one_mPb
 generalize hLEN : @len = LEN at *
 generalize hGD : @gd = GD at *
 generalize hA : std = A at *
 generalize hP : Try.prog = P at *
 cbv
 replace h := of_bind h
 obtain ⟨y1, hy2, h⟩ := h
 refine ⟨{ args := [.c (.ptr 5 0)], o0 := [(5, .var [.v (.string a0.gs), .v (.bool a0.gbad)])], r := .c (.v (.int .i64 y1.1)), o1 := [(5, .var [.v (.string y1.2.gs), .v (.bool y1.2.gbad)])], fl := true, σ := [(5, 5)], τ := [(5, 5)] }, hf_impl_byteReader_one_mPb _ _ hy2, ⟨les_cons (lR _) (les_nil), ⟨rfl, trivial⟩, rfl, rfl, rfl, rfl, ⟨fun _ => rfl, trivial⟩, rfl⟩, ?_⟩
 cbv
 replace h := of_bind h
 obtain ⟨y3, hy4, h⟩ := h
 refine ⟨{ args := [.c (.ptr 5 0)], o0 := [(5, .var [.v (.string y1.2.gs), .v (.bool y1.2.gbad)])], r := .c (.v (.int .i64 y3.1)), o1 := [(5, .var [.v (.string y3.2.gs), .v (.bool y3.2.gbad)])], fl := true, σ := [(5, 5)], τ := [(5, 5)] }, hf_impl_byteReader_coordinate_mPb _ _ hy4, ⟨les_cons (lR _) (les_nil), ⟨rfl, trivial⟩, rfl, rfl, rfl, rfl, ⟨fun _ => rfl, trivial⟩, rfl⟩, ?_⟩
 cbv
 replace h := of_bind h
 obtain ⟨y5, hy6, h⟩ := h
 refine ⟨{ args := [.c (.ptr 5 0)], o0 := [(5, .var [.v (.string y3.2.gs), .v (.bool y3.2.gbad)])], r := .c (.v (.int .i64 y5.1)), o1 := [(5, .var [.v (.string y5.2.gs), .v (.bool y5.2.gbad)])], fl := true, σ := [(5, 5)], τ := [(5, 5)] }, hf_impl_byteReader_coordinate_mPb _ _ hy6, ⟨les_cons (lR _) (les_nil), ⟨rfl, trivial⟩, rfl, rfl, rfl, rfl, ⟨fun _ => rfl, trivial⟩, rfl⟩, ?_⟩
 cbv
 replace h := of_bind h
 obtain ⟨y7, hy8, h⟩ := h
 refine ⟨{ args := [.c (.ptr 5 0)], o0 := [(5, .var [.v (.string y5.2.gs), .v (.bool y5.2.gbad)])], r := .c (.v (.int .i64 y7.1)), o1 := [(5, .var [.v (.string y7.2.gs), .v (.bool y7.2.gbad)])], fl := true, σ := [(5, 5)], τ := [(5, 5)] }, hf_impl_byteReader_one_mPb _ _ hy8, ⟨les_cons (lR _) (les_nil), ⟨rfl, trivial⟩, rfl, rfl, rfl, rfl, ⟨fun _ => rfl, trivial⟩, rfl⟩, ?_⟩
 cbv
 replace h := of_bind h
 obtain ⟨y9, hy10, h⟩ := h
 refine ⟨{ args := [.c (.ptr 5 0)], o0 := [(5, .var [.v (.string y7.2.gs), .v (.bool y7.2.gbad)])], r := .c (.v (.int .i64 y9.1)), o1 := [(5, .var [.v (.string y9.2.gs), .v (.bool y9.2.gbad)])], fl := true, σ := [(5, 5)], τ := [(5, 5)] }, hf_impl_byteReader_one_mPb _ _ hy10, ⟨les_cons (lR _) (les_nil), ⟨rfl, trivial⟩, rfl, rfl, rfl, rfl, ⟨fun _ => rfl, trivial⟩, rfl⟩, ?_⟩
 cbv
 replace h := of_bind h
 obtain ⟨y11, hy12, h⟩ := h
 refine ⟨{ args := [.c (.ptr 5 0)], o0 := [(5, .var [.v (.string y9.2.gs), .v (.bool y9.2.gbad)])], r := .c (.v (.int .i64 y11.1)), o1 := [(5, .var [.v (.string y11.2.gs), .v (.bool y11.2.gbad)])], fl := true, σ := [(5, 5)], τ := [(5, 5)] }, hf_impl_byteReader_coordinate_mPb _ _ hy12, ⟨les_cons (lR _) (les_nil), ⟨rfl, trivial⟩, rfl, rfl, rfl, rfl, ⟨fun _ => rfl, trivial⟩, rfl⟩, ?_⟩
 cbv
 replace h := of_bind h
 obtain ⟨y13, hy14, h⟩ := h
 refine ⟨{ args := [.c (.ptr 5 0)], o0 := [(5, .var [.v (.string y11.2.gs), .v (.bool y11.2.gbad)])], r := .c (.v (.int .i64 y13.1)), o1 := [(5, .var [.v (.string y13.2.gs), .v (.bool y13.2.gbad)])], fl := true, σ := [(5, 5)], τ := [(5, 5)] }, hf_impl_byteReader_coordinate_mPb _ _ hy14, ⟨les_cons (lR _) (les_nil), ⟨rfl, trivial⟩, rfl, rfl, rfl, rfl, ⟨fun _ => rfl, trivial⟩, rfl⟩, ?_⟩
 cbv
 injection h with h
 subst h
 refine ⟨(sparse 30 [(2, .c (.ptr 128 0))] [(128, .var [.v (.int .i64 0), .v (.int .i64 y1.1), .v (.int .i64 y3.1), .v (.int .i64 y5.1), .v (.int .i64 y7.1), .v (.int .i64 y9.1), .v (.int .i64 y11.1), .v (.int .i64 y13.1)]), (5, .var [.v (.string y13.2.gs), .v (.bool y13.2.gbad)])]), ?_, ?_⟩
 ·exact le_sparse rfl ⟨lR _, trivial⟩ ⟨rfl, rfl, trivial⟩ rfl
 ·exact ⟨lR _, ⟨rfl, trivial⟩, rfl⟩

/-- impl.IsValidTransform -/
noncomputable def F_impl_IsValidTransform (a0 : TTransform) : Option (Bool) :=
 ((
    (F_impl_within a0.fOrientation 0 7).bind fun y8 =>
    br y8
    ((F_impl_within a0.fX (-80) 80).bind fun y10 =>
    br y10
    ((F_impl_within a0.fY (-80) 80).bind fun y12 =>
    some y12)
    (some false))
    (some false)
  ) : Option (Bool)).bind fun y1 =>
 letO y1 fun w7 =>
 some w7
set_option maxHeartbeats 4000000 in
theorem run_impl_IsValidTransform (a0 : TTransform) (r : Bool) (h : F_impl_IsValidTransform a0 = some r) : Fun Try.prog 73 [.agg [.v (.int .i64 a0.fOrientation), .v (.int .i64 a0.fX), .v (.int .i64 a0.fY)]] [] (.c (.v (.bool r))) [] true := by
 refine Fun.of_wp (oneOf [1]) tok mixed Try.func73 (by kernel_rfl) rfl Try.ntmps73 rfl trivial (fun _ => ⟨trivial, trivial⟩) ?_
 unfold F_impl_IsValidTransform at h
 have hf_impl_within := @run_impl_within
 generalize hLEN : @len = LEN at *
 generalize hGD : @gd = GD at *
 generalize hA : std = A at *
 generalize hP : Try.prog = P at *
 cbv
 replace h := of_bind h
 obtain ⟨y1, hy2, h⟩ := h
 obtain ⟨S5, hS6⟩ : ∃ S, S = (sparse 16 [(2, .c (.v (.bool y1)))] []) := ⟨_, rfl⟩
 refine ⟨S5, ?_, ?_⟩
 ·clear h
  have h := hy2
  clear hy2
  cbv
  replace h := of_bind h
  obtain ⟨y8, hy9, h⟩ := h
  refine ⟨{ args := [.c (.v (.int .i64 a0.fOrientation)), .c (.v (.int .i64 0)), .c (.v (.int .i64 7))], o0 := [], r := .c (.v (.bool y8)), o1 := [], fl := true, σ := [], τ := [] }, hf_impl_within _ _ _ _ hy9, ⟨les_cons (lR _) (les_cons (lR _) (les_cons (lR _) (les_nil))), trivial, rfl, rfl, rfl, rfl, trivial, rfl⟩, ?_⟩
  cbv
  refine fork (fun b15 => ?_) (fun b15 => ?_)
  ·replace h := of_br_t b15 h
   cbv
   replace h := of_bind h
   obtain ⟨y10, hy11, h⟩ := h
   refine ⟨{ args := [.c (.v (.int .i64 a0.fX)), .c (.v (.int .i64 (-80))), .c (.v (.int .i64 80))], o0 := [], r := .c (.v (.bool y10)), o1 := [], fl := true, σ := [], τ := [] }, hf_impl_within _ _ _ _ hy11, ⟨les_cons (lR _) (les_cons (lR _) (les_cons (lR _) (les_nil))), trivial, rfl, rfl, rfl, rfl, trivial, rfl⟩, ?_⟩
   cbv
   refine fork (fun b14 => ?_) (fun b14 => ?_)
   ·replace h := of_br_t b14 h
    cbv
    replace h := of_bind h
    obtain ⟨y12, hy13, h⟩ := h
    refine ⟨{ args := [.c (.v (.int .i64 a0.fY)), .c (.v (.int .i64 (-80))), .c (.v (.int .i64 80))], o0 := [], r := .c (.v (.bool y12)), o1 := [], fl := true, σ := [], τ := [] }, hf_impl_within _ _ _ _ hy13, ⟨les_cons (lR _) (les_cons (lR _) (les_cons (lR _) (les_nil))), trivial, rfl, rfl, rfl, rfl, trivial, rfl⟩, ?_⟩
    cbv
    injection h with h
    subst h
    subst hS6
    show St.le _ _
    exact le_sparse rfl ⟨lR _, trivial⟩ trivial rfl
   ·replace h := of_br_f b14 h
    cbv
    injection h with h
    subst h
    subst hS6
    show St.le _ _
    exact le_sparse rfl ⟨lR _, trivial⟩ trivial rfl
  ·replace h := of_br_f b15 h
   cbv
   injection h with h
   subst h
   subst hS6
   show St.le _ _
   exact le_sparse rfl ⟨lR _, trivial⟩ trivial rfl
 ·clear hy2
  subst hS6
  replace h := of_let h
  obtain ⟨w7, hw7, h⟩ := h
  have hw7 : w7 = y1 := hw7
  subst hw7
  cbv
  injection h with h
  subst h
  refine ⟨(sparse 16 [(2, .c (.v (.bool w7)))] []), ?_, ?_⟩
  ·exact le_sparse rfl ⟨lR _, trivial⟩ trivial rfl
  ·exact ⟨lR _, trivial, rfl⟩

/-- impl.validInstance -/
noncomputable def F_impl_validInstance (a0 : TInstance) (a1 : Int) : Option (Bool) :=
 ((
    (F_impl_within a0.fCell 0 (std.sub .i64 a1 1)).bind fun y8 =>
    br y8
    ((F_impl_IsValidTransform a0.fPlace).bind fun y10 =>
    br y10
    ((F_impl_within a0.fColumns 1 4).bind fun y12 =>
    br y12
    ((F_impl_within a0.fRows 1 4).bind fun y14 =>
    br y14
    ((F_impl_within a0.fStepX (-80) 80).bind fun y16 =>
    br y16
    ((F_impl_within a0.fStepY (-80) 80).bind fun y18 =>
    br y18
    (br (std.eq a0.fStepX 0)
    (br (std.eq a0.fStepY 0)
    (some true)
    (some (std.lt 1 a0.fRows)))
    (br (std.lt 1 a0.fColumns)
    (br (std.eq a0.fStepY 0)
    (some true)
    (some (std.lt 1 a0.fRows)))
    (some false)))
    (some false))
    (some false))
    (some false))
    (some false))
    (some false))
    (some false)
  ) : Option (Bool)).bind fun y1 =>
 letO y1 fun w7 =>
 some w7
set_option maxHeartbeats 4000000 in
theorem run_impl_validInstance (a0 : TInstance) (a1 : Int) (r : Bool) (h : F_impl_validInstance a0 a1 = some r) : Fun Try.prog 207 [.agg [.v (.int .i64 a0.fCell), .v (.int .i64 a0.fPlace.fOrientation), .v (.int .i64 a0.fPlace.fX), .v (.int .i64 a0.fPlace.fY), .v (.int .i64 a0.fColumns), .v (.int .i64 a0.fRows), .v (.int .i64 a0.fStepX), .v (.int .i64 a0.fStepY)], .c (.v (.int .i64 a1))] [] (.c (.v (.bool r))) [] true := by
 refine Fun.of_wp (oneOf [1]) tok mixed Try.func207 (by kernel_rfl) rfl Try.ntmps207 rfl trivial (fun _ => ⟨trivial, trivial⟩) ?_
 unfold F_impl_validInstance at h
 have hf_impl_IsValidTransform := @run_impl_IsValidTransform
 have hf_impl_within := @run_impl_within
 generalize hLEN : @len = LEN at *
 generalize hGD : @gd = GD at *
 generalize hA : std = A at *
 generalize hP : Try.prog = P at *
 cbv
 replace h := of_bind h
 obtain ⟨y1, hy2, h⟩ := h
 obtain ⟨S5, hS6⟩ : ∃ S, S = (sparse 55 [(4, .c (.v (.bool y1)))] []) := ⟨_, rfl⟩
 refine ⟨S5, ?_, ?_⟩
 ·clear h
  have h := hy2
  clear hy2
  cbv
  replace h := of_bind h
  obtain ⟨y8, hy9, h⟩ := h
  refine ⟨{ args := [.c (.v (.int .i64 a0.fCell)), .c (.v (.int .i64 0)), .c (.v (.int .i64 (A.sub .i64 a1 1)))], o0 := [], r := .c (.v (.bool y8)), o1 := [], fl := true, σ := [], τ := [] }, hf_impl_within _ _ _ _ hy9, ⟨les_cons (lR _) (les_cons (lR _) (les_cons (lR _) (les_nil))), trivial, rfl, rfl, rfl, rfl, trivial, rfl⟩, ?_⟩
  cbv
  refine fork (fun b29 => ?_) (fun b29 => ?_)
  ·replace h := of_br_t b29 h
   cbv
   replace h := of_bind h
   obtain ⟨y10, hy11, h⟩ := h
   refine ⟨{ args := [.agg [.v (.int .i64 a0.fPlace.fOrientation), .v (.int .i64 a0.fPlace.fX), .v (.int .i64 a0.fPlace.fY)]], o0 := [], r := .c (.v (.bool y10)), o1 := [], fl := true, σ := [], τ := [] }, hf_impl_IsValidTransform _ _ hy11, ⟨les_cons (lR _) (les_nil), trivial, rfl, rfl, rfl, rfl, trivial, rfl⟩, ?_⟩
   cbv
   refine fork (fun b28 => ?_) (fun b28 => ?_)
   ·replace h := of_br_t b28 h
    cbv
    replace h := of_bind h
    obtain ⟨y12, hy13, h⟩ := h
    refine ⟨{ args := [.c (.v (.int .i64 a0.fColumns)), .c (.v (.int .i64 1)), .c (.v (.int .i64 4))], o0 := [], r := .c (.v (.bool y12)), o1 := [], fl := true, σ := [], τ := [] }, hf_impl_within _ _ _ _ hy13, ⟨les_cons (lR _) (les_cons (lR _) (les_cons (lR _) (les_nil))), trivial, rfl, rfl, rfl, rfl, trivial, rfl⟩, ?_⟩
    cbv
    refine fork (fun b27 => ?_) (fun b27 => ?_)
    ·replace h := of_br_t b27 h
     cbv
     replace h := of_bind h
     obtain ⟨y14, hy15, h⟩ := h
     refine ⟨{ args := [.c (.v (.int .i64 a0.fRows)), .c (.v (.int .i64 1)), .c (.v (.int .i64 4))], o0 := [], r := .c (.v (.bool y14)), o1 := [], fl := true, σ := [], τ := [] }, hf_impl_within _ _ _ _ hy15, ⟨les_cons (lR _) (les_cons (lR _) (les_cons (lR _) (les_nil))), trivial, rfl, rfl, rfl, rfl, trivial, rfl⟩, ?_⟩
     cbv
     refine fork (fun b26 => ?_) (fun b26 => ?_)
     ·replace h := of_br_t b26 h
      cbv
      replace h := of_bind h
      obtain ⟨y16, hy17, h⟩ := h
      refine ⟨{ args := [.c (.v (.int .i64 a0.fStepX)), .c (.v (.int .i64 (-80))), .c (.v (.int .i64 80))], o0 := [], r := .c (.v (.bool y16)), o1 := [], fl := true, σ := [], τ := [] }, hf_impl_within _ _ _ _ hy17, ⟨les_cons (lR _) (les_cons (lR _) (les_cons (lR _) (les_nil))), trivial, rfl, rfl, rfl, rfl, trivial, rfl⟩, ?_⟩
      cbv
      refine fork (fun b25 => ?_) (fun b25 => ?_)
      ·replace h := of_br_t b25 h
       cbv
       replace h := of_bind h
       obtain ⟨y18, hy19, h⟩ := h
       refine ⟨{ args := [.c (.v (.int .i64 a0.fStepY)), .c (.v (.int .i64 (-80))), .c (.v (.int .i64 80))], o0 := [], r := .c (.v (.bool y18)), o1 := [], fl := true, σ := [], τ := [] }, hf_impl_within _ _ _ _ hy19, ⟨les_cons (lR _) (les_cons (lR _) (les_cons (lR _) (les_nil))), trivial, rfl, rfl, rfl, rfl, trivial, rfl⟩, ?_⟩
       cbv
       refine fork (fun b24 => ?_) (fun b24 => ?_)
       ·replace h := of_br_t b24 h
        cbv
        refine fork (fun b23 => ?_) (fun b23 => ?_)
        ·replace h := of_br_t b23 h
         cbv
         refine fork (fun b22 => ?_) (fun b22 => ?_)
         ·replace h := of_br_t b22 h
          cbv
          injection h with h
          subst h
          subst hS6
          show St.le _ _
          exact le_sparse rfl ⟨lR _, trivial⟩ trivial rfl
         ·replace h := of_br_f b22 h
          cbv
          injection h with h
          subst h
          subst hS6
          show St.le _ _
          exact le_sparse rfl ⟨lR _, trivial⟩ trivial rfl
        ·replace h := of_br_f b23 h
         cbv
         refine fork (fun b21 => ?_) (fun b21 => ?_)
         ·replace h := of_br_t b21 h
          cbv
          refine fork (fun b20 => ?_) (fun b20 => ?_)
          ·replace h := of_br_t b20 h
           cbv
           injection h with h
           subst h
           subst hS6
           show St.le _ _
           exact le_sparse rfl ⟨lR _, trivial⟩ trivial rfl
          ·replace h := of_br_f b20 h
           cbv
           injection h with h
           subst h
           subst hS6
           show St.le _ _
           exact le_sparse rfl ⟨lR _, trivial⟩ trivial rfl
         ·replace h := of_br_f b21 h
          cbv
          injection h with h
          subst h
          subst hS6
          show St.le _ _
          exact le_sparse rfl ⟨lR _, trivial⟩ trivial rfl
       ·replace h := of_br_f b24 h
        cbv
        injection h with h
        subst h
        subst hS6
        show St.le _ _
        exact le_sparse rfl ⟨lR _, trivial⟩ trivial rfl
      ·replace h := of_br_f b25 h
       cbv
       injection h with h
       subst h
       subst hS6
       show St.le _ _
       exact le_sparse rfl ⟨lR _, trivial⟩ trivial rfl
     ·replace h := of_br_f b26 h
      cbv
      injection h with h
      subst h
      subst hS6
      show St.le _ _
      exact le_sparse rfl ⟨lR _, trivial⟩ trivial rfl
    ·replace h := of_br_f b27 h
     cbv
     injection h with h
     subst h
     subst hS6
     show St.le _ _
     exact le_sparse rfl ⟨lR _, trivial⟩ trivial rfl
   ·replace h := of_br_f b28 h
    cbv
    injection h with h
    subst h
    subst hS6
    show St.le _ _
    exact le_sparse rfl ⟨lR _, trivial⟩ trivial rfl
  ·replace h := of_br_f b29 h
   cbv
   injection h with h
   subst h
   subst hS6
   show St.le _ _
   exact le_sparse rfl ⟨lR _, trivial⟩ trivial rfl
 ·clear hy2
  subst hS6
  replace h := of_let h
  obtain ⟨w7, hw7, h⟩ := h
  have hw7 : w7 = y1 := hw7
  subst hw7
  cbv
  injection h with h
  subst h
  refine ⟨(sparse 55 [(4, .c (.v (.bool w7)))] []), ?_, ?_⟩
  ·exact le_sparse rfl ⟨lR _, trivial⟩ trivial rfl
  ·exact ⟨lR _, trivial, rfl⟩

noncomputable def L_slices_Equal_Lint64_int64_x2 (a0 : List Int) (a1 : List Int) : (Int) → Option ((Int) ⊕ ((Unit) ⊕ (Unit))) := fun x2 =>
 letO x2 fun v1 =>
 br (std.lt v1 (std.ofN (len a0)))
 (req (std.inR v1 (len a0)) <|
 req (std.inR v1 (len a1)) <|
 br (std.not (std.eq (gd a0 (std.toN v1)) (gd a1 (std.toN v1))))
 (some (.inr (.inl ())))
 (some (.inl (std.add .i64 v1 1))))
 (some (.inr (.inr ())))
/-- slices.Equal[[]int64,int64] -/
noncomputable def F_slices_Equal_Lint64_int64 (a0 : List Int) (a1 : List Int) : Option (Bool) :=
 br (std.not (std.eq (std.ofN (len a0)) (std.ofN (len a1))))
 (some false)
 ((whileP (σ := Int) (ρ := (Unit) ⊕ (Unit)) (L_slices_Equal_Lint64_int64_x2 a0 a1) 0).bind fun y3 =>
 (match y3 with
  | .inl y3k0 => (
    some false)
  | .inr y3m0 =>
    some true))
set_option maxHeartbeats 4000000 in
theorem run_slices_Equal_Lint64_int64 (a0 : List Int) (a1 : List Int) (r : Bool) (h : F_slices_Equal_Lint64_int64 a0 a1 = some r) : Fun Try.prog 178 [.c (.bs (len a0) 1 (row gd (encI .i64) a0)), .c (.bs (len a1) 1 (row gd (encI .i64) a1))] [] (.c (.v (.bool r))) [] true := by
 refine Fun.of_wp (oneOf []) tok mixed Try.func178 (by kernel_rfl) rfl Try.ntmps178 rfl trivial (fun _ => ⟨trivial, trivial⟩) ?_
 unfold F_slices_Equal_Lint64_int64 at h
 unfold L_slices_Equal_Lint64_int64_x2 at h
 generalize hLEN : @len = LEN at *
 generalize hGD : @gd = GD at *
 generalize hA : std = A at *
 generalize hP : Try.prog = P at *
 cbv
 refine fork (fun b18 => ?_) (fun b18 => ?_)
 ·replace h := of_br_t b18 h
  cbv
  injection h with h
  subst h
  refine ⟨(sparse 26 [(4, .c (.v (.bool false)))] []), ?_, ?_⟩
  ·exact le_sparse rfl ⟨lR _, trivial⟩ trivial rfl
  ·exact ⟨lR _, trivial, rfl⟩
 ·replace h := of_br_f b18 h
  cbv
  replace h := of_bind h
  obtain ⟨y3, hr4, hN5⟩ := h
  refine loop_cut hr4 (fun x => (sparse 26 [(0, .c (.bs (LEN a0) 1 (row GD (encI .i64) a0))), (1, .c (.bs (LEN a1) 1 (row GD (encI .i64) a1))), (12, .c (.v (.int .i64 (A.ofN (LEN a0))))), (13, .c (.v (.int .i64 x)))] [])) ?_ (fun y e s => (match y with | .inl w => e = .ret ∧ s.le (sparse 26 [(4, .c (.v (.bool false)))] []) | .inr w0 => (fun (w : Unit) => e = .exit 0 ∧ s.le (sparse 26 [] [])) w0)) ?_ ?_
  ·clear hr4 hN5
   show St.le _ _
   exact le_sparse rfl ⟨lR _, lR _, lR _, lR _, trivial⟩ trivial rfl
  ·clear hr4 hN5
   intro x z9 h K7 hK8 hY6
   replace h := of_let h
   obtain ⟨v1, hv1, h⟩ := h
   have hv1 : v1 = x := hv1
   subst hv1
   cbv
   refine fork (fun b17 => ?_) (fun b17 => ?_)
   ·replace h := of_br_t b17 h
    cbv
    replace h := of_req h
    obtain ⟨c14, h⟩ := h
    refine ⟨⟨c14, trivial⟩, ?_⟩
    replace h := of_req h
    obtain ⟨c15, h⟩ := h
    refine ⟨⟨c15, trivial⟩, ?_⟩
    refine fork (fun b16 => ?_) (fun b16 => ?_)
    ·replace h := of_br_t b16 h
     cbv
     injection h with h
     refine hY6 _ h.symm _ _ (And.intro rfl ?_) (by intro hh; cases hh)
     exact le_sparse rfl ⟨lR _, trivial⟩ trivial rfl
    ·replace h := of_br_f b16 h
     cbv
     injection h with h
     refine hK8 _ h.symm _ ?_
     exact le_sparse rfl ⟨lR _, lR _, lR _, lR _, trivial⟩ trivial rfl
   ·replace h := of_br_f b17 h
    cbv
    injection h with h
    refine hY6 _ h.symm _ _ (And.intro rfl ?_) (by intro hh; cases hh)
    exact le_sparse rfl trivial trivial rfl
  ·clear hr4
   have h := hN5
   clear hN5
   intro e12 s13 q11 hne
   rcases y3 with y3k0 | y3m0
   ·replace h := h
    obtain ⟨rfl, q11⟩ := q11
    cbv
    injection h with h
    subst h
    refine ⟨(sparse 26 [(4, .c (.v (.bool false)))] []), ?_, ?_⟩
    ·refine St.le_trans q11 ?_
     exact le_sparse rfl ⟨lR _, trivial⟩ trivial rfl
    ·exact ⟨lR _, trivial, rfl⟩
   ·obtain ⟨rfl, q11⟩ := q11
    cbv
    refine ⟨_, q11, ?_⟩
    cbv
    injection h with h
    subst h
    refine ⟨(sparse 26 [(4, .c (.v (.bool true)))] []), ?_, ?_⟩
    ·exact le_sparse rfl ⟨lR _, trivial⟩ trivial rfl
    ·exact ⟨lR _, trivial, rfl⟩
end Go.Proofs.Ytlenieingkfjaaa.AM
