/-
  What the functions that the law reaches compute, and that they do. No condition.
-/
import Derived.Test.YtpobpihakgegbaaAnSX
import Derived.Test.YtpobpihakgegbaaAnSR
import Derived.Test.YtpobpihakgegbaaAnP
namespace Go.Proofs.Ytpobpihakgegbaa.AM
open Go Go.Proofs Go.RowKit
set_option linter.unusedVariables false
set_option linter.unusedSimpArgs false
set_option maxRecDepth 100000

/- moving twice; what is inside stays inside -/
def BdP (p : TPoint) (B : Int) : Prop := -B ≤ p.fX ∧ p.fX ≤ B ∧ -B ≤ p.fY ∧ p.fY ≤ B
def BdT (t : TTransform) (B : Int) : Prop := -B ≤ t.fX ∧ t.fX ≤ B ∧ -B ≤ t.fY ∧ t.fY ≤ B
/-- a place in the plain -/
def mvZ (o : Int) (x y tx ty : Int) : Int × Int :=
  if o = 0 then (x + tx, y + ty) else if o = 1 then (-y + tx, x + ty) else if o = 2 then (-x + tx, -y + ty) else if o = 3 then (y + tx, -x + ty)
  else if o = 4 then (x + tx, -y + ty) else if o = 5 then (y + tx, x + ty) else if o = 6 then (-x + tx, y + ty) else (-y + tx, -x + ty)
theorem rot0 (p : Int × Int) : rot 0 p = p := rfl
theorem rot1 (x y : Int) : rot 1 (x, y) = (std.sub .i64 0 y, x) := rfl
theorem rot2 (x y : Int) : rot 2 (x, y) = (std.sub .i64 0 x, std.sub .i64 0 y) := rfl
theorem rot3 (x y : Int) : rot 3 (x, y) = (std.sub .i64 0 (std.sub .i64 0 y), std.sub .i64 0 x) := rfl
theorem mvP_Z {t : TTransform} {p : TPoint} (ho : 0 ≤ t.fOrientation ∧ t.fOrientation ≤ 7) (hp : BdP p 1000000) (ht : BdT t 1000000) : ((mvP t p).fX, (mvP t p).fY) = mvZ t.fOrientation p.fX p.fY t.fX t.fY := by
  obtain ⟨p1, p2, p3, p4⟩ := hp
  obtain ⟨t1, t2, t3, t4⟩ := ht
  unfold mvP mvZ
  rcases ori8 ho with h | h | h | h | h | h | h | h <;> rw [h] <;>
    simp only [show std.rem 0 4 = 0 from rfl, show std.rem 1 4 = 1 from rfl, show std.rem 2 4 = 2 from rfl, show std.rem 3 4 = 3 from rfl, show std.rem 4 4 = 0 from rfl, show std.rem 5 4 = 1 from rfl, show std.rem 6 4 = 2 from rfl, show std.rem 7 4 = 3 from rfl, Int.toNat_zero, show Int.toNat 1 = 1 from rfl, show Int.toNat 2 = 2 from rfl, show Int.toNat 3 = 3 from rfl, rot0, rot1, rot2, rot3] <;>
    simp <;> (try simp (disch := omega) only [sub_id, add_id]) <;> (try constructor) <;> first | omega | trivial
theorem mvZ_cmp {a b : Int} (ha : 0 ≤ a ∧ a ≤ 7) (hb : 0 ≤ b ∧ b ≤ 7) (x y tx ty ux uy : Int) :
    mvZ (cmpO a b) x y (mvZ b tx ty ux uy).1 (mvZ b tx ty ux uy).2 = mvZ b (mvZ a x y tx ty).1 (mvZ a x y tx ty).2 ux uy := by
  rcases ori8 ha with rfl | rfl | rfl | rfl | rfl | rfl | rfl | rfl <;> rcases ori8 hb with rfl | rfl | rfl | rfl | rfl | rfl | rfl | rfl
  · rw [show cmpO 0 0 = 0 by decide]; refine Prod.ext ?_ ?_ <;> simp [mvZ] <;> omega
  · rw [show cmpO 0 1 = 1 by decide]; refine Prod.ext ?_ ?_ <;> simp [mvZ] <;> omega
  · rw [show cmpO 0 2 = 2 by decide]; refine Prod.ext ?_ ?_ <;> simp [mvZ] <;> omega
  · rw [show cmpO 0 3 = 3 by decide]; refine Prod.ext ?_ ?_ <;> simp [mvZ] <;> omega
  · rw [show cmpO 0 4 = 4 by decide]; refine Prod.ext ?_ ?_ <;> simp [mvZ] <;> omega
  · rw [show cmpO 0 5 = 5 by decide]; refine Prod.ext ?_ ?_ <;> simp [mvZ] <;> omega
  · rw [show cmpO 0 6 = 6 by decide]; refine Prod.ext ?_ ?_ <;> simp [mvZ] <;> omega
  · rw [show cmpO 0 7 = 7 by decide]; refine Prod.ext ?_ ?_ <;> simp [mvZ] <;> omega
  · rw [show cmpO 1 0 = 1 by decide]; refine Prod.ext ?_ ?_ <;> simp [mvZ] <;> omega
  · rw [show cmpO 1 1 = 2 by decide]; refine Prod.ext ?_ ?_ <;> simp [mvZ] <;> omega
  · rw [show cmpO 1 2 = 3 by decide]; refine Prod.ext ?_ ?_ <;> simp [mvZ] <;> omega
  · rw [show cmpO 1 3 = 0 by decide]; refine Prod.ext ?_ ?_ <;> simp [mvZ] <;> omega
  · rw [show cmpO 1 4 = 7 by decide]; refine Prod.ext ?_ ?_ <;> simp [mvZ] <;> omega
  · rw [show cmpO 1 5 = 4 by decide]; refine Prod.ext ?_ ?_ <;> simp [mvZ] <;> omega
  · rw [show cmpO 1 6 = 5 by decide]; refine Prod.ext ?_ ?_ <;> simp [mvZ] <;> omega
  · rw [show cmpO 1 7 = 6 by decide]; refine Prod.ext ?_ ?_ <;> simp [mvZ] <;> omega
  · rw [show cmpO 2 0 = 2 by decide]; refine Prod.ext ?_ ?_ <;> simp [mvZ] <;> omega
  · rw [show cmpO 2 1 = 3 by decide]; refine Prod.ext ?_ ?_ <;> simp [mvZ] <;> omega
  · rw [show cmpO 2 2 = 0 by decide]; refine Prod.ext ?_ ?_ <;> simp [mvZ] <;> omega
  · rw [show cmpO 2 3 = 1 by decide]; refine Prod.ext ?_ ?_ <;> simp [mvZ] <;> omega
  · rw [show cmpO 2 4 = 6 by decide]; refine Prod.ext ?_ ?_ <;> simp [mvZ] <;> omega
  · rw [show cmpO 2 5 = 7 by decide]; refine Prod.ext ?_ ?_ <;> simp [mvZ] <;> omega
  · rw [show cmpO 2 6 = 4 by decide]; refine Prod.ext ?_ ?_ <;> simp [mvZ] <;> omega
  · rw [show cmpO 2 7 = 5 by decide]; refine Prod.ext ?_ ?_ <;> simp [mvZ] <;> omega
  · rw [show cmpO 3 0 = 3 by decide]; refine Prod.ext ?_ ?_ <;> simp [mvZ] <;> omega
  · rw [show cmpO 3 1 = 0 by decide]; refine Prod.ext ?_ ?_ <;> simp [mvZ] <;> omega
  · rw [show cmpO 3 2 = 1 by decide]; refine Prod.ext ?_ ?_ <;> simp [mvZ] <;> omega
  · rw [show cmpO 3 3 = 2 by decide]; refine Prod.ext ?_ ?_ <;> simp [mvZ] <;> omega
  · rw [show cmpO 3 4 = 5 by decide]; refine Prod.ext ?_ ?_ <;> simp [mvZ] <;> omega
  · rw [show cmpO 3 5 = 6 by decide]; refine Prod.ext ?_ ?_ <;> simp [mvZ] <;> omega
  · rw [show cmpO 3 6 = 7 by decide]; refine Prod.ext ?_ ?_ <;> simp [mvZ] <;> omega
  · rw [show cmpO 3 7 = 4 by decide]; refine Prod.ext ?_ ?_ <;> simp [mvZ] <;> omega
  · rw [show cmpO 4 0 = 4 by decide]; refine Prod.ext ?_ ?_ <;> simp [mvZ] <;> omega
  · rw [show cmpO 4 1 = 5 by decide]; refine Prod.ext ?_ ?_ <;> simp [mvZ] <;> omega
  · rw [show cmpO 4 2 = 6 by decide]; refine Prod.ext ?_ ?_ <;> simp [mvZ] <;> omega
  · rw [show cmpO 4 3 = 7 by decide]; refine Prod.ext ?_ ?_ <;> simp [mvZ] <;> omega
  · rw [show cmpO 4 4 = 0 by decide]; refine Prod.ext ?_ ?_ <;> simp [mvZ] <;> omega
  · rw [show cmpO 4 5 = 1 by decide]; refine Prod.ext ?_ ?_ <;> simp [mvZ] <;> omega
  · rw [show cmpO 4 6 = 2 by decide]; refine Prod.ext ?_ ?_ <;> simp [mvZ] <;> omega
  · rw [show cmpO 4 7 = 3 by decide]; refine Prod.ext ?_ ?_ <;> simp [mvZ] <;> omega
  · rw [show cmpO 5 0 = 5 by decide]; refine Prod.ext ?_ ?_ <;> simp [mvZ] <;> omega
  · rw [show cmpO 5 1 = 6 by decide]; refine Prod.ext ?_ ?_ <;> simp [mvZ] <;> omega
  · rw [show cmpO 5 2 = 7 by decide]; refine Prod.ext ?_ ?_ <;> simp [mvZ] <;> omega
  · rw [show cmpO 5 3 = 4 by decide]; refine Prod.ext ?_ ?_ <;> simp [mvZ] <;> omega
  · rw [show cmpO 5 4 = 3 by decide]; refine Prod.ext ?_ ?_ <;> simp [mvZ] <;> omega
  · rw [show cmpO 5 5 = 0 by decide]; refine Prod.ext ?_ ?_ <;> simp [mvZ] <;> omega
  · rw [show cmpO 5 6 = 1 by decide]; refine Prod.ext ?_ ?_ <;> simp [mvZ] <;> omega
  · rw [show cmpO 5 7 = 2 by decide]; refine Prod.ext ?_ ?_ <;> simp [mvZ] <;> omega
  · rw [show cmpO 6 0 = 6 by decide]; refine Prod.ext ?_ ?_ <;> simp [mvZ] <;> omega
  · rw [show cmpO 6 1 = 7 by decide]; refine Prod.ext ?_ ?_ <;> simp [mvZ] <;> omega
  · rw [show cmpO 6 2 = 4 by decide]; refine Prod.ext ?_ ?_ <;> simp [mvZ] <;> omega
  · rw [show cmpO 6 3 = 5 by decide]; refine Prod.ext ?_ ?_ <;> simp [mvZ] <;> omega
  · rw [show cmpO 6 4 = 2 by decide]; refine Prod.ext ?_ ?_ <;> simp [mvZ] <;> omega
  · rw [show cmpO 6 5 = 3 by decide]; refine Prod.ext ?_ ?_ <;> simp [mvZ] <;> omega
  · rw [show cmpO 6 6 = 0 by decide]; refine Prod.ext ?_ ?_ <;> simp [mvZ] <;> omega
  · rw [show cmpO 6 7 = 1 by decide]; refine Prod.ext ?_ ?_ <;> simp [mvZ] <;> omega
  · rw [show cmpO 7 0 = 7 by decide]; refine Prod.ext ?_ ?_ <;> simp [mvZ] <;> omega
  · rw [show cmpO 7 1 = 4 by decide]; refine Prod.ext ?_ ?_ <;> simp [mvZ] <;> omega
  · rw [show cmpO 7 2 = 5 by decide]; refine Prod.ext ?_ ?_ <;> simp [mvZ] <;> omega
  · rw [show cmpO 7 3 = 6 by decide]; refine Prod.ext ?_ ?_ <;> simp [mvZ] <;> omega
  · rw [show cmpO 7 4 = 1 by decide]; refine Prod.ext ?_ ?_ <;> simp [mvZ] <;> omega
  · rw [show cmpO 7 5 = 2 by decide]; refine Prod.ext ?_ ?_ <;> simp [mvZ] <;> omega
  · rw [show cmpO 7 6 = 3 by decide]; refine Prod.ext ?_ ?_ <;> simp [mvZ] <;> omega
  · rw [show cmpO 7 7 = 0 by decide]; refine Prod.ext ?_ ?_ <;> simp [mvZ] <;> omega
theorem mvP_cmp {u t : TTransform} {p : TPoint} (hu : 0 ≤ u.fOrientation ∧ u.fOrientation ≤ 7) (ht : 0 ≤ t.fOrientation ∧ t.fOrientation ≤ 7) (bu : BdT u 100000) (bt : BdT t 100000) (bp : BdP p 100000) :
    mvP (cmpT u t) p = mvP u (mvP t p) := by
  have b1 := mvP_bd (t := t) (p := p) (B := 100000) (S := 100000) bp bt (by omega) (by omega) (by omega)
  have b2 := mvP_bd (t := u) (p := ⟨t.fX, t.fY⟩) (B := 100000) (S := 100000) bt bu (by omega) (by omega) (by omega)
  have e1 := mvP_Z (t := t) (p := p) ht (by unfold BdP at *; omega) (by unfold BdT at *; omega)
  have e2 := mvP_Z (t := u) (p := mvP t p) hu (by unfold BdP; omega) (by unfold BdT at *; omega)
  have e3 := mvP_Z (t := u) (p := ⟨t.fX, t.fY⟩) hu (by unfold BdP; unfold BdT at bt; simp only; omega) (by unfold BdT at *; omega)
  have e4 := mvP_Z (t := cmpT u t) (p := p) (cmpO_ori ht hu) (by unfold BdP at *; omega) (by unfold BdT cmpT; simp only; omega)
  have hc := mvZ_cmp ht hu p.fX p.fY t.fX t.fY u.fX u.fY
  rw [← e3, ← e1] at hc
  rw [← e2] at hc
  have e5 : ((mvP (cmpT u t) p).fX, (mvP (cmpT u t) p).fY) = ((mvP u (mvP t p)).fX, (mvP u (mvP t p)).fY) := e4.trans hc
  injection e5 with e6 e7
  cases h1 : mvP (cmpT u t) p
  cases h2 : mvP u (mvP t p)
  rw [h1, h2] at e6 e7
  simp only at e6 e7
  rw [e6, e7]
/-- inside -/
def sub (r R : TRect) : Prop := R.fX0 ≤ r.fX0 ∧ r.fX1 ≤ R.fX1 ∧ R.fY0 ≤ r.fY0 ∧ r.fY1 ≤ R.fY1
def inC (p : TPoint) (C : TRect) : Prop := C.fX0 ≤ p.fX ∧ p.fX ≤ C.fX1 ∧ C.fY0 ≤ p.fY ∧ p.fY ≤ C.fY1
theorem inC_mv {u : TTransform} {p : TPoint} {C : TRect} (hu : 0 ≤ u.fOrientation ∧ u.fOrientation ≤ 7) (bu : BdT u 100000) (bC : NB C 100000) (h : inC p C) : inC (mvP u p) (mvR u C) := by
  obtain ⟨c1, c2, c3, c4, c5, c6⟩ := bC
  obtain ⟨h1, h2, h3, h4⟩ := h
  have e1 := mvP_Z (t := u) (p := p) hu (by unfold BdP; omega) (by unfold BdT at *; omega)
  have e2 := mvP_Z (t := u) (p := ⟨C.fX0, C.fY0⟩) hu (by unfold BdP; simp only; omega) (by unfold BdT at *; omega)
  have e3 := mvP_Z (t := u) (p := ⟨C.fX1, C.fY1⟩) hu (by unfold BdP; simp only; omega) (by unfold BdT at *; omega)
  unfold inC mvR
  simp only [s_imin, s_imax]
  rcases ori8 hu with g | g | g | g | g | g | g | g <;> rw [g] at e1 e2 e3 <;> simp [mvZ] at e1 e2 e3 <;> omega
theorem sub_of_in {t : TTransform} {r C : TRect} (h1 : inC (mvP t ⟨r.fX0, r.fY0⟩) C) (h2 : inC (mvP t ⟨r.fX1, r.fY1⟩) C) : sub (mvR t r) C := by
  obtain ⟨a1, a2, a3, a4⟩ := h1
  obtain ⟨b1, b2, b3, b4⟩ := h2
  unfold sub mvR
  simp only [s_imin, s_imax]
  omega
theorem in_of_sub {t : TTransform} {r C : TRect} (h : sub (mvR t r) C) : inC (mvP t ⟨r.fX0, r.fY0⟩) C ∧ inC (mvP t ⟨r.fX1, r.fY1⟩) C := by
  unfold sub mvR at h
  simp only [s_imin, s_imax] at h
  unfold inC
  omega
theorem sub_mv {u : TTransform} {r R : TRect} (hu : 0 ≤ u.fOrientation ∧ u.fOrientation ≤ 7) (bu : BdT u 100000) (bR : NB R 100000) (br_ : NB r 100000) (h : sub r R) : sub (mvR u r) (mvR u R) := by
  obtain ⟨h1, h2, h3, h4⟩ := h
  have := br_.x; have := br_.y
  exact sub_of_in (inC_mv hu bu bR (by unfold inC; simp only; omega)) (inC_mv hu bu bR (by unfold inC; simp only; omega))
theorem sub_cmp {u t : TTransform} {r C : TRect} (hu : 0 ≤ u.fOrientation ∧ u.fOrientation ≤ 7) (ht : 0 ≤ t.fOrientation ∧ t.fOrientation ≤ 7) (bu : BdT u 100000) (bt : BdT t 100000) (br_ : NB r 100000) (bC : NB C 100000) (h : sub (mvR t r) C) : sub (mvR (cmpT u t) r) (mvR u C) := by
  obtain ⟨g1, g2⟩ := in_of_sub h
  obtain ⟨c1, c2, c3, c4, c5, c6⟩ := br_
  refine sub_of_in ?_ ?_
  · rw [mvP_cmp hu ht bu bt (by unfold BdP; simp only; omega)]; exact inC_mv hu bu bC g1
  · rw [mvP_cmp hu ht bu bt (by unfold BdP; simp only; omega)]; exact inC_mv hu bu bC g2
theorem sub_trans {a b c : TRect} (h : sub a b) (g : sub b c) : sub a c := by unfold sub at *; omega
theorem hull_l (a b : TRect) : sub a (hull a b) := by unfold sub hull; simp only [s_imin, s_imax]; omega
theorem hull_r (a b : TRect) : sub b (hull a b) := by unfold sub hull; simp only [s_imin, s_imax]; omega
theorem sub_refl (a : TRect) : sub a a := by unfold sub; omega
theorem sub_fold : ∀ (l : List TRect) (a : TRect), sub a (l.foldl hull a) ∧ ∀ x ∈ l, sub x (l.foldl hull a)
  | [], a => ⟨sub_refl a, fun x hx => by cases hx⟩
  | b :: l, a => by
    obtain ⟨h1, h2⟩ := sub_fold l (hull a b)
    refine ⟨sub_trans (hull_l a b) h1, fun x hx => ?_⟩
    rcases List.mem_cons.1 hx with rfl | hx
    · exact sub_trans (hull_r a x) h1
    · exact h2 x hx
theorem sub_bxs {l : List TRect} {x : TRect} (h : x ∈ l) : sub x (bxs l) := by
  cases l with
  | nil => cases h
  | cons a r =>
    obtain ⟨h1, h2⟩ := sub_fold r a
    rcases List.mem_cons.1 h with rfl | h
    · exact h1
    · exact h2 x h
theorem ovl_sub {r R wd : TRect} (h : sub r R) (g : ovlG r wd = true) : ovlG R wd = true := by
  rw [ovlG_iff] at g ⊢
  unfold sub at h
  omega
/- all occurrences below one; what a query leaves out does not overlap its window; flattening -/
noncomputable def tt2 : Nat → TTransform → Bool := fun _ _ => true
noncomputable def allL (a : TLibrary) (k n : Nat) : List TOccurrence := occG a tt2 n (rootO k)
theorem GO_bd {a : TLibrary} {o : TOccurrence} (h : GO a o) : BdT o.fPlace 2560 := by
  have := place_small h
  unfold BdT; omega
theorem mem_own {c : TCell} {s : TShape} (h : s ∈ c.fShapes) : s.fBox ∈ own c := by
  unfold own
  exact List.mem_append_left _ (List.mem_map.2 ⟨s, h, rfl⟩)
theorem box_all {a : TLibrary} {k : Nat} (hk : k < a.fCells.length) {r : TRect} (h : r ∈ allOf (boxesN a.fCells k) (gd a.fCells k)) : ∃ b, boxV a k = [b] ∧ sub r b := by
  refine ⟨bxs (allOf (boxesN a.fCells k) (gd a.fCells k)), ?_, sub_bxs h⟩
  show gd (boxesN a.fCells a.fCells.length) k = _
  rw [boxesN_gd a.fCells hk]
  unfold one
  rw [if_neg (by intro e; rw [e] at h; cases h)]
/-- the shapes of all occurrences below o lie in o's content box -/
theorem below_in (a : TLibrary) (hv : okLib a = true) : ∀ n o, GO a o → ∀ o' ∈ occG a tt2 n o, ∀ s ∈ (gd a.fCells o'.fCell.toNat).fShapes, ∃ b, boxV a o.fCell.toNat = [b] ∧ sub (mvR o'.fPlace s.fBox) (mvR o.fPlace b) := by
  intro n
  induction n with
  | zero => intro o _ o' h; simp [occG] at h
  | succ n ih =>
    intro o ho o' h s hs
    obtain ⟨c, hc, hcn, hpl⟩ := ho.cell
    have hvc := vc_of hv hcn
    have h8 := (okLib_leG hv).2
    have hbd := GO_bd ho
    rw [occG] at h
    rcases List.mem_cons.1 h with rfl | h
    · rw [hc, Int.toNat_natCast] at hs ⊢
      have hsh := hvc.shape s hs
      unfold okShape at hsh
      rw [Bool.and_eq_true] at hsh
      obtain ⟨b, hb, hsub⟩ := box_all hcn (List.mem_append_left _ (mem_own hs) : s.fBox ∈ allOf (boxesN a.fCells c) (gd a.fCells c))
      have hN := box_NB a hv c hcn hb
      exact ⟨b, hb, sub_mv ho.ori (by unfold BdT at *; omega) (hN.mono (by omega)) ((okRect_NB hsh.2).mono (by omega)) hsub⟩
    · rw [ctr_range] at h
      obtain ⟨i, hi, h⟩ := List.mem_flatMap.1 h
      rw [List.mem_range] at hi
      simp only [tt2, if_true] at h
      have hmem := gd_mem hi
      obtain ⟨e, he⟩ : ∃ e, e = gd (elemsC (gd a.fCells o.fCell.toNat)) i := ⟨_, rfl⟩
      rw [← he] at hmem h
      obtain ⟨hch, m, c', hm, hc', hmc, _⟩ := ho.child hv hmem ((0 + i : Nat) : Int)
      have hcc : c' = c := by omega
      subst hcc
      obtain ⟨b, hb, hsub⟩ := ih _ hch o' h s hs
      rw [show (TOccurrence.mk e.gcell (cmpT o.fPlace e.gplace) (o.fPath ++ [((0 + i : Nat) : Int)])).fCell = e.gcell from rfl, hm, Int.toNat_natCast] at hb
      simp only at hsub
      rw [hc, Int.toNat_natCast] at hmem ⊢
      obtain ⟨_, hpe, hoe⟩ := mem_elemsC hvc hmem
      have hin : mvR e.gplace b ∈ allOf (boxesN a.fCells c') (gd a.fCells c') := by
        unfold allOf
        refine List.mem_append_right _ ?_
        rw [← part_elems]
        refine List.mem_flatMap.2 ⟨e, hmem, List.mem_map.2 ⟨b, ?_, rfl⟩⟩
        rw [hm, Int.toNat_natCast]
        have hb' : gd (boxesN a.fCells a.fCells.length) m = [b] := hb
        rw [boxesN_gd a.fCells (show m < a.fCells.length by omega)] at hb'
        rw [boxesN_gd a.fCells hmc, hb']; simp
      obtain ⟨B, hB, hsubB⟩ := box_all hcn hin
      have hN := box_NB a hv c' hcn hB
      have hNb := box_NB a hv m (by omega) hb
      exact ⟨B, hB, sub_trans hsub (sub_cmp ho.ori hoe (by unfold BdT at *; omega) (by unfold BdT; omega) (hNb.mono (by omega)) (hN.mono (by omega)) hsubB)⟩
/-- what overlaps -/
noncomputable def boxF (a : TLibrary) (y : Int) (wd : TRect) (o : TOccurrence) : List TRect := (gd a.fCells o.fCell.toNat).fShapes.flatMap fun s => if (std.eq s.fLayer y && ovlG (mvR o.fPlace s.fBox) wd) then [mvR o.fPlace s.fBox] else []
theorem hits_box (a : TLibrary) (y : Int) (wd : TRect) (o : TOccurrence) : (hitsOf a y wd o).map (fun h => h.fBox) = boxF a y wd o := by
  have e : boxF a y wd o = (List.range (gd a.fCells o.fCell.toNat).fShapes.length).flatMap fun j => (fun s : TShape => if (std.eq s.fLayer y && ovlG (mvR o.fPlace s.fBox) wd) then [mvR o.fPlace s.fBox] else []) (gd (gd a.fCells o.fCell.toNat).fShapes j) := (range_fm _ _).symm
  rw [e]
  unfold hitsOf
  rw [List.map_flatMap]
  refine congrArg (fun f => List.flatMap f _) ?_
  funext j
  unfold hitF
  split
  · rename_i h1; simp only [h1, if_true]; rfl
  · rename_i h1; simp only [h1]; rfl
theorem boxF_nil {a : TLibrary} {y : Int} {wd : TRect} {o : TOccurrence} (h : ∀ s ∈ (gd a.fCells o.fCell.toNat).fShapes, ovlG (mvR o.fPlace s.fBox) wd = false) : boxF a y wd o = [] := by
  unfold boxF
  rw [List.flatMap_eq_nil_iff]
  intro s hs
  rw [h s hs, Bool.and_false, if_neg (by simp)]
theorem fm_nil {α β : Type} {l : List α} {f : α → List β} (h : ∀ x ∈ l, f x = []) : l.flatMap f = [] := List.flatMap_eq_nil_iff.2 h
theorem prune (a : TLibrary) (hv : okLib a = true) (y : Int) (wd : TRect) : ∀ n m o, GO a o → o.fCell.toNat < n → o.fCell.toNat < m →
    (occG a tt2 n o).flatMap (boxF a y wd) = (occG a (visP a wd) m o).flatMap (boxF a y wd) := by
  intro n
  induction n with
  | zero => intro m o _ h; omega
  | succ n ih =>
    intro m o ho hn hm
    cases m with
    | zero => omega
    | succ m =>
      obtain ⟨c, hc, hcn, hpl⟩ := ho.cell
      rw [occG, occG, List.flatMap_cons, List.flatMap_cons]
      congr 1
      rw [ctr_range, ctr_range, List.flatMap_assoc, List.flatMap_assoc]
      have key : ∀ i ∈ List.range (elemsC (gd a.fCells o.fCell.toNat)).length,
          ((fun (s : Nat) (e : Telement) => if tt2 e.gcell.toNat (cmpT o.fPlace e.gplace) then occG a tt2 n ⟨e.gcell, cmpT o.fPlace e.gplace, o.fPath ++ [(s : Int)]⟩ else []) (0 + i) (gd (elemsC (gd a.fCells o.fCell.toNat)) i)).flatMap (boxF a y wd) =
          ((fun (s : Nat) (e : Telement) => if visP a wd e.gcell.toNat (cmpT o.fPlace e.gplace) then occG a (visP a wd) m ⟨e.gcell, cmpT o.fPlace e.gplace, o.fPath ++ [(s : Int)]⟩ else []) (0 + i) (gd (elemsC (gd a.fCells o.fCell.toNat)) i)).flatMap (boxF a y wd) := by
        intro i hi
        rw [List.mem_range] at hi
        simp only [tt2, if_true]
        have hmem := gd_mem hi
        obtain ⟨e, he⟩ : ∃ e, e = gd (elemsC (gd a.fCells o.fCell.toNat)) i := ⟨_, rfl⟩
        rw [← he] at hmem ⊢
        obtain ⟨hch, q, c', hq, hc', hqc, _⟩ := ho.child hv hmem ((0 + i : Nat) : Int)
        cases hp : visP a wd e.gcell.toNat (cmpT o.fPlace e.gplace) with
        | true =>
          rw [if_pos rfl]
          exact ih m _ hch (by show e.gcell.toNat < n; omega) (by show e.gcell.toNat < m; omega)
        | false =>
          rw [if_neg (by simp), List.flatMap_nil]
          refine fm_nil fun o' ho' => boxF_nil fun s hs => ?_
          obtain ⟨b, hb, hsub⟩ := below_in a hv n _ hch o' ho' s hs
          simp only at hb hsub
          cases hov : ovlG (mvR o'.fPlace s.fBox) wd with
          | false => rfl
          | true =>
            have h1 := ovl_sub hsub hov
            unfold visP at hp
            rw [hb] at hp
            have h2 : bxs [b] = b := rfl
            rw [h2, h1] at hp
            simp at hp
      have e : ∀ (l : List Nat) (f g : Nat → List TRect), (∀ i ∈ l, f i = g i) → l.flatMap f = l.flatMap g := fun l f g h => by
        induction l with
        | nil => rfl
        | cons x r ih => rw [List.flatMap_cons, List.flatMap_cons, h x (by simp), ih (fun i hi => h i (by simp [hi]))]
      exact e _ _ _ key
/-- a loop that appends while a test holds -/
theorem while_chk {β : Type} (f : Nat → List β) (P : Nat → Bool) (n : Nat) (c : Int) (B : Nat) {st : Int × List β → Option ((Int × List β) ⊕ (Int ⊕ List β))}
    (h : ∀ i, i < n → ∀ v : List β, v.length + (f i).length ≤ B → st ((i : Int), v) = if P i then some (.inl (((i + 1 : Nat) : Int), v ++ f i)) else some (.inr (.inl c))) (he : ∀ v, st ((n : Int), v) = some (.inr (.inr v))) :
    ∀ (m i : Nat) (acc : List β), i + m = n → acc.length + ((List.range' i m).flatMap f).length ≤ B → whileP st ((i : Int), acc) = some (if (List.range' i m).all P then .inr (acc ++ (List.range' i m).flatMap f) else .inl c)
  | 0, i, acc, e, hB => by
    obtain rfl : i = n := by omega
    rw [whileP_unfold, he]; simp
  | m + 1, i, acc, e, hB => by
    rw [List.range'_succ, List.flatMap_cons, List.length_append] at hB
    rw [whileP_unfold, h i (by omega) acc (by omega), List.range'_succ, List.all_cons, List.flatMap_cons]
    cases hP : P i with
    | false => rfl
    | true =>
      simp only [Bool.true_and, if_true]
      rw [while_chk f P n c B h he m (i + 1) (acc ++ f i) (by omega) (by rw [List.length_append]; omega), List.append_assoc]
noncomputable def cCode (a : TLibrary) (k : Int) : Int := if okLib a = false then 1 else if wB k 0 ((a.fCells.length : Int) - 1) = false then 5 else 0
/-- all occurrences' places are valid -/
noncomputable def okOccs (l : List TOccurrence) : Bool := (List.range' 0 l.length).all fun i => okTr (gd l i).fPlace
noncomputable def oCode (a : TLibrary) (k : Int) : Int := if cCode a k = 0 then (if 200 < cnt a.fCells k.toNat then 3 else if okOccs (allL a k.toNat 65) then 0 else 2) else cCode a k
noncomputable def flatS (a : TLibrary) (o : TOccurrence) : List TShape := (gd a.fCells o.fCell.toNat).fShapes.map fun s => ⟨s.fLayer, mvR o.fPlace s.fBox⟩
noncomputable def okFlat (a : TLibrary) (o : TOccurrence) : Bool := (List.range' 0 (gd a.fCells o.fCell.toNat).fShapes.length).all fun j => okRect (mvR o.fPlace (gd (gd a.fCells o.fCell.toNat).fShapes j).fBox)
noncomputable def fCode (a : TLibrary) (k : Int) : Int := if oCode a k = 0 then (if (List.range' 0 (allL a k.toNat 65).length).all (fun i => okFlat a (gd (allL a k.toNat 65) i)) then 0 else 2) else oCode a k
/- what is drawn: it is drawn, and it is small -/
def Tot {α : Type} (x : Option α) (Q : α → Prop) : Prop := ∃ r, x = some r ∧ Q r
theorem Tot.ret {α : Type} {r : α} {Q : α → Prop} (h : Q r) : Tot (some r) Q := ⟨r, rfl, h⟩
theorem Tot.bind {α β : Type} {x : Option α} {f : α → Option β} {P : α → Prop} {Q : β → Prop} (h : Tot x P) (g : ∀ r, P r → Tot (f r) Q) : Tot (x.bind f) Q := by
  obtain ⟨r, h1, h2⟩ := h
  rw [h1]
  exact g r h2
theorem Tot.req {α : Type} {p : Prop} {k : Option α} {Q : α → Prop} (h : p) (g : Tot k Q) : Tot (Go.Proofs.Ytpobpihakgegbaa.AM.req p k) Q := by rw [req_of h]; exact g
theorem Tot.br {α : Type} {b : Bool} {x y : Option α} {Q : α → Prop} (h1 : b = true → Tot x Q) (h2 : b = false → Tot y Q) : Tot (Go.Proofs.Ytpobpihakgegbaa.AM.br b x y) Q := by
  cases b with
  | true => exact h1 rfl
  | false => exact h2 rfl
theorem Tot.letO {α β : Type} {e : α} {f : α → Option β} {Q : β → Prop} (h : Tot (f e) Q) : Tot (Go.Proofs.Ytpobpihakgegbaa.AM.letO e f) Q := h
theorem Tot.mono {α : Type} {x : Option α} {P Q : α → Prop} (h : Tot x P) (g : ∀ r, P r → Q r) : Tot x Q := by
  obtain ⟨r, h1, h2⟩ := h
  exact ⟨r, h1, g r h2⟩
theorem Tot.whileP {σ ρ : Type} {step : σ → Option (σ ⊕ ρ)} {x0 : σ} {Post : ρ → Prop} (Inv : σ → Prop) (μ : σ → Nat) (h0 : Inv x0)
    (h : ∀ x, Inv x → Tot (step x) fun r => match r with | .inl x' => Inv x' ∧ μ x' < μ x | .inr r => Post r) : Tot (Go.Proofs.Ytpobpihakgegbaa.AM.whileP step x0) Post := by
  refine while_ex Inv Post μ h0 fun x hx => ?_
  obtain ⟨r, h1, h2⟩ := h x hx
  cases r with
  | inl x' => exact .inl ⟨x', h1, h2.1, h2.2⟩
  | inr r => exact .inr ⟨r, h1, h2⟩
def OKc (c : List Int) : Prop := c.length ≤ 5000 ∧ ∀ b ∈ c, 0 ≤ b ∧ b ≤ 255
structure OKs (s : Tl01Source) : Prop where
  code : OKc s.gcode
  at0 : 0 ≤ s.gat
  at1 : s.gat ≤ 5000
  seed0 : 0 ≤ s.gseed
  seed1 : s.gseed < 2147483647
theorem lt_dec {x y : Int} (h : std.lt x y = true) : x < y := of_decide_eq_true h
theorem lt_decf {x y : Int} (h : std.lt x y = false) : y ≤ x := by
  have := of_decide_eq_false (show decide (x < y) = false from h); omega
theorem le_decf {x y : Int} (h : std.le x y = false) : y < x := by
  have := of_decide_eq_false (show decide (x ≤ y) = false from h); omega
theorem remB {x m : Int} (hx : 0 ≤ x) (hm : 0 < m) : 0 ≤ std.rem x m ∧ std.rem x m < m := by
  show 0 ≤ Int.tmod x m ∧ Int.tmod x m < m
  rw [Int.tmod_eq_emod_of_nonneg hx]
  exact ⟨Int.emod_nonneg _ (by omega), Int.emod_lt_of_pos _ hm⟩
theorem quoB {x m : Int} (hx : 0 ≤ x) (hx2 : x < 4611686018427387904) (hm : 0 < m) : 0 ≤ std.quo .i64 x m := by
  show 0 ≤ IntKind.i64.wrap (Int.tdiv x m)
  have h1 : Int.tdiv x m = x / m := Int.tdiv_eq_ediv_of_nonneg hx
  have h2 : 0 ≤ x / m := Int.ediv_nonneg hx (by omega)
  have h3 : x / m ≤ x := Int.ediv_le_self _ hx
  rw [h1, wrap_id (by omega) (by omega)]
  exact h2
theorem conv_id {x : Int} (h : 0 ≤ x ∧ x ≤ 255) : std.conv .i64 x = x := wrap_id (by omega) (by omega)
theorem gd_byte {c : List Int} (h : OKc c) {i : Int} (h0 : 0 ≤ i) (h1 : i < (c.length : Int)) : 0 ≤ gd c (std.toN i) ∧ gd c (std.toN i) ≤ 255 := by
  obtain ⟨n, rfl⟩ := Int.eq_ofNat_of_zero_le h0
  rw [s_toNn]
  exact h.2 _ (gd_mem (by omega))
theorem mulS {x y : Int} (h : -9223372036854775808 ≤ x * y) (g : x * y < 9223372036854775808) : std.mul .i64 x y = x * y := wrap_id h g
/-- the next number -/
theorem next_ok {s : Tl01Source} (hs : OKs s) {n : Int} (hn : n ≤ 1000000) : Tot (F_spec_l01Next_mPbb s n) fun r => OKs r.2 ∧ 0 ≤ r.1 ∧ (r.1 < n ∨ r.1 = 0) := by
  obtain ⟨hc, h0, h1, s0, s1⟩ := hs
  unfold F_spec_l01Next_mPbb
  have hm : std.mul .i64 s.gseed 48271 = s.gseed * 48271 := mulS (by omega) (by omega)
  refine Tot.br (fun h => Tot.ret ⟨⟨hc, h0, h1, s0, s1⟩, Int.le_refl _, .inr rfl⟩) fun h => ?_
  have hn1 := le_decf h
  have hnz : std.nz n := by show n ≠ 0; omega
  refine Tot.br (fun h => ?_) fun h => ?_
  · have hlt := lt_dec h
    rw [s_ofN, len_eq] at hlt
    obtain ⟨b0, b1⟩ := gd_byte hc h0 hlt
    have hl := hc.1
    have ha : std.add .i64 s.gat 1 = s.gat + 1 := add_id (by omega) (by omega)
    refine Tot.req ⟨h0, by rw [len_eq]; exact hlt⟩ (Tot.br (fun _ => ?_) fun _ => ?_)
    · rw [hm, conv_id ⟨b0, b1⟩, add_id (x := s.gseed * 48271) (by omega) (by omega), add_id (by omega) (by omega), ha]
      obtain ⟨r0, r1⟩ := remB (x := s.gseed * 48271 + gd s.gcode (std.toN s.gat) + 1) (m := 2147483647) (by omega) (by omega)
      obtain ⟨q0, q1⟩ := remB (m := n) r0 (by omega)
      exact Tot.req (by show (2147483647 : Int) ≠ 0; omega) (Tot.req hnz (Tot.ret ⟨⟨hc, by show 0 ≤ s.gat + 1; omega, by show s.gat + 1 ≤ 5000; omega, r0, r1⟩, q0, .inl q1⟩))
    · rw [conv_id ⟨b0, b1⟩, ha]
      obtain ⟨q0, q1⟩ := remB (m := n) b0 (by omega)
      exact Tot.req hnz (Tot.ret ⟨⟨hc, by show 0 ≤ s.gat + 1; omega, by show s.gat + 1 ≤ 5000; omega, s0, s1⟩, q0, .inl q1⟩)
  · rw [hm, add_id (by omega) (by omega)]
    obtain ⟨r0, r1⟩ := remB (x := s.gseed * 48271 + 11) (m := 2147483647) (by omega) (by omega)
    have q := quoB (m := 7) r0 (by omega) (by omega)
    obtain ⟨q0, q1⟩ := remB (m := n) q (by omega)
    exact Tot.req (by show (2147483647 : Int) ≠ 0; omega) (Tot.req (by show (7 : Int) ≠ 0; omega) (Tot.req hnz (Tot.ret ⟨⟨hc, h0, h1, r0, r1⟩, q0, .inl q1⟩)))
theorem from_ok {c : List Int} (hc : OKc c) : Tot (F_spec_l01From c) OKs := by
  unfold F_spec_l01From
  have hl := hc.1
  refine Tot.bind (P := fun v : Int => 0 ≤ v ∧ v < 2147483647) (Tot.whileP (fun x : Int × Int => 0 ≤ x.1 ∧ x.1 ≤ 64 ∧ 0 ≤ x.2 ∧ x.2 < 2147483647) (fun x => (64 - x.1).toNat) (by simp) fun x hx => ?_) fun v hv => Tot.ret ⟨hc, Int.le_refl _, by simp, hv.1, hv.2⟩
  obtain ⟨v1, v2⟩ := x
  obtain ⟨x0, x1, y0, y1⟩ := hx
  simp only at x0 x1 y0 y1
  unfold L_spec_l01From_x3
  simp only [letO_eq]
  refine Tot.bind (P := fun b => b = true → v1 < (c.length : Int) ∧ v1 < 64) (Tot.br (fun h => Tot.ret fun g => ?_) fun h => Tot.ret fun g => by cases g) fun b hb => Tot.br (fun h => ?_) fun h => ?_
  · have h1 := lt_dec h
    rw [s_ofN, len_eq] at h1
    exact ⟨h1, lt_dec g⟩
  · obtain ⟨h1, h2⟩ := hb h
    obtain ⟨b0, b1⟩ := gd_byte hc x0 h1
    have hm : std.mul .i64 v2 31 = v2 * 31 := mulS (by omega) (by omega)
    rw [hm, conv_id ⟨b0, b1⟩, add_id (x := v2 * 31) (by omega) (by omega), add_id (x := v1) (by omega) (by omega)]
    obtain ⟨r0, r1⟩ := remB (x := v2 * 31 + gd c (std.toN v1)) (m := 2147483647) (by omega) (by omega)
    exact Tot.req ⟨x0, by rw [len_eq]; exact h1⟩ (Tot.req (by show (2147483647 : Int) ≠ 0; omega) (Tot.ret ⟨⟨by show 0 ≤ v1 + 1; omega, by show v1 + 1 ≤ 64; omega, r0, r1⟩, by show (64 - (v1 + 1)).toNat < (64 - v1).toNat; omega⟩))
  · exact Tot.ret ⟨y0, y1⟩
/- draws of libraries -/
theorem ofBytes_size (n : Nat) (g : Nat → Int) : (std.ofBytes n g).size = n := by
  show (((List.range n).map fun i => UInt8.ofNat (g i).toNat).toArray).size = n
  simp
theorem roomS {n b : Nat} (hn : n ≤ 1000) (hb : b ≤ 1000) : std.room n b := by
  show n * b ≤ 35184372088832
  exact Nat.le_trans (Nat.mul_le_mul hn hb) (by omega)
theorem nextS {s : Tl01Source} (hs : OKs s) {n : Int} (hn : n ≤ 1000000) {β : Type} {f : Int × Tl01Source → Option β} {Q : β → Prop} (g : ∀ v s', OKs s' → 0 ≤ v → (v < n ∨ v = 0) → Tot (f (v, s')) Q) : Tot ((F_spec_l01Next_mPbb s n).bind f) Q :=
  Tot.bind (next_ok hs hn) fun r hr => g r.1 r.2 hr.1 hr.2.1 hr.2.2
theorem box_ok {s : Tl01Source} (hs : OKs s) : Tot (F_spec_l09DrawBox_mPb s) fun r => OKs r.2 := by
  unfold F_spec_l09DrawBox_mPb
  exact nextS hs (by omega) fun _ _ h _ _ => nextS h (by omega) fun _ _ h _ _ => nextS h (by omega) fun _ _ h _ _ => nextS h (by omega) fun _ _ h _ _ => Tot.ret h
theorem shape_ok {s : Tl01Source} (hs : OKs s) : Tot (F_spec_l09DrawShape_mPb s) fun r => OKs r.2 := by
  unfold F_spec_l09DrawShape_mPb
  exact nextS hs (by omega) fun _ _ h _ _ => Tot.bind (box_ok h) fun r hr => Tot.ret hr
theorem inst_ok {s : Tl01Source} (hs : OKs s) {n : Int} (hn : n ≤ 1000000) : Tot (F_spec_l09DrawInstance_mPbb s n) fun r => OKs r.2 := by
  unfold F_spec_l09DrawInstance_mPbb
  simp only [letO_eq]
  refine nextS hs hn fun _ _ h _ _ => nextS h (by omega) fun _ _ h _ _ => nextS h (by omega) fun _ _ h _ _ => nextS h (by omega) fun _ _ h _ _ => nextS h (by omega) fun _ _ h _ _ => ?_
  refine Tot.bind (P := fun y : List Int × Int × Int × Int × Int => OKs ⟨y.1, y.2.1, y.2.2.1⟩) (Tot.br (fun _ => nextS h (by omega) fun _ _ h _ _ => nextS h (by omega) fun _ _ h _ _ => Tot.ret h) fun _ => Tot.ret h) fun y hy => ?_
  refine nextS hy (by omega) fun _ _ h _ _ => ?_
  refine Tot.bind (P := fun y : List Int × Int × Int × Int × Int => OKs ⟨y.1, y.2.1, y.2.2.1⟩) (Tot.br (fun _ => nextS h (by omega) fun _ _ h _ _ => Tot.ret h) fun _ => Tot.ret h) fun y hy => ?_
  refine nextS hy (by omega) fun _ _ h _ _ => ?_
  exact Tot.bind (P := fun _ : Int => True) (Tot.br (fun _ => Tot.ret trivial) fun _ => Tot.ret trivial) fun _ _ => Tot.ret h
theorem name_ok {s : Tl01Source} (hs : OKs s) : Tot (F_spec_l09DrawName_mPb s) fun r => OKs r.2 ∧ r.1.size ≤ 3 := by
  unfold F_spec_l09DrawName_mPb
  simp only [letO_eq]
  refine nextS hs (by omega) fun v s' h h0 h1 => ?_
  refine Tot.bind (P := fun y : List Int × List Int × Int × Int => OKs ⟨y.2.1, y.2.2.1, y.2.2.2⟩ ∧ y.1.length ≤ 3) (Tot.whileP (fun x : Int × List Int × Int × Int × List Int => OKs ⟨x.2.1, x.2.2.1, x.2.2.2.1⟩ ∧ 0 ≤ x.1 ∧ (x.2.2.2.2.length : Int) + x.1 ≤ 3) (fun x => x.1.toNat) ?_ fun x hx => ?_) fun y hy => Tot.ret ⟨hy.1, by
      rw [ofBytes_size, len_eq]; exact hy.2⟩
  · have : std.add .i64 1 v = 1 + v := add_id (by omega) (by omega)
    refine ⟨h, ?_, ?_⟩
    · simp only [this]; omega
    · simp only [this, List.length_nil]; omega
  · obtain ⟨k, c, at', sd, l⟩ := x
    obtain ⟨g1, g2, g3⟩ := hx
    simp only at g1 g2 g3
    simp only [L_spec_l09DrawName_mPb_x10, letO_eq]
    refine Tot.br (fun hk => ?_) fun hk => Tot.ret ⟨g1, by simp only; omega⟩
    have hk' := lt_dec hk
    refine nextS g1 (by omega) fun w s2 g4 g5 g6 => ?_
    have hsz : (ByteArray.mk #[97, 98, 99, 100, 120, 121, 122, 48, 49, 57]).size = 10 := rfl
    refine Tot.req ⟨g5, by rw [s_slen, hsz]; omega⟩ (Tot.req (roomS (by rw [s_nadd, len_eq, len_eq, List.length_singleton]; omega) (by omega)) (Tot.ret ⟨⟨g4, ?_, ?_⟩, ?_⟩))
    · simp only [sub_id (x := k) (y := 1) (by omega) (by omega)]; omega
    · simp only [sub_id (x := k) (y := 1) (by omega) (by omega), List.length_append, List.length_singleton]; omega
    · simp only [sub_id (x := k) (y := 1) (by omega) (by omega)]; omega
theorem label_ok {s : Tl01Source} (hs : OKs s) : Tot (F_spec_l09DrawLabel_mPb s) fun r => OKs r.2 ∧ r.1.fName.size ≤ 3 := by
  unfold F_spec_l09DrawLabel_mPb
  exact nextS hs (by omega) fun _ _ h _ _ => nextS h (by omega) fun _ _ h _ _ => nextS h (by omega) fun _ _ h _ _ => Tot.bind (name_ok h) fun r hr => Tot.ret hr
/-- what a drawn cell is -/
structure CB (n : Nat) (c : TCell) : Prop where
  name : c.fName.size ≤ 100
  shapes : c.fShapes.length ≤ n
  labels : c.fLabels.length ≤ n
  insts : c.fInstances.length ≤ n
  lnames : ∀ l ∈ c.fLabels, l.fName.size ≤ 100
theorem CB.le {n m : Nat} {c : TCell} (h : CB n c) (hn : n ≤ m) : CB m c := ⟨h.name, Nat.le_trans h.shapes hn, Nat.le_trans h.labels hn, Nat.le_trans h.insts hn, h.lnames⟩
theorem sub1 {k : Int} (h : -1000000 ≤ k ∧ k ≤ 1000000) : std.sub .i64 k 1 = k - 1 := sub_id (by omega) (by omega)
theorem add1 {k : Int} (h : -1000000 ≤ k ∧ k ≤ 1000000) : std.add .i64 k 1 = k + 1 := add_id (by omega) (by omega)
theorem library_ok {s : Tl01Source} (hs : OKs s) : Tot (F_spec_l09DrawLibrary_mPb s) fun r => OKs r.2 ∧ 1 ≤ r.1.fCells.length ∧ r.1.fCells.length ≤ 4 ∧ ∀ c ∈ r.1.fCells, CB 4 c := by
  unfold F_spec_l09DrawLibrary_mPb
  simp only [letO_eq]
  refine nextS hs (by omega) fun v s' h h0 h1 => ?_
  refine Tot.bind (P := fun y : List Int × Int × Int × List TCell => OKs ⟨y.1, y.2.1, y.2.2.1⟩ ∧ 1 ≤ y.2.2.2.length ∧ y.2.2.2.length ≤ 4 ∧ ∀ c ∈ y.2.2.2, CB 4 c)
    (Tot.whileP (fun x : Int × List Int × Int × Int × List TCell => OKs ⟨x.2.1, x.2.2.1, x.2.2.2.1⟩ ∧ (x.2.2.2.2.length : Int) = x.1 ∧ x.1 ≤ 1 + v ∧ ∀ c ∈ x.2.2.2.2, CB 4 c) (fun x => (5 - x.1).toNat) ?_ fun x hx => ?_) fun y hy => Tot.ret hy
  · exact ⟨h, rfl, by show (0 : Int) ≤ 1 + v; omega, fun c hc => by cases hc⟩
  · obtain ⟨i, c, at', sd, l⟩ := x
    obtain ⟨g1, g2, g3, g4⟩ := hx
    simp only at g1 g2 g3 g4
    have e1 : std.add .i64 1 v = 1 + v := add_id (by omega) (by omega)
    simp only [L_spec_l09DrawLibrary_mPb_x8, letO_eq, e1]
    refine Tot.br (fun hk => ?_) fun hk => ?_
    · have hk' := lt_dec hk
      refine Tot.bind (name_ok g1) fun r hr => ?_
      refine Tot.req (roomS (by rw [s_nadd, s_slen, s_slen, ofBytes_size, len_eq, List.length_singleton]; omega) (by omega)) ?_
      refine nextS hr.1 (by omega) fun v2 s2 k1 k2 k3 => ?_
      -- shapes
      refine Tot.bind (P := fun y : List Int × Int × Int × List TShape => OKs ⟨y.1, y.2.1, y.2.2.1⟩ ∧ y.2.2.2.length ≤ 4) (Tot.whileP (fun x : Int × List Int × Int × Int × List TShape => OKs ⟨x.2.1, x.2.2.1, x.2.2.2.1⟩ ∧ 0 ≤ x.1 ∧ (x.2.2.2.2.length : Int) + x.1 ≤ 4) (fun x => x.1.toNat) ⟨k1, k2, by simp only [List.length_nil]; omega⟩ fun x hx => ?_) fun y1 p1 => ?_
      · obtain ⟨k, c, at', sd, l⟩ := x
        obtain ⟨q1, q2, q3⟩ := hx
        simp only at q1 q2 q3
        simp only [L_spec_l09DrawLibrary_mPb_x32, letO_eq]
        refine Tot.br (fun hk => ?_) fun hk => Tot.ret ⟨q1, by simp only; omega⟩
        have hk' := lt_dec hk
        refine Tot.bind (shape_ok q1) fun r hr => Tot.req (roomS (by rw [s_nadd, len_eq, len_eq, List.length_singleton]; omega) (by omega)) (Tot.ret ?_)
        rw [sub1 (by omega)]
        exact ⟨⟨hr, by simp only; omega, by simp only [List.length_append, List.length_singleton]; omega⟩, by simp only; omega⟩
      refine nextS p1.1 (by omega) fun v3 s3 k4 k5 k6 => ?_
      -- labels
      refine Tot.bind (P := fun y : List Int × Int × Int × List TLabel => OKs ⟨y.1, y.2.1, y.2.2.1⟩ ∧ y.2.2.2.length ≤ 4 ∧ ∀ l ∈ y.2.2.2, l.fName.size ≤ 100) (Tot.whileP (fun x : Int × List Int × Int × Int × List TLabel => OKs ⟨x.2.1, x.2.2.1, x.2.2.2.1⟩ ∧ 0 ≤ x.1 ∧ (x.2.2.2.2.length : Int) + x.1 ≤ 4 ∧ ∀ l ∈ x.2.2.2.2, l.fName.size ≤ 100) (fun x => x.1.toNat) ⟨k4, k5, by simp only [List.length_nil]; omega, fun l hl => by cases hl⟩ fun x hx => ?_) fun y2 p2 => ?_
      · obtain ⟨k, c, at', sd, l⟩ := x
        obtain ⟨q1, q2, q3, q4⟩ := hx
        simp only at q1 q2 q3 q4
        simp only [L_spec_l09DrawLibrary_mPb_x63, letO_eq]
        refine Tot.br (fun hk => ?_) fun hk => Tot.ret ⟨q1, by simp only; omega, q4⟩
        have hk' := lt_dec hk
        refine Tot.bind (label_ok q1) fun r hr => Tot.req (roomS (by rw [s_nadd, len_eq, len_eq, List.length_singleton]; omega) (by omega)) (Tot.ret ?_)
        rw [sub1 (by omega)]
        refine ⟨⟨hr.1, by simp only; omega, by simp only [List.length_append, List.length_singleton]; omega, fun l hl => ?_⟩, by simp only; omega⟩
        rcases List.mem_append.1 hl with hl | hl
        · exact q4 l hl
        · rw [List.mem_singleton] at hl; rw [hl]; have := hr.2; omega
      refine nextS p2.1 (by omega) fun v4 s4 k7 k8 k9 => ?_
      -- instances
      refine Tot.bind (P := fun y : List Int × Int × Int × List TInstance => OKs ⟨y.1, y.2.1, y.2.2.1⟩ ∧ y.2.2.2.length ≤ 4) (Tot.whileP (fun x : Int × List Int × Int × Int × List TInstance => OKs ⟨x.2.1, x.2.2.1, x.2.2.2.1⟩ ∧ 0 ≤ x.1 ∧ (x.2.2.2.2.length : Int) + x.1 ≤ 4) (fun x => x.1.toNat) ⟨k7, k8, by simp only [List.length_nil]; omega⟩ fun x hx => ?_) fun y3 p3 => ?_
      · obtain ⟨k, c, at', sd, l⟩ := x
        obtain ⟨q1, q2, q3⟩ := hx
        simp only at q1 q2 q3
        simp only [L_spec_l09DrawLibrary_mPb_x94, letO_eq]
        refine Tot.bind (P := fun b => b = true → 0 < k) (Tot.br (fun hh => Tot.ret fun _ => lt_dec hh) fun _ => Tot.ret fun hh => by cases hh) fun b hb => Tot.br (fun hk => ?_) fun hk => Tot.ret ⟨q1, by simp only; omega⟩
        have hk' := hb hk
        refine Tot.bind (inst_ok q1 (by omega)) fun r hr => Tot.req (roomS (by rw [s_nadd, len_eq, len_eq, List.length_singleton]; omega) (by omega)) (Tot.ret ?_)
        rw [sub1 (by omega)]
        exact ⟨⟨hr, by simp only; omega, by simp only [List.length_append, List.length_singleton]; omega⟩, by simp only; omega⟩
      have hcb : CB 4 (TCell.mk (std.scat (std.ofBytes (len [std.conv .u8 (std.add .i64 97 i)]) (fun j => gd [std.conv .u8 (std.add .i64 97 i)] (0 + j))) r.1) y1.2.2.2 y2.2.2.2 y3.2.2.2) := by
        refine ⟨?_, p1.2, p2.2.1, p3.2, p2.2.2⟩
        show (_ ++ _ : ByteArray).size ≤ 100
        rw [ByteArray.size_append, ofBytes_size, len_eq, List.length_singleton]
        have := hr.2; omega
      refine Tot.bind (P := fun y => y = l ++ [TCell.mk (std.scat (std.ofBytes (len [std.conv .u8 (std.add .i64 97 i)]) (fun j => gd [std.conv .u8 (std.add .i64 97 i)] (0 + j))) r.1) y1.2.2.2 y2.2.2.2 y3.2.2.2]) (Tot.req (roomS (by rw [s_nadd, len_eq, len_eq, List.length_singleton]; omega) (by omega)) (Tot.ret rfl)) fun y hy => Tot.ret ?_
      subst hy
      rw [add1 (by omega)]
      refine ⟨⟨p3.1, ?_, by simp only; omega, fun c hc => ?_⟩, by simp only; omega⟩
      · simp only [List.length_append, List.length_singleton]; omega
      · rcases List.mem_append.1 hc with hc | hc
        · exact g4 c hc
        · rw [List.mem_singleton] at hc; rw [hc]; exact hcb
    · have := lt_decf hk
      exact Tot.ret ⟨g1, by simp only; omega, by simp only; omega, g4⟩
/- draws of libraries that are mostly valid -/
theorem set_CB {n : Nat} {l : List TCell} {i : Nat} {x : TCell} (h : ∀ c ∈ l, CB n c) (hx : CB n x) : ∀ c ∈ l.set i x, CB n c := by
  intro c hc
  rcases List.mem_or_eq_of_mem_set hc with h1 | h1
  · exact h c h1
  · rw [h1]; exact hx
def PB (m : Nat) (y : List Int × Int × Int × List TCell) : Prop := OKs ⟨y.1, y.2.1, y.2.2.1⟩ ∧ y.2.2.2.length = m ∧ ∀ c ∈ y.2.2.2, CB 40 c
theorem index_ok {s : Tl01Source} (hs : OKs s) (a : TLibrary) (ha : a.fCells.length ≤ 1000) : Tot (F_spec_l09DrawIndex_mPbo s a) fun r => OKs r.2.1 ∧ r.2.2 = a.fCells := by
  unfold F_spec_l09DrawIndex_mPbo
  simp only [letO_eq]
  refine nextS hs (by omega) fun v s' h h0 h1 => Tot.br (fun _ => ?_) fun _ => ?_
  · refine nextS h (by omega) fun w s2 g g0 g1 => Tot.req ⟨g0, by rw [len_eq]; simp only [List.length_cons, List.length_nil]; omega⟩ (Tot.ret ⟨g, rfl⟩)
  · exact nextS h (by rw [s_ofN, len_eq]; omega) fun w s2 g g0 g1 => Tot.ret ⟨g, rfl⟩
set_option maxHeartbeats 1000000 in
theorem any_ok {s : Tl01Source} (hs : OKs s) : Tot (F_spec_l09DrawAny_mPb s) fun r => OKs r.2 ∧ r.1.fCells.length ≤ 4 ∧ (∀ c ∈ r.1.fCells, CB 40 c) ∧ 1 ≤ r.1.fCells.length := by
  unfold F_spec_l09DrawAny_mPb
  simp only [letO_eq]
  refine Tot.bind (library_ok hs) fun y1 hy1 => ?_
  obtain ⟨⟨L⟩, s1⟩ := y1
  obtain ⟨k1, k2, k3, k4⟩ := hy1
  simp only at k1 k2 k3 k4
  refine nextS k1 (by rw [s_ofN, len_eq]; simp only; omega) fun v s2 g g0 g1 => ?_
  have hv : v < (L.length : Int) := by rw [s_ofN, len_eq] at g1; simp only at g1; omega
  obtain ⟨i, rfl⟩ := Int.eq_ofNat_of_zero_le g0
  have hi : i < L.length := by omega
  refine Tot.req (inRl hi) ?_
  simp only [s_toNn, s_nadd, Nat.zero_add]
  have c0 : CB 4 (gd L i) := k4 _ (gd_mem hi)
  have all40 : ∀ c ∈ L, CB 40 c := fun c hc => (k4 c hc).le (by omega)
  refine nextS g (by omega) fun w s3 h h0 h1 => ?_
  refine Tot.bind (P := fun y : List TCell × List Int × Int × Int => OKs ⟨y.2.1, y.2.2.1, y.2.2.2⟩ ∧ y.1.length = L.length ∧ ∀ c ∈ y.1, CB 40 c) (Tot.br (fun _ => ?_) fun _ => ?_) fun y hy => Tot.req (by rw [len_eq, len_eq, hy.2.1]) (Tot.ret ⟨hy.1, by show y.1.length ≤ 4; omega, hy.2.2, by show 1 ≤ y.1.length; omega⟩)
  · refine Tot.bind (P := fun y : List TCell => y.length = L.length ∧ ∀ c ∈ y, CB 40 c) (Tot.req (inRl (i := 0) (by omega)) (Tot.ret ⟨by simp, set_CB all40 ?_⟩)) fun y hy => Tot.ret ⟨h, hy⟩
    have := (k4 _ (gd_mem (show 0 < L.length by omega))).name
    exact CB.le ⟨by show (gd L (std.toN 0)).fName.size ≤ 100; rw [show std.toN 0 = 0 from rfl]; exact this, c0.shapes, c0.labels, c0.insts, c0.lnames⟩ (by omega)
  · refine Tot.bind (P := PB L.length) (Tot.br (fun _ => ?_) fun _ => ?_) fun y hy => Tot.ret hy
    · refine Tot.bind (P := PB L.length) (nextS h (by omega) fun q s4 e e0 e1 => ?_) fun y hy => Tot.ret hy
      obtain ⟨q, rfl⟩ := Int.eq_ofNat_of_zero_le e0
      have hq : q < ([(ByteArray.mk #[]), (ByteArray.mk #[65]), (ByteArray.mk #[97, 98, 99, 100, 101, 102, 103, 104, 105]), (ByteArray.mk #[97, 32, 98])] : List ByteArray).length := by simp only [List.length_cons, List.length_nil]; omega
      refine Tot.req (inRl hq) (Tot.ret ⟨e, by simp, set_CB all40 ?_⟩)
      rw [s_toNn]
      have hm := gd_mem hq
      refine CB.le ⟨?_, c0.shapes, c0.labels, c0.insts, c0.lnames⟩ (by omega)
      have hz : ∀ x ∈ ([(ByteArray.mk #[]), (ByteArray.mk #[65]), (ByteArray.mk #[97, 98, 99, 100, 101, 102, 103, 104, 105]), (ByteArray.mk #[97, 32, 98])] : List ByteArray), x.size ≤ 100 := by decide
      exact hz _ hm
    · refine Tot.bind (P := PB L.length) (Tot.br (fun _ => ?_) fun _ => ?_) fun y hy => Tot.ret hy
      · refine Tot.bind (P := PB L.length) (nextS h (by omega) fun _ _ h _ _ => nextS h (by omega) fun _ _ h _ _ => nextS h (by omega) fun _ _ h _ _ => nextS h (by omega) fun _ _ h _ _ => nextS h (by omega) fun _ _ h _ _ => ?_) fun y hy => Tot.ret hy
        have := c0.shapes
        refine Tot.req (roomS (by simp only [s_nadd, len_eq, List.length_singleton]; omega) (by omega)) (Tot.ret ⟨h, by simp, set_CB all40 ⟨c0.name, by simp only [List.length_append, List.length_singleton]; omega, by have := c0.labels; simp only; omega, by have := c0.insts; simp only; omega, c0.lnames⟩⟩)
      · refine Tot.bind (P := PB L.length) (Tot.br (fun _ => ?_) fun _ => ?_) fun y hy => Tot.ret hy
        · have e1 : std.add .i64 (i : Int) 1 = (i : Int) + 1 := add1 (by omega)
          refine Tot.bind (inst_ok h (by rw [e1]; omega)) fun r hr => nextS hr (by omega) fun _ _ h _ _ => nextS h (by omega) fun _ _ h _ _ => ?_
          have := c0.insts
          refine Tot.bind (P := fun y : List TCell => y.length = L.length ∧ ∀ c ∈ y, CB 40 c) (Tot.req (roomS (by simp only [s_nadd, len_eq, List.length_singleton]; omega) (by omega)) (Tot.ret ⟨by simp, set_CB all40 ⟨c0.name, by have := c0.shapes; simp only; omega, by have := c0.labels; simp only; omega, by simp only [List.length_append, List.length_singleton]; omega, c0.lnames⟩⟩)) fun y hy => Tot.ret ⟨h, hy⟩
        · refine Tot.bind (P := PB L.length) (Tot.br (fun _ => ?_) fun _ => ?_) fun y hy => Tot.ret hy
          · refine Tot.bind (P := PB L.length) (nextS h (by omega) fun _ _ h _ _ => nextS h (by omega) fun _ _ h _ _ => nextS h (by omega) fun _ _ h _ _ => Tot.bind (name_ok h) fun r hr => ?_) fun y hy => Tot.ret hy
            have := c0.labels
            refine Tot.req (roomS (by simp only [s_nadd, len_eq, List.length_singleton]; omega) (by omega)) (Tot.ret ⟨hr.1, by simp, set_CB all40 ⟨c0.name, by have := c0.shapes; simp only; omega, by simp only [List.length_append, List.length_singleton]; omega, by have := c0.insts; simp only; omega, fun l hl => ?_⟩⟩)
            rcases List.mem_append.1 hl with hl | hl
            · exact c0.lnames l hl
            · rw [List.mem_singleton] at hl; rw [hl]; have := hr.2; simp only; omega
          · refine Tot.bind (P := PB L.length) (Tot.br (fun _ => ?_) fun _ => Tot.ret ⟨h, rfl, all40⟩) fun y hy => Tot.ret hy
            refine Tot.bind (P := PB L.length) (Tot.whileP (fun x : Int × List Int × Int × Int × List TCell => OKs ⟨x.2.1, x.2.2.1, x.2.2.2.1⟩ ∧ 0 ≤ x.1 ∧ x.1 ≤ 25 ∧ x.2.2.2.2.length = L.length ∧ ∀ c ∈ x.2.2.2.2, CB (4 + x.1.toNat) c) (fun x => (25 - x.1).toNat) ⟨h, Int.le_refl _, by simp, rfl, k4⟩ fun x hx => ?_) fun y hy => Tot.ret hy
            obtain ⟨j, c, at', sd, l⟩ := x
            obtain ⟨q1, q2, q3, q4, q5⟩ := hx
            simp only at q1 q2 q3 q4 q5
            simp only [L_spec_l09DrawAny_mPb_x167, letO_eq, s_toNn, s_nadd, Nat.zero_add]
            refine Tot.br (fun hk => ?_) fun hk => Tot.ret ⟨q1, q4, fun c hc => (q5 c hc).le (by omega)⟩
            have hk' := lt_dec hk
            have hil : i < l.length := by omega
            have ci := q5 _ (gd_mem hil)
            have hsh := ci.shapes
            refine Tot.bind (P := fun y : List Int × Int × Int × List TCell => OKs ⟨y.1, y.2.1, y.2.2.1⟩ ∧ y.2.2.2.length = L.length ∧ ∀ c ∈ y.2.2.2, CB (4 + (j.toNat + 1)) c) (Tot.bind (shape_ok q1) fun r hr => Tot.req (roomS (by simp only [s_nadd, len_eq, List.length_singleton]; omega) (by omega)) (Tot.req (by rw [len_eq, len_eq, q4]) (Tot.ret ⟨hr, by simp [q4], set_CB (n := 4 + (j.toNat + 1)) (fun c hc => (q5 c hc).le (by omega)) ⟨ci.name, by simp only [List.length_append, List.length_singleton]; omega, by have := ci.labels; simp only; omega, by have := ci.insts; simp only; omega, ci.lnames⟩⟩))) fun y hy => Tot.ret ?_
            rw [add1 (by omega)]
            exact ⟨⟨hy.1, by simp only; omega, by simp only; omega, hy.2.1, fun c hc => (hy.2.2 c hc).le (by simp only; omega)⟩, by simp only; omega⟩
theorem deep_ok {s : Tl01Source} (hs : OKs s) : Tot (F_spec_l10DrawDeep_mPb s) fun r => OKs r.2 ∧ r.1.fCells.length ≤ 4 ∧ (∀ c ∈ r.1.fCells, CB 40 c) ∧ 1 ≤ r.1.fCells.length := by
  unfold F_spec_l10DrawDeep_mPb
  simp only [letO_eq]
  refine Tot.bind (P := fun y : List Int × Int × Int × List TCell => OKs ⟨y.1, y.2.1, y.2.2.1⟩ ∧ y.2.2.2.length ≤ 4 ∧ (∀ c ∈ y.2.2.2, CB 40 c) ∧ 1 ≤ y.2.2.2.length)
    (Tot.whileP (fun x : Int × List Int × Int × Int × List TCell => OKs ⟨x.2.1, x.2.2.1, x.2.2.2.1⟩ ∧ (x.2.2.2.2.length : Int) = x.1 ∧ x.1 ≤ 4 ∧ ∀ c ∈ x.2.2.2.2, CB 40 c) (fun x => (4 - x.1).toNat) ⟨hs, rfl, by simp, fun c hc => by cases hc⟩ fun x hx => ?_) fun y hy => Tot.ret hy
  obtain ⟨i, c, at', sd, l⟩ := x
  obtain ⟨g1, g2, g3, g4⟩ := hx
  simp only at g1 g2 g3 g4
  simp only [L_spec_l10DrawDeep_mPb_x6, letO_eq]
  refine Tot.br (fun hk => ?_) fun hk => Tot.ret ⟨g1, by simp only; omega, g4, by have := lt_decf hk; simp only; omega⟩
  have hk' := lt_dec hk
  refine Tot.bind (shape_ok g1) fun r hr => nextS hr (by omega) fun v s2 h h0 h1 => ?_
  refine Tot.bind (P := fun y : List Int × Int × Int × List TInstance => OKs ⟨y.1, y.2.1, y.2.2.1⟩ ∧ y.2.2.2.length ≤ 4) (Tot.whileP (fun x : Int × List Int × Int × Int × List TInstance => OKs ⟨x.2.1, x.2.2.1, x.2.2.2.1⟩ ∧ 0 ≤ x.1 ∧ (x.2.2.2.2.length : Int) + x.1 ≤ 4) (fun x => x.1.toNat) ?_ fun x hx => ?_) fun y p => ?_
  · have e : std.add .i64 1 v = 1 + v := add_id (by omega) (by omega)
    exact ⟨h, by simp only [e]; omega, by simp only [e, List.length_nil]; omega⟩
  · obtain ⟨k, c, at', sd, l⟩ := x
    obtain ⟨q1, q2, q3⟩ := hx
    simp only at q1 q2 q3
    simp only [L_spec_l10DrawDeep_mPb_x31, letO_eq]
    refine Tot.bind (P := fun b => b = true → 0 < k) (Tot.br (fun hh => Tot.ret fun _ => lt_dec hh) fun _ => Tot.ret fun hh => by cases hh) fun b hb => Tot.br (fun hk => ?_) fun hk => Tot.ret ⟨q1, by simp only; omega⟩
    have hk' := hb hk
    refine Tot.bind (inst_ok q1 (by omega)) fun r hr => nextS hr (by omega) fun _ _ h _ _ => nextS h (by omega) fun _ _ h _ _ => nextS h (by omega) fun _ _ h _ _ => ?_
    refine Tot.bind (P := fun y : List Int × Int × Int × Int × Int => OKs ⟨y.1, y.2.1, y.2.2.1⟩) (Tot.br (fun _ => nextS h (by omega) fun _ _ h _ _ => nextS h (by omega) fun _ _ h _ _ => Tot.ret h) fun _ => Tot.ret h) fun y hy => ?_
    refine Tot.req (roomS (by simp only [s_nadd, len_eq, List.length_singleton]; omega) (by omega)) (Tot.ret ?_)
    rw [sub1 (by omega)]
    exact ⟨⟨hy, by simp only; omega, by simp only [List.length_append, List.length_singleton]; omega⟩, by simp only; omega⟩
  · refine Tot.bind (P := fun z => z.length = l.length + 1 ∧ ∀ c ∈ z, CB 40 c) (Tot.req (roomS (by simp only [s_nadd, len_eq, List.length_singleton]; omega) (by omega)) (Tot.ret ⟨by simp, fun c hc => ?_⟩)) fun z hz => Tot.ret ?_
    · rcases List.mem_append.1 hc with hc | hc
      · exact g4 c hc
      · rw [List.mem_singleton] at hc
        rw [hc]
        exact ⟨by show (std.ofBytes _ _).size ≤ 100; rw [ofBytes_size, len_eq]; simp, by simp, by simp, by have := p.2; simp only; omega, fun l hl => by cases hl⟩
    · rw [add1 (by omega)]
      exact ⟨⟨p.1, by have := hz.1; simp only; omega, by simp only; omega, hz.2⟩, by simp only; omega⟩
def OKl (a : TLibrary) : Prop := a.fCells.length ≤ 4 ∧ (∀ c ∈ a.fCells, CB 40 c) ∧ 1 ≤ a.fCells.length
theorem OKl.small {a : TLibrary} (h : OKl a) : SmallL a := ⟨by have := h.1; omega, fun c hc => by
  have g := h.2.1 c hc
  exact ⟨by have := g.name; omega, by have := g.shapes; omega, by have := g.labels; omega, by have := g.insts; omega, fun l hl => by have := g.lnames l hl; omega⟩⟩
theorem top10_ok {s : Tl01Source} (hs : OKs s) : Tot (F_spec_l10DrawTop_mPb s) fun r => OKs r.2.2 ∧ OKl r.1 := by
  unfold F_spec_l10DrawTop_mPb
  refine nextS hs (by omega) fun _ _ h _ _ => Tot.br (fun _ => ?_) fun _ => ?_
  · refine Tot.bind (any_ok h) fun r hr => Tot.bind (index_ok hr.1 r.1 (by have := hr.2.1; omega)) fun q hq => ?_
    exact Tot.req (by rw [hq.2]) (Tot.req (by rw [hq.2]) (Tot.ret ⟨hq.1, by rw [hq.2]; exact hr.2⟩))
  · unfold F_spec_l10DrawLibrary_mPb
    refine Tot.bind (P := fun r : TLibrary × Tl01Source => OKs r.2 ∧ OKl r.1) (Tot.bind (library_ok h) fun r hr => Tot.ret ⟨hr.1, hr.2.2.1, fun c hc => (hr.2.2.2 c hc).le (by omega), hr.2.1⟩) fun r hr => ?_
    refine nextS hr.1 (by omega) fun _ _ h _ _ => Tot.br (fun _ => ?_) fun _ => Tot.ret ⟨h, hr.2⟩
    refine Tot.bind (index_ok h r.1 (by have := hr.2.1; omega)) fun q hq => ?_
    exact Tot.req (by rw [hq.2]) (Tot.req (by rw [hq.2]) (Tot.ret ⟨hq.1, by rw [hq.2]; exact hr.2⟩))
theorem top12_ok {s : Tl01Source} (hs : OKs s) : Tot (F_spec_l12DrawTop_mPb s) fun r => OKs r.2.2 ∧ OKl r.1 := by
  unfold F_spec_l12DrawTop_mPb
  refine nextS hs (by omega) fun _ _ h _ _ => Tot.br (fun _ => ?_) fun _ => ?_
  · exact Tot.bind (deep_ok h) fun r hr => Tot.ret hr
  · exact Tot.bind (top10_ok h) fun r hr => Tot.ret hr
theorem box11_ok {s : Tl01Source} (hs : OKs s) : Tot (F_spec_l11DrawBox_mPb s) fun r => OKs r.2 := by
  unfold F_spec_l11DrawBox_mPb
  first
  | exact nextS hs (by omega) fun _ _ h _ _ => nextS h (by omega) fun _ _ h _ _ => nextS h (by omega) fun _ _ h _ _ => nextS h (by omega) fun _ _ h _ _ => Tot.ret h
  | skip
theorem window_ok {s : Tl01Source} (hs : OKs s) : Tot (F_spec_l12DrawWindow_mPb s) fun r => OKs r.2 := by
  unfold F_spec_l12DrawWindow_mPb F_spec_l11DrawWindow_mPb
  refine nextS hs (by omega) fun _ _ h _ _ => Tot.br (fun _ => ?_) fun _ => Tot.br (fun _ => Tot.ret h) fun _ => ?_
  · refine Tot.bind (P := fun r : TRect × Tl01Source => OKs r.2) (nextS h (by omega) fun _ _ h _ _ => Tot.br (fun _ => ?_) fun _ => ?_) fun r hr => Tot.ret hr
    · exact nextS h (by omega) fun _ _ h _ _ => nextS h (by omega) fun _ _ h _ _ => Tot.ret h
    · exact Tot.bind (box11_ok h) fun r hr => Tot.ret hr
  · exact nextS h (by omega) fun _ _ h _ _ => nextS h (by omega) fun _ _ h _ _ => nextS h (by omega) fun _ _ h _ _ => nextS h (by omega) fun _ _ h _ _ => Tot.ret h
end Go.Proofs.Ytpobpihakgegbaa.AM
