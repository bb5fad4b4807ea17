/-
  What the functions that the law reaches compute, and that they do. No condition.
-/
import Derived.Test.YtmdlnjeppemipaaAmDZ
import Derived.Test.YtmdlnjeppemipaaAmP
import Derived.Test.YtmdlnjeppemipaaAmDY
namespace Go.Proofs.Ytmdlnjeppemipaa.AM
open Go Go.Proofs Go.RowKit
set_option linter.unusedVariables false
set_option linter.unusedSimpArgs false
set_option maxRecDepth 100000

theorem impl_instanceBox_ok (x : TInstance) (b : TRect) {k : Nat} (h : VI x k) : F_impl_instanceBox x b = some (bxs ((elsOf x).map fun t => mvR t b)) := by
  obtain ⟨n, hn, hn1, hn4⟩ := h.cols
  obtain ⟨m, hm, hm1, hm4⟩ := h.rows
  have h16 := elsOf_le h
  unfold F_impl_instanceBox
  have e : (List.range m).flatMap (fun r => (elRow x r).map fun t => mvR t b) = (elsOf x).map fun t => mvR t b := by
    unfold elsOf
    rw [List.map_flatMap, hm, Int.toNat_natCast]
  have w : whileP (L_impl_instanceBox_x5 x b) (0, ([] : List TRect)) = some ((elsOf x).map fun t => mvR t b) := by
    refine (while_fm (fun r => (elRow x r).map fun t => mvR t b) m [] 1000 (by rw [e]; simp; omega) (fun r hr v hv => ?_) (fun v => ?_)).trans (by rw [e]; try rfl)
    · rw [List.length_map, elRow_len, hn, Int.toNat_natCast] at hv
      have e2 : (List.range n).flatMap (fun c : Nat => [mvR (elP x c r) b]) = (elRow x r).map fun t => mvR t b := by
        rw [map_fm]; unfold elRow; rw [List.map_map, hn, Int.toNat_natCast]; rfl
      have w2 : whileP (L_impl_instanceBox_x19 x b (r : Int)) (0, v) = some (v ++ (elRow x r).map fun t => mvR t b) := by
        refine (while_fm (fun c : Nat => [mvR (elP x c r) b]) n v 1000 (by rw [e2, List.length_map, elRow_len, hn, Int.toNat_natCast]; exact hv) (fun c hc u hu => ?_) (fun u => ?_)).trans (by rw [e2])
        · simp only [List.length_singleton] at hu
          simp only [L_impl_instanceBox_x19, letO_eq]
          rw [hn, lt_true (by omega), br_t, impl_elementPlace_ok, Option.bind_some, impl_moveRect_ok, Option.bind_some, req_of (roomG (by rw [s_nadd, len_eq, len_eq]; simp; omega) (by omega)), inc_nat (by omega)]
        · simp only [L_impl_instanceBox_x19, letO_eq]
          rw [hn, lt_false (by omega), br_f]
      simp only [L_impl_instanceBox_x5, letO_eq]
      rw [hm, lt_true (by omega), br_t, w2, Option.bind_some, inc_nat (by omega)]
    · simp only [L_impl_instanceBox_x5, letO_eq]
      rw [hm, lt_false (by omega), br_f]
  simp only [letO_eq]
  rw [w, Option.bind_some, boxOf_ok _ (by simpa using elsOf_ne h) (by rw [List.length_map]; omega), Option.bind_some]
noncomputable def instBoxR (a : TLibrary) (k i : Int) : TRect × Bool :=
  if hasC a k && wB i 0 (((gd a.fCells k.toNat).fInstances.length : Int) - 1) then
    (if boxV a (gd (gd a.fCells k.toNat).fInstances i.toNat).fCell.toNat = [] then (zR, false) else (bxs ((elsOf (gd (gd a.fCells k.toNat).fInstances i.toNat)).map fun t => mvR t (bxs (boxV a (gd (gd a.fCells k.toNat).fInstances i.toNat).fCell.toNat))), true))
  else (zR, false)
theorem spec_InstanceBox_ok (a : TLibrary) (k i : Int) (h : SmallL a) : F_spec_InstanceBox a k i = some (instBoxR a k i) := by
  unfold F_spec_InstanceBox instBoxR
  rw [spec_l09Has_ok a k h, Option.bind_some]
  cases hh : hasC a k with
  | false => unfold hasC at hh; rw [hh]; rfl
  | true =>
    obtain ⟨hv, n, rfl, hn⟩ := hasC_iff hh
    have hc := vc_of hv hn
    have i8 := hc.insts
    unfold hasC at hh
    rw [hh, Bool.not_true, br_f, req_of (inRl hn)]
    simp only [letO_eq, s_toNn, Int.toNat_natCast, s_ofN, len_eq, Bool.true_and]
    rw [sub_id (by omega) (by omega), spec_l09In_ok, Option.bind_some, Option.bind_some]
    cases hw : wB i 0 (((gd a.fCells n).fInstances.length : Int) - 1) with
    | false => rfl
    | true =>
      rw [wB_iffG] at hw
      obtain ⟨j, rfl⟩ : ∃ j : Nat, i = j := ⟨i.toNat, by omega⟩
      have hj : j < (gd a.fCells n).fInstances.length := by omega
      have hx := hc.inst _ (gd_mem hj)
      obtain ⟨m, hm, hmn⟩ := hx.cell
      rw [Bool.not_true, br_f, req_of (show std.inR (n : Int) a.fCells.length from inRn hn), req_of (show std.inR (j : Int) (gd a.fCells n).fInstances.length from inRn hj), s_toNn]
      simp only [if_true, Int.toNat_natCast, hm]
      rw [spec_l12Box_ok a hv m (by omega), Option.bind_some]
      rw [show gd (boxesN a.fCells a.fCells.length) m = boxV a m from rfl]
      by_cases hb : boxV a m = []
      · rw [if_pos hb, hb]; rfl
      · rw [if_neg hb, decide_eq_true hb, Bool.not_true, br_f, spec_l12Array_ok _ _ hx, Option.bind_some]
/- how far boxes reach; overlaps -/
structure NB (r : TRect) (B : Int) : Prop where
  x0 : -B ≤ r.fX0
  x : r.fX0 < r.fX1
  x1 : r.fX1 ≤ B
  y0 : -B ≤ r.fY0
  y : r.fY0 < r.fY1
  y1 : r.fY1 ≤ B
theorem NB.mono {r : TRect} {B C : Int} (h : NB r B) (hc : B ≤ C) : NB r C := ⟨by have := h.x0; omega, h.x, by have := h.x1; omega, by have := h.y0; omega, h.y, by have := h.y1; omega⟩
theorem rem4 (o : Int) : (std.rem o 4).toNat = 0 ∨ (std.rem o 4).toNat = 1 ∨ (std.rem o 4).toNat = 2 ∨ (std.rem o 4).toNat = 3 := by
  have := rem_lt o
  omega
theorem mvP_bd {t : TTransform} {p : TPoint} {B S : Int} (hp : -B ≤ p.fX ∧ p.fX ≤ B ∧ -B ≤ p.fY ∧ p.fY ≤ B) (ht : -S ≤ t.fX ∧ t.fX ≤ S ∧ -S ≤ t.fY ∧ t.fY ≤ S) (hb : B + S ≤ 1000000) (hB : 0 ≤ B) (hS : 0 ≤ S) :
    -(B + S) ≤ (mvP t p).fX ∧ (mvP t p).fX ≤ B + S ∧ -(B + S) ≤ (mvP t p).fY ∧ (mvP t p).fY ≤ B + S := by
  unfold mvP
  rcases rem4 t.fOrientation with h | h | h | h <;> rw [h] <;> (by_cases h4 : 4 ≤ t.fOrientation) <;> simp only [h4, if_true, if_false] <;> simp (disch := omega) only [rot, sub_id, add_id] <;> omega
theorem mvR_NB {t : TTransform} {r : TRect} {B S : Int} (hr : NB r B) (ht : -S ≤ t.fX ∧ t.fX ≤ S ∧ -S ≤ t.fY ∧ t.fY ≤ S) (hb : B + S ≤ 1000000) (hS : 0 ≤ S) : NB (mvR t r) (B + S) := by
  obtain ⟨a1, a2, a3, a4, a5, a6⟩ := hr
  unfold mvR mvP
  rcases rem4 t.fOrientation with h | h | h | h <;> rw [h] <;> (by_cases h4 : 4 ≤ t.fOrientation) <;> simp only [h4, if_true, if_false] <;> simp (disch := omega) only [rot, sub_id, add_id, s_imin, s_imax] <;> constructor <;> simp only <;> omega
theorem hull_NB {a b : TRect} {B : Int} (ha : NB a B) (hb : NB b B) : NB (hull a b) B := by
  obtain ⟨a1, a2, a3, a4, a5, a6⟩ := ha
  obtain ⟨b1, b2, b3, b4, b5, b6⟩ := hb
  unfold hull
  constructor <;> simp only [s_imin, s_imax] <;> omega
theorem bxs_NB {l : List TRect} {B : Int} (h : l ≠ []) (hl : ∀ r ∈ l, NB r B) : NB (bxs l) B := by
  cases l with
  | nil => exact (h rfl).elim
  | cons a r =>
    have key : ∀ (r : List TRect) (a : TRect), NB a B → (∀ x ∈ r, NB x B) → NB (r.foldl hull a) B := by
      intro r
      induction r with
      | nil => intro a ha _; exact ha
      | cons b r ih => intro a ha hr; exact ih _ (hull_NB ha (hr b (by simp))) (fun x hx => hr x (by simp [hx]))
    exact key r a (hl a (by simp)) (fun x hx => hl x (by simp [hx]))
theorem okRect_iff {a : TRect} : okRect a = true ↔ (-40 ≤ a.fX0 ∧ a.fX0 < a.fX1 ∧ a.fX1 ≤ 40 ∧ -40 ≤ a.fY0 ∧ a.fY0 < a.fY1 ∧ a.fY1 ≤ 40) := by
  unfold okRect
  simp only [s_le, s_lt, Bool.and_eq_true, decide_eq_true_eq]
theorem okRect_NB {a : TRect} (h : okRect a = true) : NB a 40 := by
  obtain ⟨h1, h2, h3, h4, h5, h6⟩ := okRect_iff.1 h
  exact ⟨h1, h2, h3, h4, h5, h6⟩
theorem own_NB {c : TCell} {k : Nat} (h : VC c k) : ∀ r ∈ own c, NB r 40 := by
  intro r hr
  unfold own at hr
  rcases List.mem_append.1 hr with h1 | h1
  · obtain ⟨s, hs, rfl⟩ := List.mem_map.1 h1
    have := h.shape s hs
    unfold okShape at this
    rw [Bool.and_eq_true] at this
    exact okRect_NB this.2
  · obtain ⟨l, hl, rfl⟩ := List.mem_map.1 h1
    have := h.label l hl
    unfold okLabel okPoint at this
    simp only [Bool.and_eq_true, wB_iffG] at this
    obtain ⟨_, ⟨h2, h3⟩, _⟩ := this
    unfold unitR
    constructor <;> simp only <;> (try rw [add_id (by omega) (by omega)]) <;> omega
theorem elP_bd {x : TInstance} {k : Nat} (h : VI x k) {t : TTransform} (ht : t ∈ elsOf x) : (-320 ≤ t.fX ∧ t.fX ≤ 320 ∧ -320 ≤ t.fY ∧ t.fY ≤ 320) ∧ 0 ≤ t.fOrientation ∧ t.fOrientation ≤ 7 := by
  unfold elsOf at ht
  obtain ⟨r, hr, ht⟩ := List.mem_flatMap.1 ht
  unfold elRow at ht
  obtain ⟨c, hc, rfl⟩ := List.mem_map.1 ht
  rw [List.mem_range] at hr hc
  obtain ⟨n, hn, _, hn4⟩ := h.cols
  obtain ⟨m, hm, _, hm4⟩ := h.rows
  have hpx := h.px
  have hpy := h.py
  have hsx := h.sx
  have hsy := h.sy
  have hc3 : (c : Int) ≤ 3 := by omega
  have hr3 : (r : Int) ≤ 3 := by omega
  have e1 : -240 ≤ (c : Int) * x.fStepX ∧ (c : Int) * x.fStepX ≤ 240 := by
    have : c = 0 ∨ c = 1 ∨ c = 2 ∨ c = 3 := by omega
    rcases this with rfl | rfl | rfl | rfl <;> omega
  have e2 : -240 ≤ (r : Int) * x.fStepY ∧ (r : Int) * x.fStepY ≤ 240 := by
    have : r = 0 ∨ r = 1 ∨ r = 2 ∨ r = 3 := by omega
    rcases this with rfl | rfl | rfl | rfl <;> omega
  unfold elP
  simp only
  rw [mul_id (by omega) (by omega), mul_id (by omega) (by omega), add_id (by omega) (by omega), add_id (by omega) (by omega)]
  exact ⟨by omega, h.ori.1, h.ori.2⟩
theorem box_NB (a : TLibrary) (h : okLib a = true) (k : Nat) (hk : k < a.fCells.length) {b : TRect} (hb : boxV a k = [b]) : NB b (40 + 320 * k) := by
  have h8 := (okLib_leG h).2
  have key : ∀ m, ∀ k, k < m → k < a.fCells.length → ∀ b, gd (boxesN a.fCells a.fCells.length) k = [b] → NB b (40 + 320 * k) := by
    intro m
    induction m with
    | zero => intro k hk; omega
    | succ m ih =>
      intro k hkm hk b hb
      have hc := vc_of h hk
      rw [boxesN_gd a.fCells hk] at hb
      unfold one at hb
      split at hb
      · cases hb
      · rename_i hne
        injection hb with hb _
        subst hb
        refine bxs_NB hne (fun r hr => ?_)
        unfold allOf at hr
        rcases List.mem_append.1 hr with h1 | h1
        · exact (own_NB hc r h1).mono (by omega)
        · obtain ⟨x, hx, h1⟩ := List.mem_flatMap.1 h1
          have hv := hc.inst x hx
          obtain ⟨j, hj, hjk⟩ := hv.cell
          unfold part at h1
          obtain ⟨t, ht, h1⟩ := List.mem_flatMap.1 h1
          obtain ⟨q, hq, rfl⟩ := List.mem_map.1 h1
          rw [hj, Int.toNat_natCast, boxesN_gd a.fCells hjk] at hq
          have hq2 : gd (boxesN a.fCells a.fCells.length) j = [q] := by
            rw [boxesN_gd a.fCells (show j < a.fCells.length by omega)]
            have h1 := one_le (allOf (boxesN a.fCells j) (gd a.fCells j))
            cases hd : one (allOf (boxesN a.fCells j) (gd a.fCells j)) with
            | nil => rw [hd] at hq; cases hq
            | cons z r =>
              rw [hd] at hq h1
              cases r with
              | nil => rw [List.mem_singleton] at hq; rw [hq]
              | cons _ _ => simp at h1
          have hN := ih j (by omega) (by omega) q hq2
          have hbd := elP_bd hv ht
          exact (mvR_NB (S := 320) hN hbd.1 (by omega) (by omega)).mono (by omega)
  exact key (k + 1) k (by omega) hk b hb
noncomputable def ovlG (a b : TRect) : Bool := std.lt a.fX0 b.fX1 && (std.lt b.fX0 a.fX1 && (std.lt a.fY0 b.fY1 && std.lt b.fY0 a.fY1))
theorem ovlG_iff {a b : TRect} : ovlG a b = true ↔ (a.fX0 < b.fX1 ∧ b.fX0 < a.fX1 ∧ a.fY0 < b.fY1 ∧ b.fY0 < a.fY1) := by
  unfold ovlG
  simp only [s_lt, Bool.and_eq_true, decide_eq_true_eq]
theorem spec_l11Overlap_okG (a b : TRect) : F_spec_l11Overlap a b = some (ovlG a b) := by
  unfold F_spec_l11Overlap ovlG
  cases std.lt a.fX0 b.fX1 <;> cases std.lt b.fX0 a.fX1 <;> cases std.lt a.fY0 b.fY1 <;> rfl
theorem anywhere_ok {a b : TRect} {B C : Int} (ha : NB a B) (hb : NB b C) : F_impl_anywhere a b = some (ovlG a b) := by
  have e : F_impl_anywhere a b = some (decide (max a.fX0 b.fX0 < min a.fX1 b.fX1) && decide (max a.fY0 b.fY0 < min a.fY1 b.fY1)) := by
    unfold F_impl_anywhere F_impl_common
    simp only [Option.bind_some, letO_eq, s_imin, s_imax, s_lt]
    cases decide (max a.fX0 b.fX0 < min a.fX1 b.fX1) <;> rfl
  rw [e, Option.some.injEq, Bool.eq_iff_iff, ovlG_iff, Bool.and_eq_true, decide_eq_true_eq, decide_eq_true_eq]
  obtain ⟨a1, a2, a3, a4, a5, a6⟩ := ha
  obtain ⟨b1, b2, b3, b4, b5, b6⟩ := hb
  omega
/- what the marks write -/
theorem gd_set_selfM {α : Type} [Inhabited α] (l : List α) (i : Nat) (x : α) (h : i < l.length) : gd (l.set i x) i = x := by
  rw [gd_lt (by simpa using h)]; simp
theorem req_reflM {α β : Type} (x : α) (k : Option β) : req (x = x) k = k := req_of rfl
theorem markText_ex (n : Nat) (h : n ≤ 1000000000000000) : ∃ s, F_laws_markText (n : Int) = some s ∧ s.size ≤ 20 := by
  unfold F_laws_markText
  by_cases h0 : n = 0
  · subst h0
    exact ⟨_, rfl, by decide⟩
  · rw [le_false (by omega), br_f]
    obtain ⟨r, h1, h2⟩ := while_ex (step := L_laws_markText_x3) (x0 := ((n : Int), ByteArray.mk #[])) (fun x => ∃ v : Nat, x.1 = (v : Int) ∧ v * 10 ^ x.2.size ≤ n ∧ x.2.size ≤ 17) (fun r => r.size ≤ 17) (fun x => x.1.toNat) ⟨n, rfl, by simp [ByteArray.size], by simp [ByteArray.size]⟩ (by
      rintro ⟨x, s⟩ ⟨v, hv, hle, hs⟩
      simp only at hv hle hs
      subst hv
      simp only [L_laws_markText_x3, letO_eq]
      by_cases hp : 0 < v
      · have hs15 : s.size ≤ 15 := by
          rcases Nat.lt_or_ge s.size 16 with h | h
          · omega
          · have h3 : 10 ^ 16 ≤ 10 ^ s.size := Nat.pow_le_pow_right (by omega) h
            have h4 : 1 * 10 ^ s.size ≤ v * 10 ^ s.size := Nat.mul_le_mul_right _ hp
            have h5 : 10 ^ 16 = 10000000000000000 := by decide
            omega
        have nz : std.nz 10 := by rw [s_nz]; decide
        have hq : std.quo .i64 (v : Int) 10 = ((v / 10 : Nat) : Int) := by
          show IntKind.i64.wrap ((v : Int).tdiv 10) = _
          have e : (v : Int).tdiv 10 = ((v / 10 : Nat) : Int) := rfl
          have hv15 : v ≤ n := by
            have h4 : v * 1 ≤ v * 10 ^ s.size := Nat.mul_le_mul_left _ (Nat.pos_of_ne_zero (by simp))
            omega
          rw [e, wrap_id (by omega) (by omega)]
        have hsz : (std.scat (std.ofBytes (len [std.conv .u8 (std.add .i64 48 (std.rem (v : Int) 10))]) fun i => gd [std.conv .u8 (std.add .i64 48 (std.rem (v : Int) 10))] (0 + i)) s).size = s.size + 1 := by
          rw [scat_size]
          have := ofL_size [std.conv .u8 (std.add .i64 48 (std.rem (v : Int) 10))]
          unfold ofL at this
          rw [this]; simp; omega
        have hl1 : std.slen (std.ofBytes (len [std.conv .u8 (std.add .i64 48 (std.rem (v : Int) 10))]) fun i => gd [std.conv .u8 (std.add .i64 48 (std.rem (v : Int) 10))] (0 + i)) = 1 := by
          have := ofL_len [std.conv .u8 (std.add .i64 48 (std.rem (v : Int) 10))]
          unfold ofL at this
          rw [this]; rfl
        rw [lt_true (by omega), br_t, req_of nz, hl1, req_of (room1 (by rw [s_slen]; omega)), req_of nz, hq]
        refine .inl ⟨_, rfl, ⟨v / 10, rfl, ?_, by simp only; rw [hsz]; omega⟩, by simp only [Int.toNat_natCast]; omega⟩
        simp only
        rw [hsz, Nat.pow_succ]
        have h6 : v / 10 * 10 ≤ v := by omega
        have h7 : v / 10 * (10 ^ s.size * 10) = (v / 10 * 10) * 10 ^ s.size := by rw [Nat.mul_comm (10 ^ s.size) 10, Nat.mul_assoc]
        rw [h7]
        exact Nat.le_trans (Nat.mul_le_mul_right _ h6) hle
      · rw [lt_false (by omega), br_f]
        exact .inr ⟨_, rfl, hs⟩)
    rw [h1]
    simp only [Option.bind_some, letO_eq]
    have h1' : (ByteArray.mk #[109]).size = 1 := rfl
    rw [req_of (room1 (by rw [s_slen, s_slen, h1']; omega))]
    exact ⟨_, rfl, by rw [scat_size, h1']; omega⟩
noncomputable def mkT (n : Nat) : ByteArray := (F_laws_markText (n : Int)).getD (ByteArray.mk #[])
theorem markText_ok (n : Nat) (h : n ≤ 1000000000000000) : F_laws_markText (n : Int) = some (mkT n) := by
  obtain ⟨s, hs, _⟩ := markText_ex n h
  unfold mkT
  rw [hs]; rfl
def mShape (k i : Nat) : TShape := ⟨((k + 5 * i : Nat) : Int), ⟨((k + 5 * i + 1 : Nat) : Int), ((k + 5 * i + 1 + 1 : Nat) : Int), ((k + 5 * i + 1 + 1 + 1 : Nat) : Int), ((k + 5 * i + 1 + 1 + 1 + 1 : Nat) : Int)⟩⟩
set_option maxHeartbeats 4000000 in
theorem markShapeS_ok (l : List TShape) (k : Nat) (h : k + 5 * l.length ≤ 1000000000000000) : F_laws_markShapeS_mob l k = some (((k + 5 * l.length : Nat) : Int), (List.range l.length).map (mShape k)) := by
  unfold F_laws_markShapeS_mob
  refine Eq.trans (bind_of (while_from (r := (((k + 5 * l.length : Nat) : Int), (List.range l.length).map (mShape k))) (fun i => (((k + 5 * i : Nat) : Int), (i : Int), markd (mShape k) l i)) l.length (by simp [markd_zero]) (fun i hi => ?_) ?_)) ?_
  · have hml : (markd (mShape k) l i).length = l.length := markd_len _ _ _ (by omega)
    have hmi : i < (markd (mShape k) l i).length := by rw [hml]; exact hi
    have hin : std.inR (i : Int) l.length := inRl hi
    have hlt : std.lt (i : Int) (std.ofN l.length) = true := ltl_t hi
    have a1 : std.add .i64 ((k + 5 * i : Nat) : Int) 1 = ((k + 5 * i + 1 : Nat) : Int) := inc_nat (by omega)
    have a2 : std.add .i64 ((k + 5 * i + 1 : Nat) : Int) 1 = ((k + 5 * i + 1 + 1 : Nat) : Int) := inc_nat (by omega)
    have a3 : std.add .i64 ((k + 5 * i + 1 + 1 : Nat) : Int) 1 = ((k + 5 * i + 1 + 1 + 1 : Nat) : Int) := inc_nat (by omega)
    have a4 : std.add .i64 ((k + 5 * i + 1 + 1 + 1 : Nat) : Int) 1 = ((k + 5 * i + 1 + 1 + 1 + 1 : Nat) : Int) := inc_nat (by omega)
    have a5 : std.add .i64 ((k + 5 * i + 1 + 1 + 1 + 1 : Nat) : Int) 1 = ((k + 5 * i + 1 + 1 + 1 + 1 + 1 : Nat) : Int) := inc_nat (by omega)
    have b1 : std.add .i64 (i : Int) 1 = ((i + 1 : Nat) : Int) := inc_nat (by omega)
    simp only [L_laws_markShapeS_mob_x4, letO_eq, s_toNn, s_nadd, Nat.zero_add, len_eq, List.length_set, hml, hlt, br_t, req_of hin, req_reflM, List.set_set, gd_set_selfM _ _ _ hmi, a1, a2, a3, a4, a5, b1]
    try simp only [req_true]
    rw [← markd_set (mShape k) l i hi]
    rfl
  · simp only [L_laws_markShapeS_mob_x4, letO_eq]
    rw [ltl_f, br_f, markd_full]
  · simp only [letO_eq]
    rw [req_of (by simp [len_eq])]
noncomputable def mLabel (k i : Nat) : TLabel := ⟨((k + 4 * i : Nat) : Int), ⟨((k + 4 * i + 1 : Nat) : Int), ((k + 4 * i + 1 + 1 : Nat) : Int)⟩, mkT (k + 4 * i + 1 + 1 + 1)⟩
set_option maxHeartbeats 4000000 in
theorem markLabelS_ok (l : List TLabel) (k : Nat) (h : k + 4 * l.length ≤ 1000000000000000) : F_laws_markLabelS_mob l k = some (((k + 4 * l.length : Nat) : Int), (List.range l.length).map (mLabel k)) := by
  unfold F_laws_markLabelS_mob
  refine Eq.trans (bind_of (while_from (r := (((k + 4 * l.length : Nat) : Int), (List.range l.length).map (mLabel k))) (fun i => (((k + 4 * i : Nat) : Int), (i : Int), markd (mLabel k) l i)) l.length (by simp [markd_zero]) (fun i hi => ?_) ?_)) ?_
  · have hml : (markd (mLabel k) l i).length = l.length := markd_len _ _ _ (by omega)
    have hmi : i < (markd (mLabel k) l i).length := by rw [hml]; exact hi
    have hin : std.inR (i : Int) l.length := inRl hi
    have hlt : std.lt (i : Int) (std.ofN l.length) = true := ltl_t hi
    have a1 : std.add .i64 ((k + 4 * i : Nat) : Int) 1 = ((k + 4 * i + 1 : Nat) : Int) := inc_nat (by omega)
    have a2 : std.add .i64 ((k + 4 * i + 1 : Nat) : Int) 1 = ((k + 4 * i + 1 + 1 : Nat) : Int) := inc_nat (by omega)
    have a3 : std.add .i64 ((k + 4 * i + 1 + 1 : Nat) : Int) 1 = ((k + 4 * i + 1 + 1 + 1 : Nat) : Int) := inc_nat (by omega)
    have a4 : std.add .i64 ((k + 4 * i + 1 + 1 + 1 : Nat) : Int) 1 = ((k + 4 * i + 1 + 1 + 1 + 1 : Nat) : Int) := inc_nat (by omega)
    have b1 : std.add .i64 (i : Int) 1 = ((i + 1 : Nat) : Int) := inc_nat (by omega)
    have hT : F_laws_markText ((k + 4 * i + 1 + 1 + 1 : Nat) : Int) = some (mkT (k + 4 * i + 1 + 1 + 1)) := markText_ok _ (by omega)
    simp only [L_laws_markLabelS_mob_x4, letO_eq, s_toNn, s_nadd, Nat.zero_add, len_eq, List.length_set, hml, hlt, br_t, req_of hin, req_reflM, List.set_set, gd_set_selfM _ _ _ hmi, a1, a2, a3, a4, b1, hT, Option.bind_some]
    try simp only [req_true]
    rw [← markd_set (mLabel k) l i hi]
    rfl
  · simp only [L_laws_markLabelS_mob_x4, letO_eq]
    rw [ltl_f, br_f, markd_full]
  · simp only [letO_eq]
    rw [req_of (by simp [len_eq])]
def mInstance (k i : Nat) : TInstance := ⟨((k + 8 * i : Nat) : Int), ⟨((k + 8 * i + 1 : Nat) : Int), ((k + 8 * i + 1 + 1 : Nat) : Int), ((k + 8 * i + 1 + 1 + 1 : Nat) : Int)⟩, ((k + 8 * i + 1 + 1 + 1 + 1 : Nat) : Int), ((k + 8 * i + 1 + 1 + 1 + 1 + 1 : Nat) : Int), ((k + 8 * i + 1 + 1 + 1 + 1 + 1 + 1 : Nat) : Int), ((k + 8 * i + 1 + 1 + 1 + 1 + 1 + 1 + 1 : Nat) : Int)⟩
set_option maxHeartbeats 4000000 in
theorem markInstanceS_ok (l : List TInstance) (k : Nat) (h : k + 8 * l.length ≤ 1000000000000000) : F_laws_markInstanceS_mob l k = some (((k + 8 * l.length : Nat) : Int), (List.range l.length).map (mInstance k)) := by
  unfold F_laws_markInstanceS_mob
  refine Eq.trans (bind_of (while_from (r := (((k + 8 * l.length : Nat) : Int), (List.range l.length).map (mInstance k))) (fun i => (((k + 8 * i : Nat) : Int), (i : Int), markd (mInstance k) l i)) l.length (by simp [markd_zero]) (fun i hi => ?_) ?_)) ?_
  · have hml : (markd (mInstance k) l i).length = l.length := markd_len _ _ _ (by omega)
    have hmi : i < (markd (mInstance k) l i).length := by rw [hml]; exact hi
    have hin : std.inR (i : Int) l.length := inRl hi
    have hlt : std.lt (i : Int) (std.ofN l.length) = true := ltl_t hi
    have a1 : std.add .i64 ((k + 8 * i : Nat) : Int) 1 = ((k + 8 * i + 1 : Nat) : Int) := inc_nat (by omega)
    have a2 : std.add .i64 ((k + 8 * i + 1 : Nat) : Int) 1 = ((k + 8 * i + 1 + 1 : Nat) : Int) := inc_nat (by omega)
    have a3 : std.add .i64 ((k + 8 * i + 1 + 1 : Nat) : Int) 1 = ((k + 8 * i + 1 + 1 + 1 : Nat) : Int) := inc_nat (by omega)
    have a4 : std.add .i64 ((k + 8 * i + 1 + 1 + 1 : Nat) : Int) 1 = ((k + 8 * i + 1 + 1 + 1 + 1 : Nat) : Int) := inc_nat (by omega)
    have a5 : std.add .i64 ((k + 8 * i + 1 + 1 + 1 + 1 : Nat) : Int) 1 = ((k + 8 * i + 1 + 1 + 1 + 1 + 1 : Nat) : Int) := inc_nat (by omega)
    have a6 : std.add .i64 ((k + 8 * i + 1 + 1 + 1 + 1 + 1 : Nat) : Int) 1 = ((k + 8 * i + 1 + 1 + 1 + 1 + 1 + 1 : Nat) : Int) := inc_nat (by omega)
    have a7 : std.add .i64 ((k + 8 * i + 1 + 1 + 1 + 1 + 1 + 1 : Nat) : Int) 1 = ((k + 8 * i + 1 + 1 + 1 + 1 + 1 + 1 + 1 : Nat) : Int) := inc_nat (by omega)
    have a8 : std.add .i64 ((k + 8 * i + 1 + 1 + 1 + 1 + 1 + 1 + 1 : Nat) : Int) 1 = ((k + 8 * i + 1 + 1 + 1 + 1 + 1 + 1 + 1 + 1 : Nat) : Int) := inc_nat (by omega)
    have b1 : std.add .i64 (i : Int) 1 = ((i + 1 : Nat) : Int) := inc_nat (by omega)
    simp only [L_laws_markInstanceS_mob_x4, letO_eq, s_toNn, s_nadd, Nat.zero_add, len_eq, List.length_set, hml, hlt, br_t, req_of hin, req_reflM, List.set_set, gd_set_selfM _ _ _ hmi, a1, a2, a3, a4, a5, a6, a7, a8, b1]
    try simp only [req_true]
    rw [← markd_set (mInstance k) l i hi]
    rfl
  · simp only [L_laws_markInstanceS_mob_x4, letO_eq]
    rw [ltl_f, br_f, markd_full]
  · simp only [letO_eq]
    rw [req_of (by simp [len_eq])]
/-- how many numbers the marks of a cell take -/
def wtC (c : TCell) : Nat := 1 + 5 * c.fShapes.length + 4 * c.fLabels.length + 8 * c.fInstances.length
noncomputable def mCell (c : TCell) (K : Nat) : TCell := ⟨mkT K, (List.range c.fShapes.length).map (mShape (K + 1)), (List.range c.fLabels.length).map (mLabel (K + 1 + 5 * c.fShapes.length)), (List.range c.fInstances.length).map (mInstance (K + 1 + 5 * c.fShapes.length + 4 * c.fLabels.length))⟩
def offC (l : List TCell) : Nat → Nat
  | 0 => 0
  | i + 1 => offC l i + wtC (gd l i)
theorem wtC_le {c : TCell} (h : SmallC c) : wtC c ≤ 20000000 := by
  have h1 := h.shapes
  have h2 := h.labels
  have h3 := h.insts
  unfold wtC; omega
theorem offC_le {l : List TCell} (hc : ∀ c ∈ l, SmallC c) : ∀ i, i ≤ l.length → offC l i ≤ i * 20000000
  | 0, _ => by simp [offC]
  | i + 1, h => by
    have h1 := offC_le hc i (by omega)
    have h2 := wtC_le (hc _ (gd_mem (show i < l.length by omega)))
    show offC l i + wtC (gd l i) ≤ _
    omega
noncomputable def mC (l : List TCell) (k i : Nat) : TCell := mCell (gd l i) (k + offC l i)
theorem markd_gdM {α : Type} [Inhabited α] (f : Nat → α) (a : List α) (i : Nat) (h : i < a.length) : gd (markd f a i) i = gd a i := by
  unfold gd markd
  rw [List.getD_eq_getElem?_getD, List.getD_eq_getElem?_getD, List.getElem?_append_right (by simp)]
  simp
theorem markCellS_ok (l : List TCell) (k : Nat) (hl : l.length ≤ 1048576) (hc : ∀ c ∈ l, SmallC c) (hk : k ≤ 100000000000000) : F_laws_markCellS_mob l k = some (((k + offC l l.length : Nat) : Int), (List.range l.length).map (mC l k)) := by
  unfold F_laws_markCellS_mob
  refine Eq.trans (bind_of (while_from (r := (((k + offC l l.length : Nat) : Int), (List.range l.length).map (mC l k))) (fun i => (((k + offC l i : Nat) : Int), (i : Int), markd (mC l k) l i)) l.length (by simp [markd_zero, offC]) (fun i hi => ?_) ?_)) ?_
  · have ho := offC_le hc i (by omega)
    have h2 := wtC_le (hc _ (gd_mem hi))
    obtain ⟨c, hcd⟩ : ∃ c, c = gd l i := ⟨_, rfl⟩
    obtain ⟨K, hK⟩ : ∃ K, K = k + offC l i := ⟨_, rfl⟩
    rw [← hcd] at h2
    unfold wtC at h2
    have hml : (markd (mC l k) l i).length = l.length := markd_len _ _ _ (by omega)
    have hmi : i < (markd (mC l k) l i).length := by rw [hml]; exact hi
    have hin : std.inR (i : Int) l.length := inRl hi
    have hlt : std.lt (i : Int) (std.ofN l.length) = true := ltl_t hi
    have hg : gd (markd (mC l k) l i) i = c := by rw [markd_gdM _ _ _ hi, hcd]
    have e1 : offC l (i + 1) = offC l i + wtC c := by rw [hcd]; rfl
    have hS := markShapeS_ok c.fShapes (K + 1) (by omega)
    have hL := markLabelS_ok c.fLabels (K + 1 + 5 * c.fShapes.length) (by omega)
    have hI := markInstanceS_ok c.fInstances (K + 1 + 5 * c.fShapes.length + 4 * c.fLabels.length) (by omega)
    have a1 : std.add .i64 ((K : Nat) : Int) 1 = ((K + 1 : Nat) : Int) := inc_nat (by omega)
    have b1 : std.add .i64 (i : Int) 1 = ((i + 1 : Nat) : Int) := inc_nat (by omega)
    have hT := markText_ok K (by omega)
    rw [← hK]
    simp only [L_laws_markCellS_mob_x4, letO_eq, s_toNn, s_nadd, Nat.zero_add, len_eq, List.length_set, hml, hlt, br_t, hT, Option.bind_some, req_of hin, req_reflM, req_true, List.set_set, gd_set_selfM _ _ _ hmi, hg, a1, hS, hL, hI, List.length_map, List.length_range, b1]
    rw [e1, ← markd_set (mC l k) l i hi]
    have e2 : mC l k i = mCell c K := by unfold mC; rw [← hcd, ← hK]
    have e3 : K + 1 + 5 * c.fShapes.length + 4 * c.fLabels.length + 8 * c.fInstances.length = k + (offC l i + wtC c) := by unfold wtC; omega
    rw [e2, e3]
    rfl
  · simp only [L_laws_markCellS_mob_x4, letO_eq]
    rw [ltl_f, br_f, markd_full]
  · simp only [letO_eq]
    rw [req_of (by simp [len_eq])]
theorem markLibrary_ok (a : TLibrary) (k : Nat) (h : SmallL a) (hk : k ≤ 100000000000000) : F_laws_markLibrary_mob a k = some (((k + offC a.fCells a.fCells.length : Nat) : Int), (List.range a.fCells.length).map (mC a.fCells k)) := by
  unfold F_laws_markLibrary_mob
  rw [markCellS_ok _ _ h.cells h.cell hk, Option.bind_some, req_of (by simp [len_eq]), req_of (by simp [len_eq])]
/- lists of numbers: equality with itself, what the marks write -/
theorem eqInt64S_ok (l : List Int) (h : l.length ≤ 10000000) : F_laws_eqInt64S l l = some true := by
  unfold F_laws_eqInt64S
  rw [notEq (eq_true' rfl), br_f]
  refine Eq.trans (bind_of (while_eq (r := .inr ()) l.length (fun i hi => ?_) ?_)) rfl
  · simp only [L_laws_eqInt64S_x2, letO_eq, s_toNn, notEq (eq_true' rfl)]
    rw [ltl_t hi, br_t, req_of (inRl hi), req_of (inRl hi), inc_nat (by omega)]; rfl
  · simp only [L_laws_eqInt64S_x2, letO_eq]
    rw [ltl_f]; rfl
def mInt (k : Nat) (n : Nat) : List Int := (List.range n).map fun i => ((k + i : Nat) : Int)
theorem markInt64S_ok (l : List Int) (k : Nat) (h : k + l.length ≤ 1000000000000000) : F_laws_markInt64S_mob l k = some (((k + l.length : Nat) : Int), mInt k l.length) := by
  unfold F_laws_markInt64S_mob mInt
  refine Eq.trans (bind_of (while_from (r := (((k + l.length : Nat) : Int), (List.range l.length).map fun i => ((k + i : Nat) : Int))) (fun i => (((k + i : Nat) : Int), (i : Int), markd (fun i => ((k + i : Nat) : Int)) l i)) l.length (by simp [markd_zero]) (fun i hi => ?_) ?_)) ?_
  · simp only [L_laws_markInt64S_mob_x4, letO_eq, s_toNn, s_nadd, Nat.zero_add]
    rw [ltl_t hi, br_t, req_of (inRl hi), req_of (by rw [len_eq, len_eq, markd_len _ _ _ (by omega)]), inc_nat (by omega), inc_nat (by omega), markd_set _ _ _ hi]
    simp [Nat.add_assoc]
  · simp only [L_laws_markInt64S_mob_x4, letO_eq]
    rw [ltl_f, br_f, markd_full]
  · simp only [letO_eq]
    rw [req_of (by simp [len_eq])]
theorem heldInt64S_ok (n k : Nat) (h : k + n ≤ 1000000000000000) : F_laws_heldInt64S (mInt k n) k = some ((k + n : Nat) : Int) := by
  unfold F_laws_heldInt64S mInt
  refine Eq.trans (bind_of (while_from (r := .inr ((k + n : Nat) : Int)) (fun i => (((k + i : Nat) : Int), (i : Int))) n rfl (fun i hi => ?_) ?_)) rfl
  · simp only [L_laws_heldInt64S_x3, letO_eq, s_toNn]
    rw [lt_true (by rw [s_ofN, len_eq]; simp; omega), br_t, req_of (inRl (by simpa using hi)), range_gd _ _ _ hi, eq_true' rfl, inc_nat (by omega), inc_nat (by omega)]
    rfl
  · simp only [L_laws_heldInt64S_x3, letO_eq]
    rw [lt_false (by rw [s_ofN, len_eq]; simp), br_f]
/- InstancesTouching -/
noncomputable def touchB (a : TLibrary) (n : Nat) (wd : TRect) (i : Nat) : Bool :=
  decide (boxV a (gd (gd a.fCells n).fInstances i).fCell.toNat ≠ []) && ovlG (bxs ((elsOf (gd (gd a.fCells n).fInstances i)).map fun t => mvR t (bxs (boxV a (gd (gd a.fCells n).fInstances i).fCell.toNat)))) wd
noncomputable def touchR (a : TLibrary) (k : Int) (wd : TRect) : List Int := if hasC a k && okRect wd then (List.range (gd a.fCells k.toNat).fInstances.length).flatMap (fun i => if touchB a k.toNat wd i then [(i : Int)] else []) else []
theorem fm_bool_len (n : Nat) (p : Nat → Bool) : ((List.range n).flatMap (fun i => if p i then [(i : Int)] else [])).length ≤ n := by
  have := fm_len_le (List.range n) (fun i => if p i then [(i : Int)] else []) 1 (fun i _ => by split <;> simp)
  rw [List.length_range] at this
  omega
theorem touch_cases {a : TLibrary} (hv : okLib a = true) {n : Nat} (hn : n < a.fCells.length) {i : Nat} (hi : i < (gd a.fCells n).fInstances.length) : instBoxR a (n : Int) (i : Int) = if boxV a (gd (gd a.fCells n).fInstances i).fCell.toNat = [] then (zR, false) else (bxs ((elsOf (gd (gd a.fCells n).fInstances i)).map fun t => mvR t (bxs (boxV a (gd (gd a.fCells n).fInstances i).fCell.toNat))), true) := by
  unfold instBoxR hasC
  have h1 : wB (n : Int) 0 ((a.fCells.length : Int) - 1) = true := (wB_iffG _ _ _).2 (by omega)
  have h2 : wB (i : Int) 0 (((gd a.fCells n).fInstances.length : Int) - 1) = true := (wB_iffG _ _ _).2 (by omega)
  rw [hv, h1, show ((n : Int)).toNat = n from rfl, h2]
  rfl
theorem spec_Touching_ok (a : TLibrary) (k : Int) (wd : TRect) (h : SmallL a) : F_spec_InstancesTouching a k wd = some (touchR a k wd) := by
  unfold F_spec_InstancesTouching touchR
  simp only [letO_eq]
  rw [spec_l09Has_ok a k h, Option.bind_some, spec_l09Rect_ok, Option.bind_some]
  cases hh : hasC a k with
  | false => unfold hasC at hh; rw [hh]; rfl
  | true =>
    obtain ⟨hv, n, rfl, hn⟩ := hasC_iff hh
    unfold hasC at hh
    rw [hh, Bool.not_true, br_f]
    cases hr : okRect wd with
    | false => rfl
    | true =>
      have i8 := (vc_of hv hn).insts
      have hb := fm_bool_len (gd a.fCells n).fInstances.length (touchB a n wd)
      rw [Bool.not_true, Option.bind_some, br_f]
      have w := while_fm (fun i => if touchB a n wd i then [(i : Int)] else []) (gd a.fCells n).fInstances.length [] 1000 (st := L_spec_InstancesTouching_x17 a (n : Int) wd) (by rw [List.length_nil]; omega) (fun i hi v hvl => ?_) (fun v => ?_)
      · rw [w]
        simp only [Option.bind_some, Bool.and_self, if_true, List.nil_append, show ((n : Int)).toNat = n from rfl]
      · simp only [L_spec_InstancesTouching_x17, letO_eq, s_toNn]
        rw [req_of (inRl hn), ltl_t hi, br_t, spec_InstanceBox_ok a _ _ h, Option.bind_some, touch_cases hv hn hi, inc_nat (by omega)]
        unfold touchB at hvl ⊢
        by_cases hb : boxV a (gd (gd a.fCells n).fInstances i).fCell.toNat = []
        · rw [if_pos hb, decide_eq_false (fun h => h hb)]
          simp [br]
        · rw [if_neg hb, decide_eq_true hb, br_t, spec_l11Overlap_okG, Option.bind_some, Option.bind_some, Bool.true_and]
          cases ho : ovlG (bxs ((elsOf (gd (gd a.fCells n).fInstances i)).map fun t => mvR t (bxs (boxV a (gd (gd a.fCells n).fInstances i).fCell.toNat)))) wd with
          | false => simp [br]
          | true =>
            rw [decide_eq_true hb, Bool.true_and, ho] at hvl
            simp only [if_true, List.length_singleton] at hvl
            rw [br_t, req_of (roomG (by rw [s_nadd, len_eq, len_eq]; simp; omega) (by omega))]
            simp
      · simp only [L_spec_InstancesTouching_x17, letO_eq, s_toNn]
        rw [req_of (inRl hn), ltl_f, br_f]
theorem inst_NB {a : TLibrary} (hv : okLib a = true) {n : Nat} (hn : n < a.fCells.length) {x : TInstance} (hx : VI x n) {b : TRect} {m : Nat} (hm : x.fCell = (m : Int)) (hmn : m < n) (hb : boxV a m = [b]) : NB (bxs ((elsOf x).map fun t => mvR t b)) 5000 := by
  have h8 := (okLib_leG hv).2
  have hN := box_NB a hv m (by omega) hb
  refine bxs_NB (by simpa using elsOf_ne hx) (fun r hr => ?_)
  obtain ⟨t, ht, rfl⟩ := List.mem_map.1 hr
  exact (mvR_NB (S := 320) hN (elP_bd hx ht).1 (by omega) (by omega)).mono (by omega)
theorem impl_Touching_ok (a : TLibrary) (k : Int) (wd : TRect) (h : SmallL a) : F_impl_InstancesTouching a k wd = some (touchR a k wd) := by
  unfold F_impl_InstancesTouching touchR
  simp only [letO_eq]
  rw [impl_hasCell_ok a k h, Option.bind_some, impl_IsValidRect_ok, Option.bind_some]
  cases hh : hasC a k with
  | false => unfold hasC at hh; rw [hh]; rfl
  | true =>
    obtain ⟨hv, n, rfl, hn⟩ := hasC_iff hh
    unfold hasC at hh
    rw [hh, Bool.not_true, br_f]
    cases hr : okRect wd with
    | false => rfl
    | true =>
      have hc := vc_of hv hn
      have i8 := hc.insts
      have hbl := fm_bool_len (gd a.fCells n).fInstances.length (touchB a n wd)
      rw [Bool.not_true, Option.bind_some, br_f, impl_contentBoxes_ok a hv, Option.bind_some, req_of (inRl hn)]
      have w : whileP (L_impl_InstancesTouching_x21 a (n : Int) wd (boxesN a.fCells a.fCells.length)) (0, boxesN a.fCells a.fCells.length, ([] : List Int)) = some ((List.range (gd a.fCells n).fInstances.length).flatMap (fun i => if touchB a n wd i then [(i : Int)] else [])) := by
        refine while_from (fun i => ((i : Int), boxesN a.fCells a.fCells.length, (List.range i).flatMap (fun i => if touchB a n wd i then [(i : Int)] else []))) (gd a.fCells n).fInstances.length rfl (fun i hi => ?_) ?_
        · have hx := hc.inst _ (gd_mem hi)
          obtain ⟨m, hm, hmn⟩ := hx.cell
          have hli := fm_bool_len i (touchB a n wd)
          have hin : std.inR (m : Int) (boxesN a.fCells a.fCells.length).length := inRn (by rw [boxesN_len]; omega)
          simp only [L_impl_InstancesTouching_x21, letO_eq, s_toNn, s_nadd, Nat.zero_add, hm, len_eq]
          rw [show std.lt (i : Int) (std.ofN (gd a.fCells n).fInstances.length) = true from ltl_t hi, br_t, req_of (show std.inR (i : Int) (gd a.fCells n).fInstances.length from inRl hi), req_of hin, Option.bind_some, req_of hin, show gd (boxesN a.fCells a.fCells.length) m = boxV a m from rfl, inc_nat (by omega), List.range_succ, List.flatMap_append]
          have eT : touchB a n wd i = (decide (boxV a m ≠ []) && ovlG (bxs ((elsOf (gd (gd a.fCells n).fInstances i)).map fun t => mvR t (bxs (boxV a m)))) wd) := by unfold touchB; rw [hm, Int.toNat_natCast]
          rcases boxV_cases a (show m < a.fCells.length by omega) with h0 | ⟨b, h0⟩
          · rw [h0, show std.lt 0 (std.ofN ([] : List TRect).length) = false from rfl, br_f]
            rw [h0] at eT
            simp [br, eT]
          · have hNB := inst_NB hv hn hx hm hmn h0
            rw [h0, show std.lt 0 (std.ofN ([b] : List TRect).length) = true from rfl, br_t, req_of (show std.inR 0 ([b] : List TRect).length from inRn (by simp)), show gd [b] (std.toN 0) = b from rfl, impl_instanceBox_ok _ _ hx, Option.bind_some, anywhere_ok hNB (okRect_NB hr), Option.bind_some, Option.bind_some]
            rw [h0] at eT
            simp only [ne_eq, List.cons_ne_nil, not_false_eq_true, decide_true, Bool.true_and, show bxs [b] = b from rfl] at eT
            rw [← eT]
            cases ht : touchB a n wd i with
            | false => simp [br, ht]
            | true =>
              simp only
              rw [br_t, req_of (roomG (by simp only [List.length_singleton]; omega) (by omega))]
              simp [ht]
        · simp only [L_impl_InstancesTouching_x21, letO_eq, s_toNn]
          rw [ltl_f, br_f]
      rw [w]
      simp only [Option.bind_some, Bool.and_self, if_true, show ((n : Int)).toNat = n from rfl]
theorem touchR_len (a : TLibrary) (k : Int) (wd : TRect) (h : SmallL a) : (touchR a k wd).length ≤ 100000000 := by
  unfold touchR
  split
  · rename_i hh
    rw [Bool.and_eq_true] at hh
    obtain ⟨hv, n, rfl, hn⟩ := hasC_iff hh.1
    have := fm_bool_len (gd a.fCells n).fInstances.length (touchB a n wd)
    have i8 := (vc_of hv hn).insts
    rw [show ((n : Int)).toNat = n from rfl]
    omega
  · simp
theorem touchR_len' (a : TLibrary) (k : Int) (wd : TRect) (h : SmallL a) : (touchR a k wd).length ≤ 10 := by
  unfold touchR
  split
  · rename_i hh
    rw [Bool.and_eq_true] at hh
    obtain ⟨hv, n, rfl, hn⟩ := hasC_iff hh.1
    have := fm_bool_len (gd a.fCells n).fInstances.length (touchB a n wd)
    have i8 := (vc_of hv hn).insts
    rw [show ((n : Int)).toNat = n from rfl]
    omega
  · simp
theorem lawW_InstancesTouching (a : TLibrary) (k : Int) (wd : TRect) (w : wfLibrary a) (_ : (Lit.int .i64 k).wf = true) (_ : wfRect wd) : F_laws_FnExactInstancesTouching a k wd = some true := by
  unfold F_laws_FnExactInstancesTouching
  obtain ⟨y, hy, hs⟩ := laws_szLibrary_ok a (wfLb_of w)
  rw [hy, Option.bind_some, br_bool, s_lt]
  by_cases h0 : y < 0
  · rw [if_pos (by simpa using h0)]
  · have h := hs (by omega)
    have hlen := touchR_len' a k wd h
    have hr : F_laws_toRect wd = some wd := rfl
    have m1 := markLibrary_ok a 1 h (by omega)
    have m2 := markInt64S_ok (touchR a k wd) 1 (by omega)
    have m3 := heldInt64S_ok (touchR a k wd).length 1 (by omega)
    have e1 : ((1 : Nat) : Int) = 1 := rfl
    rw [e1] at m1 m2 m3
    have hml : (mInt 1 (touchR a k wd).length).length = (touchR a k wd).length := by simp [mInt]
    rw [if_neg (by simpa using h0)]
    simp only [laws_toLibrary_ok a h, hr, Option.bind_some, spec_Touching_ok a k wd h, impl_Touching_ok a k wd h, laws_eqLibrary_ok a h, eqInt64S_ok _ (show (touchR a k wd).length ≤ 10000000 by omega), Bool.not_true, br_f, m1, m2, m3, letO_eq]
    rw [req_of (by simp [len_eq]), lt_false (by omega), br_f, Option.bind_some, br_f, req_of (by rw [len_eq, len_eq, hml]), req_of (by rw [len_eq, len_eq, hml]), lt_false (by omega), br_f, eq_true' rfl]
    simp only [s_not, Bool.not_true, br_f]
    rw [req_of (by rw [len_eq, len_eq, hml])]
end Go.Proofs.Ytmdlnjeppemipaa.AM
