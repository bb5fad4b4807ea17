/-
  What the functions that the law reaches compute, and that they do. No condition.
-/
import Derived.Test.YtmdlnjeppemipaaGreatAmPZ
import Derived.Test.YtmdlnjeppemipaaGreatAmP
import Derived.Test.YtmdlnjeppemipaaGreatAmPU
namespace Go.Proofs.YtmdlnjeppemipaaGreat.AM
open Go Go.Proofs Go.RowKit
set_option linter.unusedVariables false
set_option linter.unusedSimpArgs false
set_option maxRecDepth 100000

/- what the marks write -/
theorem gd_set_selfM {α : Type} [Inhabited α] (l : List α) (i : Nat) (x : α) (h : i < l.length) : gd (l.set i x) i = x := by
  rw [gd_lt (by simpa using h)]; simp
theorem req_reflM {α β : Type} (x : α) (k : Option β) : req (x = x) k = k := req_of rfl
theorem markText_ex (n : Nat) (h : n ≤ 1000000000000000) : ∃ s, F_laws_markText (n : Int) = some s ∧ s.size ≤ 20 := by
  unfold F_laws_markText
  by_cases h0 : n = 0
  · subst h0
    exact ⟨_, rfl, by decide⟩
  · rw [le_false (by omega), br_f]
    obtain ⟨r, h1, h2⟩ := while_ex (step := L_laws_markText_x3) (x0 := ((n : Int), ByteArray.mk #[])) (fun x => ∃ v : Nat, x.1 = (v : Int) ∧ v * 10 ^ x.2.size ≤ n ∧ x.2.size ≤ 17) (fun r => r.size ≤ 17) (fun x => x.1.toNat) ⟨n, rfl, by simp [ByteArray.size], by simp [ByteArray.size]⟩ (by
      rintro ⟨x, s⟩ ⟨v, hv, hle, hs⟩
      simp only at hv hle hs
      subst hv
      simp only [L_laws_markText_x3, letO_eq]
      by_cases hp : 0 < v
      · have hs15 : s.size ≤ 15 := by
          rcases Nat.lt_or_ge s.size 16 with h | h
          · omega
          · have h3 : 10 ^ 16 ≤ 10 ^ s.size := Nat.pow_le_pow_right (by omega) h
            have h4 : 1 * 10 ^ s.size ≤ v * 10 ^ s.size := Nat.mul_le_mul_right _ hp
            have h5 : 10 ^ 16 = 10000000000000000 := by decide
            omega
        have nz : std.nz 10 := by rw [s_nz]; decide
        have hq : std.quo .i64 (v : Int) 10 = ((v / 10 : Nat) : Int) := by
          show IntKind.i64.wrap ((v : Int).tdiv 10) = _
          have e : (v : Int).tdiv 10 = ((v / 10 : Nat) : Int) := rfl
          have hv15 : v ≤ n := by
            have h4 : v * 1 ≤ v * 10 ^ s.size := Nat.mul_le_mul_left _ (Nat.pos_of_ne_zero (by simp))
            omega
          rw [e, wrap_id (by omega) (by omega)]
        have hsz : (std.scat (std.ofBytes (len [std.conv .u8 (std.add .i64 48 (std.rem (v : Int) 10))]) fun i => gd [std.conv .u8 (std.add .i64 48 (std.rem (v : Int) 10))] (0 + i)) s).size = s.size + 1 := by
          rw [scat_size]
          have := ofL_size [std.conv .u8 (std.add .i64 48 (std.rem (v : Int) 10))]
          unfold ofL at this
          rw [this]; simp; omega
        have hl1 : std.slen (std.ofBytes (len [std.conv .u8 (std.add .i64 48 (std.rem (v : Int) 10))]) fun i => gd [std.conv .u8 (std.add .i64 48 (std.rem (v : Int) 10))] (0 + i)) = 1 := by
          have := ofL_len [std.conv .u8 (std.add .i64 48 (std.rem (v : Int) 10))]
          unfold ofL at this
          rw [this]; rfl
        rw [lt_true (by omega), br_t, req_of nz, hl1, req_of (room1 (by rw [s_slen]; omega)), req_of nz, hq]
        refine .inl ⟨_, rfl, ⟨v / 10, rfl, ?_, by simp only; rw [hsz]; omega⟩, by simp only [Int.toNat_natCast]; omega⟩
        simp only
        rw [hsz, Nat.pow_succ]
        have h6 : v / 10 * 10 ≤ v := by omega
        have h7 : v / 10 * (10 ^ s.size * 10) = (v / 10 * 10) * 10 ^ s.size := by rw [Nat.mul_comm (10 ^ s.size) 10, Nat.mul_assoc]
        rw [h7]
        exact Nat.le_trans (Nat.mul_le_mul_right _ h6) hle
      · rw [lt_false (by omega), br_f]
        exact .inr ⟨_, rfl, hs⟩)
    rw [h1]
    simp only [Option.bind_some, letO_eq]
    have h1' : (ByteArray.mk #[109]).size = 1 := rfl
    rw [req_of (room1 (by rw [s_slen, s_slen, h1']; omega))]
    exact ⟨_, rfl, by rw [scat_size, h1']; omega⟩
noncomputable def mkT (n : Nat) : ByteArray := (F_laws_markText (n : Int)).getD (ByteArray.mk #[])
theorem markText_ok (n : Nat) (h : n ≤ 1000000000000000) : F_laws_markText (n : Int) = some (mkT n) := by
  obtain ⟨s, hs, _⟩ := markText_ex n h
  unfold mkT
  rw [hs]; rfl
def mShape (k i : Nat) : TShape := ⟨((k + 5 * i : Nat) : Int), ⟨((k + 5 * i + 1 : Nat) : Int), ((k + 5 * i + 1 + 1 : Nat) : Int), ((k + 5 * i + 1 + 1 + 1 : Nat) : Int), ((k + 5 * i + 1 + 1 + 1 + 1 : Nat) : Int)⟩⟩
set_option maxHeartbeats 4000000 in
theorem markShapeS_ok (l : List TShape) (k : Nat) (h : k + 5 * l.length ≤ 1000000000000000) : F_laws_markShapeS_mob l k = some (((k + 5 * l.length : Nat) : Int), (List.range l.length).map (mShape k)) := by
  unfold F_laws_markShapeS_mob
  refine Eq.trans (bind_of (while_from (r := (((k + 5 * l.length : Nat) : Int), (List.range l.length).map (mShape k))) (fun i => (((k + 5 * i : Nat) : Int), (i : Int), markd (mShape k) l i)) l.length (by simp [markd_zero]) (fun i hi => ?_) ?_)) ?_
  · have hml : (markd (mShape k) l i).length = l.length := markd_len _ _ _ (by omega)
    have hmi : i < (markd (mShape k) l i).length := by rw [hml]; exact hi
    have hin : std.inR (i : Int) l.length := inRl hi
    have hlt : std.lt (i : Int) (std.ofN l.length) = true := ltl_t hi
    have a1 : std.add .i64 ((k + 5 * i : Nat) : Int) 1 = ((k + 5 * i + 1 : Nat) : Int) := inc_nat (by omega)
    have a2 : std.add .i64 ((k + 5 * i + 1 : Nat) : Int) 1 = ((k + 5 * i + 1 + 1 : Nat) : Int) := inc_nat (by omega)
    have a3 : std.add .i64 ((k + 5 * i + 1 + 1 : Nat) : Int) 1 = ((k + 5 * i + 1 + 1 + 1 : Nat) : Int) := inc_nat (by omega)
    have a4 : std.add .i64 ((k + 5 * i + 1 + 1 + 1 : Nat) : Int) 1 = ((k + 5 * i + 1 + 1 + 1 + 1 : Nat) : Int) := inc_nat (by omega)
    have a5 : std.add .i64 ((k + 5 * i + 1 + 1 + 1 + 1 : Nat) : Int) 1 = ((k + 5 * i + 1 + 1 + 1 + 1 + 1 : Nat) : Int) := inc_nat (by omega)
    have b1 : std.add .i64 (i : Int) 1 = ((i + 1 : Nat) : Int) := inc_nat (by omega)
    simp only [L_laws_markShapeS_mob_x4, letO_eq, s_toNn, s_nadd, Nat.zero_add, len_eq, List.length_set, hml, hlt, br_t, req_of hin, req_reflM, List.set_set, gd_set_selfM _ _ _ hmi, a1, a2, a3, a4, a5, b1]
    try simp only [req_true]
    rw [← markd_set (mShape k) l i hi]
    rfl
  · simp only [L_laws_markShapeS_mob_x4, letO_eq]
    rw [ltl_f, br_f, markd_full]
  · simp only [letO_eq]
    rw [req_of (by simp [len_eq])]
noncomputable def mLabel (k i : Nat) : TLabel := ⟨((k + 4 * i : Nat) : Int), ⟨((k + 4 * i + 1 : Nat) : Int), ((k + 4 * i + 1 + 1 : Nat) : Int)⟩, mkT (k + 4 * i + 1 + 1 + 1)⟩
set_option maxHeartbeats 4000000 in
theorem markLabelS_ok (l : List TLabel) (k : Nat) (h : k + 4 * l.length ≤ 1000000000000000) : F_laws_markLabelS_mob l k = some (((k + 4 * l.length : Nat) : Int), (List.range l.length).map (mLabel k)) := by
  unfold F_laws_markLabelS_mob
  refine Eq.trans (bind_of (while_from (r := (((k + 4 * l.length : Nat) : Int), (List.range l.length).map (mLabel k))) (fun i => (((k + 4 * i : Nat) : Int), (i : Int), markd (mLabel k) l i)) l.length (by simp [markd_zero]) (fun i hi => ?_) ?_)) ?_
  · have hml : (markd (mLabel k) l i).length = l.length := markd_len _ _ _ (by omega)
    have hmi : i < (markd (mLabel k) l i).length := by rw [hml]; exact hi
    have hin : std.inR (i : Int) l.length := inRl hi
    have hlt : std.lt (i : Int) (std.ofN l.length) = true := ltl_t hi
    have a1 : std.add .i64 ((k + 4 * i : Nat) : Int) 1 = ((k + 4 * i + 1 : Nat) : Int) := inc_nat (by omega)
    have a2 : std.add .i64 ((k + 4 * i + 1 : Nat) : Int) 1 = ((k + 4 * i + 1 + 1 : Nat) : Int) := inc_nat (by omega)
    have a3 : std.add .i64 ((k + 4 * i + 1 + 1 : Nat) : Int) 1 = ((k + 4 * i + 1 + 1 + 1 : Nat) : Int) := inc_nat (by omega)
    have a4 : std.add .i64 ((k + 4 * i + 1 + 1 + 1 : Nat) : Int) 1 = ((k + 4 * i + 1 + 1 + 1 + 1 : Nat) : Int) := inc_nat (by omega)
    have b1 : std.add .i64 (i : Int) 1 = ((i + 1 : Nat) : Int) := inc_nat (by omega)
    have hT : F_laws_markText ((k + 4 * i + 1 + 1 + 1 : Nat) : Int) = some (mkT (k + 4 * i + 1 + 1 + 1)) := markText_ok _ (by omega)
    simp only [L_laws_markLabelS_mob_x4, letO_eq, s_toNn, s_nadd, Nat.zero_add, len_eq, List.length_set, hml, hlt, br_t, req_of hin, req_reflM, List.set_set, gd_set_selfM _ _ _ hmi, a1, a2, a3, a4, b1, hT, Option.bind_some]
    try simp only [req_true]
    rw [← markd_set (mLabel k) l i hi]
    rfl
  · simp only [L_laws_markLabelS_mob_x4, letO_eq]
    rw [ltl_f, br_f, markd_full]
  · simp only [letO_eq]
    rw [req_of (by simp [len_eq])]
def mInstance (k i : Nat) : TInstance := ⟨((k + 8 * i : Nat) : Int), ⟨((k + 8 * i + 1 : Nat) : Int), ((k + 8 * i + 1 + 1 : Nat) : Int), ((k + 8 * i + 1 + 1 + 1 : Nat) : Int)⟩, ((k + 8 * i + 1 + 1 + 1 + 1 : Nat) : Int), ((k + 8 * i + 1 + 1 + 1 + 1 + 1 : Nat) : Int), ((k + 8 * i + 1 + 1 + 1 + 1 + 1 + 1 : Nat) : Int), ((k + 8 * i + 1 + 1 + 1 + 1 + 1 + 1 + 1 : Nat) : Int)⟩
set_option maxHeartbeats 4000000 in
theorem markInstanceS_ok (l : List TInstance) (k : Nat) (h : k + 8 * l.length ≤ 1000000000000000) : F_laws_markInstanceS_mob l k = some (((k + 8 * l.length : Nat) : Int), (List.range l.length).map (mInstance k)) := by
  unfold F_laws_markInstanceS_mob
  refine Eq.trans (bind_of (while_from (r := (((k + 8 * l.length : Nat) : Int), (List.range l.length).map (mInstance k))) (fun i => (((k + 8 * i : Nat) : Int), (i : Int), markd (mInstance k) l i)) l.length (by simp [markd_zero]) (fun i hi => ?_) ?_)) ?_
  · have hml : (markd (mInstance k) l i).length = l.length := markd_len _ _ _ (by omega)
    have hmi : i < (markd (mInstance k) l i).length := by rw [hml]; exact hi
    have hin : std.inR (i : Int) l.length := inRl hi
    have hlt : std.lt (i : Int) (std.ofN l.length) = true := ltl_t hi
    have a1 : std.add .i64 ((k + 8 * i : Nat) : Int) 1 = ((k + 8 * i + 1 : Nat) : Int) := inc_nat (by omega)
    have a2 : std.add .i64 ((k + 8 * i + 1 : Nat) : Int) 1 = ((k + 8 * i + 1 + 1 : Nat) : Int) := inc_nat (by omega)
    have a3 : std.add .i64 ((k + 8 * i + 1 + 1 : Nat) : Int) 1 = ((k + 8 * i + 1 + 1 + 1 : Nat) : Int) := inc_nat (by omega)
    have a4 : std.add .i64 ((k + 8 * i + 1 + 1 + 1 : Nat) : Int) 1 = ((k + 8 * i + 1 + 1 + 1 + 1 : Nat) : Int) := inc_nat (by omega)
    have a5 : std.add .i64 ((k + 8 * i + 1 + 1 + 1 + 1 : Nat) : Int) 1 = ((k + 8 * i + 1 + 1 + 1 + 1 + 1 : Nat) : Int) := inc_nat (by omega)
    have a6 : std.add .i64 ((k + 8 * i + 1 + 1 + 1 + 1 + 1 : Nat) : Int) 1 = ((k + 8 * i + 1 + 1 + 1 + 1 + 1 + 1 : Nat) : Int) := inc_nat (by omega)
    have a7 : std.add .i64 ((k + 8 * i + 1 + 1 + 1 + 1 + 1 + 1 : Nat) : Int) 1 = ((k + 8 * i + 1 + 1 + 1 + 1 + 1 + 1 + 1 : Nat) : Int) := inc_nat (by omega)
    have a8 : std.add .i64 ((k + 8 * i + 1 + 1 + 1 + 1 + 1 + 1 + 1 : Nat) : Int) 1 = ((k + 8 * i + 1 + 1 + 1 + 1 + 1 + 1 + 1 + 1 : Nat) : Int) := inc_nat (by omega)
    have b1 : std.add .i64 (i : Int) 1 = ((i + 1 : Nat) : Int) := inc_nat (by omega)
    simp only [L_laws_markInstanceS_mob_x4, letO_eq, s_toNn, s_nadd, Nat.zero_add, len_eq, List.length_set, hml, hlt, br_t, req_of hin, req_reflM, List.set_set, gd_set_selfM _ _ _ hmi, a1, a2, a3, a4, a5, a6, a7, a8, b1]
    try simp only [req_true]
    rw [← markd_set (mInstance k) l i hi]
    rfl
  · simp only [L_laws_markInstanceS_mob_x4, letO_eq]
    rw [ltl_f, br_f, markd_full]
  · simp only [letO_eq]
    rw [req_of (by simp [len_eq])]
/-- how many numbers the marks of a cell take -/
def wtC (c : TCell) : Nat := 1 + 5 * c.fShapes.length + 4 * c.fLabels.length + 8 * c.fInstances.length
noncomputable def mCell (c : TCell) (K : Nat) : TCell := ⟨mkT K, (List.range c.fShapes.length).map (mShape (K + 1)), (List.range c.fLabels.length).map (mLabel (K + 1 + 5 * c.fShapes.length)), (List.range c.fInstances.length).map (mInstance (K + 1 + 5 * c.fShapes.length + 4 * c.fLabels.length))⟩
def offC (l : List TCell) : Nat → Nat
  | 0 => 0
  | i + 1 => offC l i + wtC (gd l i)
theorem wtC_le {c : TCell} (h : SmallC c) : wtC c ≤ 20000000 := by
  have h1 := h.shapes
  have h2 := h.labels
  have h3 := h.insts
  unfold wtC; omega
theorem offC_le {l : List TCell} (hc : ∀ c ∈ l, SmallC c) : ∀ i, i ≤ l.length → offC l i ≤ i * 20000000
  | 0, _ => by simp [offC]
  | i + 1, h => by
    have h1 := offC_le hc i (by omega)
    have h2 := wtC_le (hc _ (gd_mem (show i < l.length by omega)))
    show offC l i + wtC (gd l i) ≤ _
    omega
noncomputable def mC (l : List TCell) (k i : Nat) : TCell := mCell (gd l i) (k + offC l i)
theorem markd_gdM {α : Type} [Inhabited α] (f : Nat → α) (a : List α) (i : Nat) (h : i < a.length) : gd (markd f a i) i = gd a i := by
  unfold gd markd
  rw [List.getD_eq_getElem?_getD, List.getD_eq_getElem?_getD, List.getElem?_append_right (by simp)]
  simp
theorem markCellS_ok (l : List TCell) (k : Nat) (hl : l.length ≤ 1048576) (hc : ∀ c ∈ l, SmallC c) (hk : k ≤ 100000000000000) : F_laws_markCellS_mob l k = some (((k + offC l l.length : Nat) : Int), (List.range l.length).map (mC l k)) := by
  unfold F_laws_markCellS_mob
  refine Eq.trans (bind_of (while_from (r := (((k + offC l l.length : Nat) : Int), (List.range l.length).map (mC l k))) (fun i => (((k + offC l i : Nat) : Int), (i : Int), markd (mC l k) l i)) l.length (by simp [markd_zero, offC]) (fun i hi => ?_) ?_)) ?_
  · have ho := offC_le hc i (by omega)
    have h2 := wtC_le (hc _ (gd_mem hi))
    obtain ⟨c, hcd⟩ : ∃ c, c = gd l i := ⟨_, rfl⟩
    obtain ⟨K, hK⟩ : ∃ K, K = k + offC l i := ⟨_, rfl⟩
    rw [← hcd] at h2
    unfold wtC at h2
    have hml : (markd (mC l k) l i).length = l.length := markd_len _ _ _ (by omega)
    have hmi : i < (markd (mC l k) l i).length := by rw [hml]; exact hi
    have hin : std.inR (i : Int) l.length := inRl hi
    have hlt : std.lt (i : Int) (std.ofN l.length) = true := ltl_t hi
    have hg : gd (markd (mC l k) l i) i = c := by rw [markd_gdM _ _ _ hi, hcd]
    have e1 : offC l (i + 1) = offC l i + wtC c := by rw [hcd]; rfl
    have hS := markShapeS_ok c.fShapes (K + 1) (by omega)
    have hL := markLabelS_ok c.fLabels (K + 1 + 5 * c.fShapes.length) (by omega)
    have hI := markInstanceS_ok c.fInstances (K + 1 + 5 * c.fShapes.length + 4 * c.fLabels.length) (by omega)
    have a1 : std.add .i64 ((K : Nat) : Int) 1 = ((K + 1 : Nat) : Int) := inc_nat (by omega)
    have b1 : std.add .i64 (i : Int) 1 = ((i + 1 : Nat) : Int) := inc_nat (by omega)
    have hT := markText_ok K (by omega)
    rw [← hK]
    simp only [L_laws_markCellS_mob_x4, letO_eq, s_toNn, s_nadd, Nat.zero_add, len_eq, List.length_set, hml, hlt, br_t, hT, Option.bind_some, req_of hin, req_reflM, req_true, List.set_set, gd_set_selfM _ _ _ hmi, hg, a1, hS, hL, hI, List.length_map, List.length_range, b1]
    rw [e1, ← markd_set (mC l k) l i hi]
    have e2 : mC l k i = mCell c K := by unfold mC; rw [← hcd, ← hK]
    have e3 : K + 1 + 5 * c.fShapes.length + 4 * c.fLabels.length + 8 * c.fInstances.length = k + (offC l i + wtC c) := by unfold wtC; omega
    rw [e2, e3]
    rfl
  · simp only [L_laws_markCellS_mob_x4, letO_eq]
    rw [ltl_f, br_f, markd_full]
  · simp only [letO_eq]
    rw [req_of (by simp [len_eq])]
theorem markLibrary_ok (a : TLibrary) (k : Nat) (h : SmallL a) (hk : k ≤ 100000000000000) : F_laws_markLibrary_mob a k = some (((k + offC a.fCells a.fCells.length : Nat) : Int), (List.range a.fCells.length).map (mC a.fCells k)) := by
  unfold F_laws_markLibrary_mob
  rw [markCellS_ok _ _ h.cells h.cell hk, Option.bind_some, req_of (by simp [len_eq]), req_of (by simp [len_eq])]
/- lists of numbers: equality with itself, what the marks write -/
theorem eqInt64S_ok (l : List Int) (h : l.length ≤ 10000000) : F_laws_eqInt64S l l = some true := by
  unfold F_laws_eqInt64S
  rw [notEq (eq_true' rfl), br_f]
  refine Eq.trans (bind_of (while_eq (r := .inr ()) l.length (fun i hi => ?_) ?_)) rfl
  · simp only [L_laws_eqInt64S_x2, letO_eq, s_toNn, notEq (eq_true' rfl)]
    rw [ltl_t hi, br_t, req_of (inRl hi), req_of (inRl hi), inc_nat (by omega)]; rfl
  · simp only [L_laws_eqInt64S_x2, letO_eq]
    rw [ltl_f]; rfl
def mInt (k : Nat) (n : Nat) : List Int := (List.range n).map fun i => ((k + i : Nat) : Int)
theorem markInt64S_ok (l : List Int) (k : Nat) (h : k + l.length ≤ 1000000000000000) : F_laws_markInt64S_mob l k = some (((k + l.length : Nat) : Int), mInt k l.length) := by
  unfold F_laws_markInt64S_mob mInt
  refine Eq.trans (bind_of (while_from (r := (((k + l.length : Nat) : Int), (List.range l.length).map fun i => ((k + i : Nat) : Int))) (fun i => (((k + i : Nat) : Int), (i : Int), markd (fun i => ((k + i : Nat) : Int)) l i)) l.length (by simp [markd_zero]) (fun i hi => ?_) ?_)) ?_
  · simp only [L_laws_markInt64S_mob_x4, letO_eq, s_toNn, s_nadd, Nat.zero_add]
    rw [ltl_t hi, br_t, req_of (inRl hi), req_of (by rw [len_eq, len_eq, markd_len _ _ _ (by omega)]), inc_nat (by omega), inc_nat (by omega), markd_set _ _ _ hi]
    simp [Nat.add_assoc]
  · simp only [L_laws_markInt64S_mob_x4, letO_eq]
    rw [ltl_f, br_f, markd_full]
  · simp only [letO_eq]
    rw [req_of (by simp [len_eq])]
theorem heldInt64S_ok (n k : Nat) (h : k + n ≤ 1000000000000000) : F_laws_heldInt64S (mInt k n) k = some ((k + n : Nat) : Int) := by
  unfold F_laws_heldInt64S mInt
  refine Eq.trans (bind_of (while_from (r := .inr ((k + n : Nat) : Int)) (fun i => (((k + i : Nat) : Int), (i : Int))) n rfl (fun i hi => ?_) ?_)) rfl
  · simp only [L_laws_heldInt64S_x3, letO_eq, s_toNn]
    rw [lt_true (by rw [s_ofN, len_eq]; simp; omega), br_t, req_of (inRl (by simpa using hi)), range_gd _ _ _ hi, eq_true' rfl, inc_nat (by omega), inc_nat (by omega)]
    rfl
  · simp only [L_laws_heldInt64S_x3, letO_eq]
    rw [lt_false (by rw [s_ofN, len_eq]; simp), br_f]
/- composing; counting; the occurrences that a query visits, both sides -/
noncomputable def cmpO (a b : Int) : Int :=
  cond (std.not (std.beq (std.le 4 a) (std.le 4 b)))
    (std.add .i64 (std.rem (cond (std.le 4 b) (std.sub .i64 (std.add .i64 (std.rem b 4) 4) (std.rem a 4)) (std.add .i64 (std.rem b 4) (std.rem a 4))) 4) 4)
    (std.rem (cond (std.le 4 b) (std.sub .i64 (std.add .i64 (std.rem b 4) 4) (std.rem a 4)) (std.add .i64 (std.rem b 4) (std.rem a 4))) 4)
/-- an element's place t in an occurrence at u -/
noncomputable def cmpT (u t : TTransform) : TTransform := ⟨cmpO t.fOrientation u.fOrientation, (mvP u ⟨t.fX, t.fY⟩).fX, (mvP u ⟨t.fX, t.fY⟩).fY⟩
theorem impl_compose_ok (t u : TTransform) : F_impl_compose t u = some (cmpT u t) := by
  have nz : std.nz 4 := by rw [s_nz]; decide
  unfold F_impl_compose F_impl_composed cmpT cmpO
  rw [impl_move_ok, Option.bind_some]
  simp only [req_of nz, letO_eq]
  cases std.le 4 u.fOrientation <;> cases std.le 4 t.fOrientation <;> rfl
theorem ori8 {o : Int} (h : 0 ≤ o ∧ o ≤ 7) : o = 0 ∨ o = 1 ∨ o = 2 ∨ o = 3 ∨ o = 4 ∨ o = 5 ∨ o = 6 ∨ o = 7 := by omega
theorem spec_After_ok (t u : TTransform) (ht : 0 ≤ t.fOrientation ∧ t.fOrientation ≤ 7) (hu : 0 ≤ u.fOrientation ∧ u.fOrientation ≤ 7) : F_spec_l10After u t = some (cmpT u t) := by
  have nz : std.nz 4 := by rw [s_nz]; decide
  unfold F_spec_l10After cmpT
  rw [spec_l10Point_ok]
  simp only [req_of nz, Option.bind_some, letO_eq]
  generalize (mvP u ⟨t.fX, t.fY⟩).fX = X
  generalize (mvP u ⟨t.fX, t.fY⟩).fY = Y
  rcases ori8 ht with h | h | h | h | h | h | h | h <;> rcases ori8 hu with h' | h' | h' | h' | h' | h' | h' | h' <;> rw [h, h'] <;> rfl
theorem cmpO_ori {a b : Int} (ha : 0 ≤ a ∧ a ≤ 7) (hb : 0 ≤ b ∧ b ≤ 7) : 0 ≤ cmpO a b ∧ cmpO a b ≤ 7 := by
  rcases ori8 ha with rfl | rfl | rfl | rfl | rfl | rfl | rfl | rfl <;> rcases ori8 hb with rfl | rfl | rfl | rfl | rfl | rfl | rfl | rfl <;> decide
/-- the numbers of occurrences below the cells -/
def sumI (prev : List Nat) (l : List TInstance) : Nat := (l.map fun x => x.fColumns.toNat * x.fRows.toNat * gd prev x.fCell.toNat).sum
def cntN (cs : List TCell) : Nat → List Nat
  | 0 => []
  | k + 1 => cntN cs k ++ [1 + sumI (cntN cs k) (gd cs k).fInstances]
theorem cntN_len (cs : List TCell) : ∀ k, (cntN cs k).length = k
  | 0 => rfl
  | k + 1 => by rw [cntN, List.length_append, cntN_len cs k]; rfl
theorem cntN_gd (cs : List TCell) {i n : Nat} (h : i < n) : gd (cntN cs n) i = 1 + sumI (cntN cs i) (gd cs i).fInstances := by
  induction n with
  | zero => omega
  | succ n ih =>
    rw [cntN]
    have hl := cntN_len cs n
    by_cases h1 : i = n
    · subst h1
      rw [gd_lt (by simp; omega), List.getElem_append_right (by omega)]
      simp [hl]
    · rw [gd_lt (by simp; omega), List.getElem_append_left (by omega), ← gd_lt (by omega)]
      exact ih (by omega)
def cnt (cs : List TCell) (k : Nat) : Nat := 1 + sumI (cntN cs k) (gd cs k).fInstances
theorem cntN_cnt (cs : List TCell) {i n : Nat} (h : i < n) : gd (cntN cs n) i = cnt cs i := cntN_gd cs h
theorem sumI_le {prev : List Nat} {l : List TInstance} {k b : Nat} (hv : ∀ x ∈ l, VI x k) (hb : ∀ i, i < k → gd prev i ≤ b) : sumI prev l ≤ l.length * (16 * b) := by
  induction l with
  | nil => simp [sumI]
  | cons x r ih =>
    have hx := hv x (by simp)
    obtain ⟨c, hc, hck⟩ := hx.cell
    obtain ⟨n, hn, _, hn4⟩ := hx.cols
    obtain ⟨m, hm, _, hm4⟩ := hx.rows
    have h1 := ih (fun x h => hv x (by simp [h]))
    have h2 : x.fColumns.toNat * x.fRows.toNat ≤ 16 := by
      rw [hn, hm, Int.toNat_natCast, Int.toNat_natCast]
      exact Nat.mul_le_mul hn4 hm4
    have h3 : x.fColumns.toNat * x.fRows.toNat * gd prev x.fCell.toNat ≤ 16 * b := by
      rw [hc, Int.toNat_natCast]
      exact Nat.mul_le_mul h2 (hb c hck)
    show x.fColumns.toNat * x.fRows.toNat * gd prev x.fCell.toNat + sumI prev r ≤ _
    rw [List.length_cons, Nat.add_mul, Nat.one_mul]
    omega
theorem cnt_pow {a : TLibrary} (h : okLib a = true) : ∀ m k, k < m → k < a.fCells.length → cnt a.fCells k ≤ 129 ^ k := by
  intro m
  induction m with
  | zero => intro k hk; omega
  | succ m ih =>
    intro k hkm hk
    have hc := vc_of h hk
    have h8 := hc.insts
    cases k with
    | zero =>
      have h0 : (gd a.fCells 0).fInstances = [] := by
        cases hd : (gd a.fCells 0).fInstances with
        | nil => rfl
        | cons x r =>
          obtain ⟨c, _, hc0⟩ := (hc.inst x (by rw [hd]; simp)).cell
          omega
      show 1 + sumI _ (gd a.fCells 0).fInstances ≤ _
      rw [h0]; simp [sumI]
    | succ k =>
      have h1 := sumI_le (prev := cntN a.fCells (k + 1)) (b := 129 ^ k) hc.inst (fun i hi => by
        rw [cntN_cnt _ hi]
        exact Nat.le_trans (ih i (by omega) (by omega)) (Nat.pow_le_pow_right (by omega) (by omega)))
      show 1 + sumI (cntN a.fCells (k + 1)) (gd a.fCells (k + 1)).fInstances ≤ _
      have h2 : (gd a.fCells (k + 1)).fInstances.length * (16 * 129 ^ k) ≤ 8 * (16 * 129 ^ k) := Nat.mul_le_mul_right _ h8
      have h3 : 1 ≤ 129 ^ k := Nat.pos_of_ne_zero (by simp)
      rw [Nat.pow_succ]
      omega
theorem cnt_le {a : TLibrary} (h : okLib a = true) {k : Nat} (hk : k < a.fCells.length) : cnt a.fCells k ≤ 1000000000000000 := by
  have h8 := (okLib_leG h).2
  have h1 := cnt_pow h (k + 1) k (by omega) hk
  have h2 : 129 ^ k ≤ 129 ^ 7 := Nat.pow_le_pow_right (by omega) (by omega)
  have h3 : 129 ^ 7 = 594467302491009 := by decide
  omega
theorem take_gd1 {α : Type} [Inhabited α] {l : List α} {i : Nat} (h : i < l.length) : l.take (i + 1) = l.take i ++ [gd l i] := by
  rw [List.take_succ_eq_append_getElem h, gd_lt h]
theorem sumI_app (prev : List Nat) (l m : List TInstance) : sumI prev (l ++ m) = sumI prev l + sumI prev m := by simp [sumI]
theorem sumI_take_le (prev : List Nat) (l : List TInstance) (i : Nat) : sumI prev (l.take i) ≤ sumI prev l := by
  conv => rhs; rw [← List.take_append_drop i l]
  rw [sumI_app]; omega
theorem map_cast_gd (l : List Nat) {m : Nat} (h : m < l.length) : gd (l.map fun x : Nat => (x : Int)) m = ((gd l m : Nat) : Int) := by
  rw [gd_lt (by simp; omega), gd_lt h, List.getElem_map]
theorem spec_ElementCount_ok (a : TLibrary) (k : Nat) (hs : SmallL a) (h : okLib a = true) (hk : k < a.fCells.length) : F_spec_ElementCount a (k : Int) = some ((cnt a.fCells k : Nat) : Int) := by
  have h8 := (okLib_leG h).2
  unfold F_spec_ElementCount
  rw [spec_l09Has_ok a _ hs, h, (wB_iffG _ _ _).2 (show (0 : Int) ≤ (k : Int) ∧ (k : Int) ≤ (a.fCells.length : Int) - 1 by omega), Option.bind_some]
  simp only [Bool.and_self, Bool.not_true, br_f, letO_eq]
  rw [show whileP (L_spec_ElementCount_x7 a) (0, ([] : List Int)) = some ((cntN a.fCells a.fCells.length).map fun x : Nat => (x : Int)) from ?_]
  · simp only [Option.bind_some, s_nadd, Nat.zero_add, s_toNn]
    rw [req_of (inRl (by rw [List.length_map, cntN_len]; exact hk)), map_cast_gd _ (by rw [cntN_len]; exact hk), cntN_cnt _ hk]
  refine while_from (fun i => ((i : Int), (cntN a.fCells i).map fun x : Nat => (x : Int))) a.fCells.length rfl (fun i hi => ?_) ?_
  · have hc := vc_of h hi
    have i8 := hc.insts
    obtain ⟨c, hcd⟩ : ∃ c, c = gd a.fCells i := ⟨_, rfl⟩
    obtain ⟨prev, hprev⟩ : ∃ prev, prev = cntN a.fCells i := ⟨_, rfl⟩
    have hpl : prev.length = i := by rw [hprev]; exact cntN_len _ _
    have hcl := cnt_le h hi
    unfold cnt at hcl
    rw [← hcd] at hc i8 hcl
    rw [← hprev] at hcl
    have w : whileP (L_spec_ElementCount_x22 a (prev.map fun x : Nat => (x : Int)) (i : Int)) (1, 0) = some (((1 + sumI prev c.fInstances : Nat) : Int)) := by
      refine while_from (fun j => (((1 + sumI prev (c.fInstances.take j) : Nat) : Int), (j : Int))) c.fInstances.length rfl (fun j hj => ?_) ?_
      · obtain ⟨x, hx⟩ : ∃ x, x = gd c.fInstances j := ⟨_, rfl⟩
        have hv := hc.inst _ (gd_mem hj)
        rw [← hx] at hv
        obtain ⟨m, hm, hmi⟩ := hv.cell
        obtain ⟨p, hp, _, hp4⟩ := hv.cols
        obtain ⟨q, hq, _, hq4⟩ := hv.rows
        have hst := sumI_take_le prev c.fInstances (j + 1)
        rw [take_gd1 hj, ← hx, sumI_app] at hst
        have hone : sumI prev [x] = p * q * gd prev m := by simp [sumI, hp, hq, hm]
        have hpq : p * q ≤ 16 := Nat.mul_le_mul hp4 hq4
        simp only [L_spec_ElementCount_x22, letO_eq, s_toNn, s_nadd, Nat.zero_add, ← hcd, ← hx, hm, hp, hq]
        rw [ltl_t hj, br_t, req_of (inRl hj), req_of (inRl hj), req_of (inRl hj), req_of (inRl (by simp; omega)), map_cast_gd _ (by omega), inc_nat (by omega), take_gd1 hj, ← hx, sumI_app, hone]
        rw [hone] at hst
        have e1 : std.mul .i64 (p : Int) (q : Int) = ((p * q : Nat) : Int) := by rw [mul_id (by rw [← Int.natCast_mul]; omega) (by rw [← Int.natCast_mul]; omega), Int.natCast_mul]
        have e2 : std.mul .i64 ((p * q : Nat) : Int) ((gd prev m : Nat) : Int) = ((p * q * gd prev m : Nat) : Int) := by rw [mul_id (by rw [← Int.natCast_mul]; omega) (by rw [← Int.natCast_mul]; omega), ← Int.natCast_mul]
        rw [e1, e2, add_id (by omega) (by omega), ← Int.natCast_add, Nat.add_assoc]
      · simp only [L_spec_ElementCount_x22, letO_eq, s_toNn, ← hcd]
        rw [ltl_f, br_f, List.take_length]
    simp only [L_spec_ElementCount_x7, letO_eq, ← hprev]
    rw [ltl_t hi, br_t, req_of (inRl hi), w, Option.bind_some, req_of (roomG (by rw [s_nadd, len_eq, len_eq]; simp; omega) (by omega)), inc_nat (by omega), cntN, ← hprev, ← hcd, List.map_append]
    rfl
  · simp only [L_spec_ElementCount_x7, letO_eq]
    rw [ltl_f, br_f]
theorem subL_take {α : Type} (l : List α) (n : Nat) : subL l 0 n = l.take n := by simp [subL]
theorem impl_elementCount_ok (a : TLibrary) (k : Nat) (h : okLib a = true) (hk : k < a.fCells.length) : F_impl_elementCount a (k : Int) = some ((cnt a.fCells k : Nat) : Int) := by
  have h8 := (okLib_leG h).2
  unfold F_impl_elementCount
  simp only [letO_eq]
  rw [inc_nat (by omega), req_of (show std.upTo ((k + 1 : Nat) : Int) (len a.fCells) from ⟨by omega, by rw [len_eq]; omega⟩), req_of (show std.upTo 0 (std.toN ((k + 1 : Nat) : Int)) from ⟨by omega, by omega⟩), s_toNn, show std.toN 0 = 0 from rfl, subL_take]
  have hgl : (a.fCells.take (k + 1)).length = k + 1 := by rw [List.length_take]; omega
  have hgd : ∀ i, i < k + 1 → gd (a.fCells.take (k + 1)) i = gd a.fCells i := fun i hi => by
    rw [gd_lt (by omega), gd_lt (by omega), List.getElem_take]
  rw [show whileP (L_impl_elementCount_x8 (a.fCells.take (k + 1))) (0, ([] : List Int)) = some ((cntN a.fCells (k + 1)).map fun x : Nat => (x : Int)) from ?_]
  · simp only [Option.bind_some, s_nadd, Nat.zero_add]
    rw [s_toNn, req_of (inRl (by rw [List.length_map, cntN_len]; omega)), map_cast_gd _ (by rw [cntN_len]; omega), cntN_cnt _ (by omega)]
  refine while_from (fun i => ((i : Int), (cntN a.fCells i).map fun x : Nat => (x : Int))) (k + 1) rfl (fun i hi => ?_) ?_
  · have hi' : i < a.fCells.length := by omega
    have hc := vc_of h hi'
    have i8 := hc.insts
    obtain ⟨c, hcd⟩ : ∃ c, c = gd a.fCells i := ⟨_, rfl⟩
    obtain ⟨prev, hprev⟩ : ∃ prev, prev = cntN a.fCells i := ⟨_, rfl⟩
    have hpl : prev.length = i := by rw [hprev]; exact cntN_len _ _
    have hcl := cnt_le h hi'
    unfold cnt at hcl
    rw [← hcd] at hc i8 hcl
    rw [← hprev] at hcl
    have hcd2 : gd (a.fCells.take (k + 1)) i = c := by rw [hgd i hi, hcd]
    have w : whileP (L_impl_elementCount_x23 (a.fCells.take (k + 1)) (prev.map fun x : Nat => (x : Int)) (i : Int)) (1, 0) = some (((1 + sumI prev c.fInstances : Nat) : Int)) := by
      refine while_from (fun j => (((1 + sumI prev (c.fInstances.take j) : Nat) : Int), (j : Int))) c.fInstances.length rfl (fun j hj => ?_) ?_
      · obtain ⟨x, hx⟩ : ∃ x, x = gd c.fInstances j := ⟨_, rfl⟩
        have hv := hc.inst _ (gd_mem hj)
        rw [← hx] at hv
        obtain ⟨m, hm, hmi⟩ := hv.cell
        obtain ⟨p, hp, _, hp4⟩ := hv.cols
        obtain ⟨q, hq, _, hq4⟩ := hv.rows
        have hst := sumI_take_le prev c.fInstances (j + 1)
        rw [take_gd1 hj, ← hx, sumI_app] at hst
        have hone : sumI prev [x] = p * q * gd prev m := by simp [sumI, hp, hq, hm]
        have hpq : p * q ≤ 16 := Nat.mul_le_mul hp4 hq4
        simp only [L_impl_elementCount_x23, letO_eq, s_toNn, s_nadd, Nat.zero_add, hcd2, ← hx, hm, hp, hq]
        rw [ltl_t hj, br_t, req_of (inRl hj), req_of (inRl (by simp; omega)), map_cast_gd _ (by omega), inc_nat (by omega), take_gd1 hj, ← hx, sumI_app, hone]
        rw [hone] at hst
        have e1 : std.mul .i64 (p : Int) (q : Int) = ((p * q : Nat) : Int) := by rw [mul_id (by rw [← Int.natCast_mul]; omega) (by rw [← Int.natCast_mul]; omega), Int.natCast_mul]
        have e2 : std.mul .i64 ((p * q : Nat) : Int) ((gd prev m : Nat) : Int) = ((p * q * gd prev m : Nat) : Int) := by rw [mul_id (by rw [← Int.natCast_mul]; omega) (by rw [← Int.natCast_mul]; omega), ← Int.natCast_mul]
        rw [e1, e2, add_id (by omega) (by omega), ← Int.natCast_add, Nat.add_assoc]
      · simp only [L_impl_elementCount_x23, letO_eq, s_toNn, hcd2]
        rw [ltl_f, br_f, List.take_length]
    simp only [L_impl_elementCount_x8, letO_eq, ← hprev]
    rw [ltl_t (by omega), br_t, req_of (inRl (by omega)), w, Option.bind_some, req_of (roomG (by rw [s_nadd, len_eq, len_eq]; simp; omega) (by omega)), inc_nat (by omega), cntN, ← hprev, ← hcd, List.map_append]
    rfl
  · simp only [L_impl_elementCount_x8, letO_eq]
    rw [lt_false (by rw [s_ofN, len_eq, hgl]; omega), br_f]
/- the occurrences below one, those that a query visits: both sides -/
def ctr (G : Nat → Telement → List TOccurrence) : Nat → List Telement → List TOccurrence
  | _, [] => []
  | s, e :: r => G s e ++ ctr G (s + 1) r
theorem ctr_app (G : Nat → Telement → List TOccurrence) : ∀ (l m : List Telement) (s : Nat), ctr G s (l ++ m) = ctr G s l ++ ctr G (s + l.length) m
  | [], m, s => by simp [ctr]
  | e :: r, m, s => by
    rw [List.cons_append, ctr, ctr, ctr_app G r m (s + 1), List.append_assoc, List.length_cons, show s + 1 + r.length = s + (r.length + 1) by omega]
theorem ctr_range (G : Nat → Telement → List TOccurrence) : ∀ (l : List Telement) (s : Nat), ctr G s l = (List.range l.length).flatMap fun i => G (s + i) (gd l i)
  | [], s => rfl
  | e :: r, s => by
    rw [ctr, ctr_range G r (s + 1), List.length_cons, List.range_succ_eq_map, List.flatMap_cons, List.flatMap_map]
    congr 2
    funext i
    rw [show s + 1 + i = s + (i + 1) by omega]
    rfl
theorem ctr_len_le (G : Nat → Telement → List TOccurrence) (b : Telement → Nat) : ∀ (l : List Telement) (s : Nat), (∀ e ∈ l, ∀ s, (G s e).length ≤ b e) → (ctr G s l).length ≤ (l.map b).sum
  | [], s, h => by simp [ctr]
  | e :: r, s, h => by
    rw [ctr, List.length_append, List.map_cons, List.sum_cons]
    have h1 := h e (by simp) s
    have h2 := ctr_len_le G b r (s + 1) (fun x hx => h x (by simp [hx]))
    omega
theorem while_blk {ρ : Type} (G : Nat → Telement → List TOccurrence) (f : Nat → List Telement) (n s : Nat) (v : List TOccurrence) (B S : Nat) {st : Int × Int × List TOccurrence → Option ((Int × Int × List TOccurrence) ⊕ ρ)} {fin : Int → List TOccurrence → ρ}
    (hS : s + ((List.range n).flatMap f).length ≤ S) (hB : v.length + (ctr G s ((List.range n).flatMap f)).length ≤ B)
    (h : ∀ i, i < n → ∀ (s' : Nat) (u : List TOccurrence), s' + (f i).length ≤ S → u.length + (ctr G s' (f i)).length ≤ B → st ((s' : Int), (i : Int), u) = some (.inl (((s' + (f i).length : Nat) : Int), ((i + 1 : Nat) : Int), u ++ ctr G s' (f i))))
    (he : ∀ (s' : Nat) u, st ((s' : Int), (n : Int), u) = some (.inr (fin s' u))) :
    whileP st ((s : Int), 0, v) = some (fin ((s + ((List.range n).flatMap f).length : Nat) : Int) (v ++ ctr G s ((List.range n).flatMap f))) := by
  have hsp : ∀ i, i ≤ n → ∃ q, (List.range n).flatMap f = (List.range i).flatMap f ++ q := fun i hi => by
    obtain ⟨d, rfl⟩ := Nat.exists_eq_add_of_le hi
    exact ⟨_, by rw [List.range_eq_range', List.range_eq_range', ← List.range'_append_1 (s := 0) (m := i) (n := d), List.flatMap_append]⟩
  refine while_from (fun i => (((s + ((List.range i).flatMap f).length : Nat) : Int), (i : Int), v ++ ctr G s ((List.range i).flatMap f))) n (by simp [ctr]) (fun i hi => ?_) (he _ _)
  have e1 : (List.range (i + 1)).flatMap f = (List.range i).flatMap f ++ f i := by rw [List.range_succ, List.flatMap_append]; simp
  obtain ⟨q, hq⟩ := hsp (i + 1) hi
  have hl := congrArg List.length hq
  have hc := congrArg (fun l => (ctr G s l).length) hq
  simp only [ctr_app, List.length_append] at hc
  rw [e1, List.length_append, List.length_append] at hl
  rw [e1, ctr_app, List.length_append] at hc
  rw [h i hi _ _ (by omega) (by rw [List.length_append]; omega), e1, ctr_app, List.length_append, List.append_assoc, Nat.add_assoc]
/-- the occurrences below o, itself first, of those that p lets by -/
noncomputable def occG (a : TLibrary) (p : Nat → TTransform → Bool) : Nat → TOccurrence → List TOccurrence
  | 0, _ => []
  | n + 1, o => o :: ctr (fun s e => if p e.gcell.toNat (cmpT o.fPlace e.gplace) then occG a p n ⟨e.gcell, cmpT o.fPlace e.gplace, o.fPath ++ [(s : Int)]⟩ else []) 0 (elemsC (gd a.fCells o.fCell.toNat))
noncomputable def visP (a : TLibrary) (wd : TRect) (k : Nat) (t : TTransform) : Bool := decide (boxV a k ≠ []) && ovlG (mvR t (bxs (boxV a k))) wd
structure GO (a : TLibrary) (o : TOccurrence) : Prop where
  cell : ∃ c : Nat, o.fCell = (c : Int) ∧ c < a.fCells.length ∧ o.fPath.length + c ≤ 8
  place : -(320 * (o.fPath.length : Int)) ≤ o.fPlace.fX ∧ o.fPlace.fX ≤ 320 * (o.fPath.length : Int) ∧ -(320 * (o.fPath.length : Int)) ≤ o.fPlace.fY ∧ o.fPlace.fY ≤ 320 * (o.fPath.length : Int)
  ori : 0 ≤ o.fPlace.fOrientation ∧ o.fPlace.fOrientation ≤ 7
theorem mem_elemsC {c : TCell} {k : Nat} (h : VC c k) {e : Telement} (he : e ∈ elemsC c) : (∃ n : Nat, e.gcell = (n : Int) ∧ n < k) ∧ (-320 ≤ e.gplace.fX ∧ e.gplace.fX ≤ 320 ∧ -320 ≤ e.gplace.fY ∧ e.gplace.fY ≤ 320) ∧ 0 ≤ e.gplace.fOrientation ∧ e.gplace.fOrientation ≤ 7 := by
  unfold elemsC at he
  obtain ⟨x, hx, he⟩ := List.mem_flatMap.1 he
  unfold mkE at he
  obtain ⟨t, ht, rfl⟩ := List.mem_map.1 he
  exact ⟨(h.inst x hx).cell, elP_bd (h.inst x hx) ht⟩
theorem GO.child {a : TLibrary} {o : TOccurrence} (hv : okLib a = true) (h : GO a o) {e : Telement} (he : e ∈ elemsC (gd a.fCells o.fCell.toNat)) (s : Int) : GO a ⟨e.gcell, cmpT o.fPlace e.gplace, o.fPath ++ [s]⟩ ∧ (∃ m c : Nat, e.gcell = (m : Int) ∧ o.fCell = (c : Int) ∧ m < c ∧ c < a.fCells.length) := by
  obtain ⟨c, hc, hcn, hp⟩ := h.cell
  rw [hc, Int.toNat_natCast] at he
  obtain ⟨⟨m, hm, hmc⟩, hb, ho⟩ := mem_elemsC (vc_of hv hcn) he
  have hpl := h.place
  have hbd := mvP_bd (t := o.fPlace) (p := ⟨e.gplace.fX, e.gplace.fY⟩) (B := 320) (S := 320 * (o.fPath.length : Int)) hb hpl (by omega) (by omega) (by omega)
  refine ⟨⟨⟨m, hm, by omega, by rw [List.length_append, List.length_singleton]; omega⟩, ?_, cmpO_ori ho h.ori⟩, m, c, hm, hc, hmc, hcn⟩
  have e1 : ((o.fPath ++ [s]).length : Int) = (o.fPath.length : Int) + 1 := by rw [List.length_append, List.length_singleton]; omega
  show -(320 * ((o.fPath ++ [s]).length : Int)) ≤ (cmpT o.fPlace e.gplace).fX ∧ _
  rw [e1]
  unfold cmpT
  simp only
  omega
theorem elsOf_len (x : TInstance) : (elsOf x).length = x.fColumns.toNat * x.fRows.toNat := by
  unfold elsOf
  rw [List.length_flatMap]
  simp only [elRow_len]
  rw [List.map_const', List.sum_replicate_nat, List.length_range, Nat.mul_comm]
theorem sumE (b : Nat → Nat) (l : List TInstance) : ((l.flatMap mkE).map fun e => b e.gcell.toNat).sum = (l.map fun x => x.fColumns.toNat * x.fRows.toNat * b x.fCell.toNat).sum := by
  induction l with
  | nil => rfl
  | cons x r ih =>
    rw [List.flatMap_cons, List.map_append, List.sum_append_nat, ih, List.map_cons, List.sum_cons]
    congr 1
    unfold mkE
    rw [List.map_map, show ((fun e : Telement => b e.gcell.toNat) ∘ Telement.mk x.fCell) = fun _ => b x.fCell.toNat from rfl, List.map_const', List.sum_replicate_nat, elsOf_len]
theorem occG_le (a : TLibrary) (hv : okLib a = true) (p : Nat → TTransform → Bool) : ∀ n o, (∃ c : Nat, o.fCell = (c : Int) ∧ c < a.fCells.length) → (occG a p n o).length ≤ cnt a.fCells o.fCell.toNat := by
  intro n
  induction n with
  | zero => intro o _; simp [occG]
  | succ n ih =>
    intro o ⟨c, hc, hcn⟩
    have hvc := vc_of hv hcn
    rw [occG, List.length_cons, hc, Int.toNat_natCast]
    have h1 := ctr_len_le (fun s e => if p e.gcell.toNat (cmpT o.fPlace e.gplace) then occG a p n ⟨e.gcell, cmpT o.fPlace e.gplace, o.fPath ++ [(s : Int)]⟩ else []) (fun e => gd (cntN a.fCells c) e.gcell.toNat) (elemsC (gd a.fCells c)) 0 (fun e he s => by
      obtain ⟨⟨m, hm, hmc⟩, _⟩ := mem_elemsC hvc he
      split
      · have := ih ⟨e.gcell, cmpT o.fPlace e.gplace, o.fPath ++ [(s : Int)]⟩ ⟨m, hm, by omega⟩
        rw [hm, Int.toNat_natCast, cntN_cnt _ hmc]
        rw [show (TOccurrence.mk e.gcell (cmpT o.fPlace e.gplace) (o.fPath ++ [(s : Int)])).fCell = (m : Int) from hm, Int.toNat_natCast, hm] at this
        exact this
      · exact Nat.zero_le _)
    unfold elemsC at h1
    rw [sumE] at h1
    unfold cnt sumI
    unfold elemsC
    omega
theorem le_sum {l : List Nat} {x : Nat} (h : x ∈ l) : x ≤ l.sum := by
  induction l with
  | nil => cases h
  | cons a r ih =>
    rw [List.sum_cons]
    rcases List.mem_cons.1 h with rfl | h
    · omega
    · have := ih h; omega
theorem cnt_child {a : TLibrary} (hv : okLib a = true) {c : Nat} (hc : c < a.fCells.length) {e : Telement} (he : e ∈ elemsC (gd a.fCells c)) : cnt a.fCells e.gcell.toNat ≤ cnt a.fCells c := by
  obtain ⟨⟨m, hm, hmc⟩, _⟩ := mem_elemsC (vc_of hv hc) he
  have h1 : gd (cntN a.fCells c) e.gcell.toNat ≤ ((elemsC (gd a.fCells c)).map fun e => gd (cntN a.fCells c) e.gcell.toNat).sum := le_sum (List.mem_map.2 ⟨e, he, rfl⟩)
  unfold elemsC at h1
  rw [sumE, hm, Int.toNat_natCast, cntN_cnt _ hmc] at h1
  rw [hm, Int.toNat_natCast]
  show cnt a.fCells m ≤ 1 + sumI (cntN a.fCells c) (gd a.fCells c).fInstances
  unfold sumI
  omega
theorem cloneI_ok (l : List Int) (h : l.length ≤ 1000000) : F_slices_Clone_Lint64_int64 l = some l := by
  unfold F_slices_Clone_Lint64_int64 nilB
  have e : (letO ([] : List Int) fun l1 => req (std.room (std.nadd (len l1) (len l)) 8) <| letO (l1 ++ l) fun l3 => some l3) = some l := by
    simp only [letO_eq]
    rw [req_of (roomG (by rw [s_nadd, len_eq, len_eq]; simp; omega) (by omega)), List.nil_append]
  rw [e]
  by_cases h0 : l.length = 0
  · rw [List.length_eq_zero_iff.1 h0]; simp
  · rw [if_neg (by rw [len_eq]; omega)]
theorem place_small {a : TLibrary} {o : TOccurrence} (h : GO a o) : -2560 ≤ o.fPlace.fX ∧ o.fPlace.fX ≤ 2560 ∧ -2560 ≤ o.fPlace.fY ∧ o.fPlace.fY ≤ 2560 := by
  obtain ⟨c, _, _, hp⟩ := h.cell
  have := h.place
  omega
/-- the test of an element's box, as the program makes it -/
theorem test_impl {a : TLibrary} (hv : okLib a = true) {wd : TRect} (hw : okRect wd = true) {m : Nat} (hm : m < a.fCells.length) {o : TOccurrence} (ho : GO a o) :
    ((br (std.lt 0 (std.ofN (len (boxV a m)))) (req (std.inR 0 (len (boxV a m))) <| (F_impl_moveRect o.fPlace (gd (boxV a m) (std.toN 0))).bind fun y32 => (F_impl_anywhere y32 wd).bind fun y34 => some y34) (some false)) : Option Bool) = some (visP a wd m o.fPlace) := by
  unfold visP
  rcases boxV_cases a hm with h0 | ⟨b, h0⟩
  · rw [h0]; rfl
  · have hN := box_NB a hv m hm h0
    have h8 := (okLib_leG hv).2
    rw [h0, lt_true (by rw [s_ofN]; simp [len_eq]), br_t, req_of (show std.inR 0 (len [b]) from inRl (by simp)), show gd [b] (std.toN 0) = b from rfl, impl_moveRect_ok, Option.bind_some,
      anywhere_ok (mvR_NB (S := 2560) hN (place_small ho) (by omega) (by omega)) (okRect_NB hw), Option.bind_some]
    simp [bxs]
theorem impl_visits_ok (a : TLibrary) (hv : okLib a = true) (wd : TRect) (hw : okRect wd = true) : ∀ n o, GO a o → o.fCell.toNat < n → cnt a.fCells o.fCell.toNat ≤ 200 →
    FR_impl_visits n a (boxesN a.fCells a.fCells.length) wd o = some (occG a (visP a wd) n o) := by
  intro n
  induction n with
  | zero => intro o _ h; omega
  | succ n ih =>
    intro o ho hn hcnt
    obtain ⟨c, hc, hcn, hpl⟩ := ho.cell
    have hvc := vc_of hv hcn
    have hlen := occG_le a hv (visP a wd) (n + 1) o ⟨c, hc, hcn⟩
    have h8 := (okLib_leG hv).2
    show FS_impl_visits (FR_impl_visits n) a _ wd o = _
    unfold FS_impl_visits
    simp only [letO_eq]
    rw [occG] at hlen ⊢
    rw [hc, Int.toNat_natCast] at hlen hn hcnt ⊢
    rw [req_of (inRl hcn), s_toNn, impl_elements_ok _ hvc, Option.bind_some]
    have hL128 := elemsC_le hvc
    obtain ⟨L, hL⟩ : ∃ L, L = elemsC (gd a.fCells c) := ⟨_, rfl⟩
    rw [← hL] at hL128
    obtain ⟨G, hG⟩ : ∃ G : Nat → Telement → List TOccurrence, G = fun (s : Nat) (e : Telement) => if visP a wd e.gcell.toNat (cmpT o.fPlace e.gplace) then occG a (visP a wd) n ⟨e.gcell, cmpT o.fPlace e.gplace, o.fPath ++ [(s : Int)]⟩ else [] := ⟨_, rfl⟩
    rw [← hG, ← hL, List.length_cons] at hlen
    rw [← hG, ← hL]
    have eC := ctr_range G L 0
    simp only [Nat.zero_add] at eC
    have w : whileP (L_impl_visits_x8 a (boxesN a.fCells a.fCells.length) wd o (FR_impl_visits n) L) (0, [o]) = some ([o] ++ ctr G 0 L) := by
      rw [eC]
      refine while_fm (fun i => G i (gd L i)) L.length [o] 1000 (by rw [← eC]; simp; omega) (fun i hi v hvl => ?_) (fun v => ?_)
      · have hmem : gd L i ∈ elemsC (gd a.fCells o.fCell.toNat) := by rw [hc, Int.toNat_natCast, ← hL]; exact gd_mem hi
        obtain ⟨hch, m, c', hm, hc', hmc, _⟩ := ho.child hv hmem (i : Int)
        have hcc : c' = c := by omega
        subst hcc
        have hmem2 := hmem
        rw [hc, Int.toNat_natCast] at hmem2
        have hcn2 := cnt_child hv hcn hmem2
        rw [hm, Int.toNat_natCast] at hcn2
        simp only [L_impl_visits_x8, letO_eq, s_nadd, Nat.zero_add, s_toNn]
        have hcp : F_impl_compose (gd L i).gplace o.fPlace = some (cmpT o.fPlace (gd L i).gplace) := impl_compose_ok _ _
        rw [ltl_t hi, br_t, req_of (inRl hi), hcp, Option.bind_some, hm, req_of (inRl (by rw [boxesN_len]; omega)), s_toNn, show gd (boxesN a.fCells a.fCells.length) m = boxV a m from rfl]
        have ht := test_impl hv hw (show m < a.fCells.length by omega) hch
        simp only at ht
        rw [ht, Option.bind_some, inc_nat (by omega)]
        have hGi : G i (gd L i) = if visP a wd m (cmpT o.fPlace (gd L i).gplace) then occG a (visP a wd) n ⟨(m : Int), cmpT o.fPlace (gd L i).gplace, o.fPath ++ [(i : Int)]⟩ else [] := by rw [hG]; simp only [hm, Int.toNat_natCast]
        rw [hGi] at hvl ⊢
        rw [hm] at hch
        cases hp : visP a wd m (cmpT o.fPlace (gd L i).gplace) with
        | false => rw [br_f, Option.bind_some]; simp
        | true =>
          rw [hp, if_pos rfl] at hvl
          have hr := ih ⟨(m : Int), cmpT o.fPlace (gd L i).gplace, o.fPath ++ [(i : Int)]⟩ hch (by rw [Int.toNat_natCast]; omega) (by rw [Int.toNat_natCast]; omega)
          rw [br_t, cloneI_ok _ (by omega), Option.bind_some, req_of (roomG (by rw [len_eq, len_eq]; simp; omega) (by omega)), hr, Option.bind_some, req_of (roomG (by rw [len_eq, len_eq]; omega) (by omega)), Option.bind_some, if_pos rfl]
      · simp only [L_impl_visits_x8, letO_eq]
        rw [ltl_f, br_f]
    rw [w]
    rfl
theorem test_spec {a : TLibrary} {wd : TRect} {m : Nat} (t : TTransform) : ((br (decide (boxV a m ≠ [])) ((F_spec_l10Rect t (bxs (boxV a m))).bind fun y69 => (F_spec_l11Overlap y69 wd).bind fun y71 => some y71) (some false)) : Option Bool) = some (visP a wd m t) := by
  unfold visP
  rw [spec_l10Rect_ok]
  simp only [Option.bind_some, spec_l11Overlap_okG]
  cases decide (boxV a m ≠ []) <;> rfl
theorem spec_Visit_ok (a : TLibrary) (hv : okLib a = true) (wd : TRect) : ∀ n o out, GO a o → o.fCell.toNat < n → cnt a.fCells o.fCell.toNat ≤ 200 → out.length + (occG a (visP a wd) n o).length ≤ 1000 →
    FR_spec_l12Visit_mbxbb n a out o wd = some (out ++ occG a (visP a wd) n o) := by
  intro n
  induction n with
  | zero => intro o out _ h; omega
  | succ n ih =>
    intro o out ho hn hcnt hout
    obtain ⟨c, hc, hcn, hpl⟩ := ho.cell
    have hvc := vc_of hv hcn
    have h8 := (okLib_leG hv).2
    show FS_spec_l12Visit_mbxbb (FR_spec_l12Visit_mbxbb n) a out o wd = _
    unfold FS_spec_l12Visit_mbxbb
    simp only [letO_eq]
    rw [occG] at hout ⊢
    rw [hc, Int.toNat_natCast] at hn hcnt hout ⊢
    rw [List.length_cons] at hout
    rw [req_of (roomG (by rw [s_nadd, len_eq, len_eq]; simp; omega) (by omega)), req_of (inRl hcn)]
    obtain ⟨G, hG⟩ : ∃ G : Nat → Telement → List TOccurrence, G = fun (s : Nat) (e : Telement) => if visP a wd e.gcell.toNat (cmpT o.fPlace e.gplace) then occG a (visP a wd) n ⟨e.gcell, cmpT o.fPlace e.gplace, o.fPath ++ [(s : Int)]⟩ else [] := ⟨_, rfl⟩
    rw [← hG] at hout ⊢
    obtain ⟨C, hC⟩ : ∃ C, C = gd a.fCells c := ⟨_, rfl⟩
    rw [← hC] at hvc hout ⊢
    have i8 := hvc.insts
    have he128 := elemsC_le hvc
    have eE : (List.range C.fInstances.length).flatMap (fun i => mkE (gd C.fInstances i)) = elemsC C := range_fm _ _
    have w : whileP (L_spec_l12Visit_mbxbb_x10 a o wd (FR_spec_l12Visit_mbxbb n)) (0, 0, out ++ [o]) = some (out ++ [o] ++ ctr G 0 (elemsC C)) := by
      have key := while_blk (ρ := List TOccurrence) G (fun i => mkE (gd C.fInstances i)) C.fInstances.length 0 (out ++ [o]) 1000 1000 (st := L_spec_l12Visit_mbxbb_x10 a o wd (FR_spec_l12Visit_mbxbb n)) (fin := fun _ u => u) (by rw [eE]; omega) (by rw [eE]; simp; omega) (fun i hi s' u hs hu => ?_) (fun s' u => ?_)
      · rw [eE] at key; exact key
      · obtain ⟨x, hx⟩ : ∃ x, x = gd C.fInstances i := ⟨_, rfl⟩
        have hxm := gd_mem hi
        rw [← hx] at hxm hs hu ⊢
        have hv1 := hvc.inst _ hxm
        obtain ⟨m, hm, hmc⟩ := hv1.cell
        obtain ⟨p, hp, _, hp4⟩ := hv1.cols
        obtain ⟨q, hq, _, hq4⟩ := hv1.rows
        have hmcnt : ∀ t ∈ elsOf x, cnt a.fCells m ≤ 200 := fun t ht => by
          have := cnt_child hv hcn (e := Telement.mk x.fCell t) (by rw [← hC]; unfold elemsC; exact List.mem_flatMap.2 ⟨x, hxm, List.mem_map.2 ⟨t, ht, rfl⟩⟩)
          rw [show (Telement.mk x.fCell t).gcell = (m : Int) from hm, Int.toNat_natCast] at this
          omega
        simp only [L_spec_l12Visit_mbxbb_x10, letO_eq, s_toNn, hc, ← hC, ← hx]
        rw [ltl_t hi, br_t, req_of (inRl hi), hm, show TLibrary.mk a.fCells = a from rfl, spec_l12Box_ok a hv m (by omega), Option.bind_some, show gd (boxesN a.fCells a.fCells.length) m = boxV a m from rfl]
        have e2 : (List.range q).flatMap (fun r => (elRow x r).map (Telement.mk x.fCell)) = mkE x := by rw [mkE_eq, hq, Int.toNat_natCast]
        have w2 := while_blk (ρ := Int × List TOccurrence) G (fun r => (elRow x r).map (Telement.mk x.fCell)) q s' u 1000 1000 (st := L_spec_l12Visit_mbxbb_x28 a o wd (FR_spec_l12Visit_mbxbb n) (i : Int) (bxs (boxV a m), decide (boxV a m ≠ []))) (fin := fun s u => (s, u)) (by rw [e2]; exact hs) (by rw [e2]; exact hu) (fun r hr s2 u2 hs2 hu2 => by
          rw [List.length_map, elRow_len, hp, Int.toNat_natCast] at hs2
          have e3 : (List.range p).flatMap (fun k : Nat => [Telement.mk x.fCell (elP x k r)]) = (elRow x r).map (Telement.mk x.fCell) := by
            rw [map_fm]; unfold elRow; rw [List.map_map, hp, Int.toNat_natCast]; rfl
          have w3 := while_blk (ρ := Int × List TOccurrence) G (fun k : Nat => [Telement.mk x.fCell (elP x k r)]) p s2 u2 1000 1000 (st := L_spec_l12Visit_mbxbb_x44 a o wd (FR_spec_l12Visit_mbxbb n) (r : Int) (i : Int) (bxs (boxV a m), decide (boxV a m ≠ []))) (fin := fun s u => (s, u)) (by rw [e3, List.length_map, elRow_len, hp, Int.toNat_natCast]; exact hs2) (by rw [e3]; exact hu2) (fun k hk s3 u3 hs3 hu3 => by
            have hmem : elP x k r ∈ elsOf x := by
              unfold elsOf
              refine List.mem_flatMap.2 ⟨r, by rw [List.mem_range, hq]; omega, ?_⟩
              unfold elRow
              exact List.mem_map.2 ⟨k, by rw [List.mem_range, hp]; omega, rfl⟩
            have hmem2 : Telement.mk x.fCell (elP x k r) ∈ elemsC (gd a.fCells o.fCell.toNat) := by
              rw [hc, Int.toNat_natCast, ← hC]; unfold elemsC
              exact List.mem_flatMap.2 ⟨x, hxm, List.mem_map.2 ⟨_, hmem, rfl⟩⟩
            obtain ⟨hch, _⟩ := ho.child hv hmem2 (s3 : Int)
            simp only at hch
            rw [hm] at hch
            have hbd := elP_bd hv1 hmem
            simp only [List.length_singleton] at hs3
            simp only [ctr, List.append_nil] at hu3 ⊢
            simp only [List.length_singleton]
            have hGi : G s3 (Telement.mk x.fCell (elP x k r)) = if visP a wd m (cmpT o.fPlace (elP x k r)) then occG a (visP a wd) n ⟨(m : Int), cmpT o.fPlace (elP x k r), o.fPath ++ [(s3 : Int)]⟩ else [] := by rw [hG]; simp only [hm, Int.toNat_natCast]
            rw [hGi] at hu3 ⊢
            simp only [L_spec_l12Visit_mbxbb_x44, letO_eq, s_toNn, hc, ← hC, ← hx]
            rw [req_of (inRl hi), hp, lt_true (by omega), br_t, req_of (inRl hi), spec_l10Element_ok, Option.bind_some, spec_After_ok _ _ hbd.2 ho.ori, Option.bind_some, test_spec, Option.bind_some, inc_nat (by omega), inc_nat (by omega)]
            cases hpp : visP a wd m (cmpT o.fPlace (elP x k r)) with
            | false => rw [br_f, Option.bind_some]; simp
            | true =>
              rw [hpp, if_pos rfl] at hu3
              have hr2 := ih ⟨(m : Int), cmpT o.fPlace (elP x k r), o.fPath ++ [(s3 : Int)]⟩ u3 hch (by rw [Int.toNat_natCast]; omega) (by rw [Int.toNat_natCast]; exact hmcnt _ hmem) hu3
              rw [br_t, req_of (roomG (by rw [s_nadd, len_eq, len_eq]; simp; omega) (by omega)), req_of (roomG (by rw [s_nadd, len_eq, len_eq]; simp; omega) (by omega)), req_of (inRl hi), List.nil_append, hm, show TLibrary.mk a.fCells = a from rfl, hr2, Option.bind_some, Option.bind_some, if_pos rfl]) (fun s3 u3 => by
            simp only [L_spec_l12Visit_mbxbb_x44, letO_eq, s_toNn, hc, ← hC, ← hx]
            rw [req_of (inRl hi), hp, lt_false (by omega), br_f])
          rw [e3] at w3
          simp only [L_spec_l12Visit_mbxbb_x28, letO_eq, s_toNn, hc, ← hC, ← hx]
          rw [req_of (inRl hi), hq, lt_true (by omega), br_t, w3, Option.bind_some, inc_nat (by omega)]) (fun s2 u2 => by
          simp only [L_spec_l12Visit_mbxbb_x28, letO_eq, s_toNn, hc, ← hC, ← hx]
          rw [req_of (inRl hi), hq, lt_false (by omega), br_f])
        rw [e2] at w2
        rw [w2, Option.bind_some, inc_nat (by omega)]
      · simp only [L_spec_l12Visit_mbxbb_x10, letO_eq, s_toNn, hc, ← hC]
        rw [ltl_f, br_f]
    rw [w]
    simp
/- VisitedCount -/
noncomputable def rootO (k : Nat) : TOccurrence := ⟨(k : Int), ⟨0, 0, 0⟩, []⟩
theorem rootO_good (a : TLibrary) (hv : okLib a = true) {k : Nat} (hk : k < a.fCells.length) : GO a (rootO k) :=
  ⟨⟨k, rfl, hk, by have := (okLib_leG hv).2; simp [rootO]; omega⟩, by simp [rootO], by simp [rootO]⟩
noncomputable def visL (a : TLibrary) (k : Nat) (wd : TRect) : List TOccurrence := occG a (visP a wd) 64 (rootO k)
theorem impl_visited_ok (a : TLibrary) (hv : okLib a = true) (wd : TRect) (hw : okRect wd = true) (k : Nat) (hk : k < a.fCells.length) (hc : cnt a.fCells k ≤ 200) : F_impl_visited a (k : Int) wd = some (visL a k wd) := by
  have h8 := (okLib_leG hv).2
  unfold F_impl_visited
  rw [show TLibrary.mk a.fCells = a from rfl, impl_contentBoxes_ok a hv, Option.bind_some]
  have := impl_visits_ok a hv wd hw 64 (rootO k) (rootO_good a hv hk) (by show ((k : Int)).toNat < 64; omega) hc
  unfold F_impl_visits
  rw [show (TOccurrence.mk (k : Int) (TTransform.mk 0 0 0) ([] : List Int)) = rootO k from rfl, this]
  rfl
theorem visL_le (a : TLibrary) (hv : okLib a = true) (wd : TRect) (k : Nat) (hk : k < a.fCells.length) : (visL a k wd).length ≤ cnt a.fCells k := occG_le a hv _ 64 (rootO k) ⟨k, rfl, hk⟩
theorem spec_visited_ok (a : TLibrary) (hv : okLib a = true) (wd : TRect) (k : Nat) (hk : k < a.fCells.length) (hc : cnt a.fCells k ≤ 200) : F_spec_l12Visited a (k : Int) wd = some (visL a k wd) := by
  have h8 := (okLib_leG hv).2
  have hl := visL_le a hv wd k hk
  unfold F_spec_l12Visited
  simp only [letO_eq]
  have := spec_Visit_ok a hv wd 64 (rootO k) [] (rootO_good a hv hk) (by show ((k : Int)).toNat < 64; omega) hc (by
    show 0 + (visL a k wd).length ≤ 1000
    omega)
  unfold F_spec_l12Visit_mbxbb
  rw [show (TOccurrence.mk (k : Int) (TTransform.mk 0 0 0) ([] : List Int)) = rootO k from rfl, rect_eta, show TLibrary.mk a.fCells = a from rfl, this]
  rfl
/- the occurrences that are visited are good; windowCode -/
theorem occG_good (a : TLibrary) (hv : okLib a = true) (p : Nat → TTransform → Bool) : ∀ n o, GO a o → ∀ q ∈ occG a p n o, GO a q := by
  intro n
  induction n with
  | zero => intro o _ q hq; simp [occG] at hq
  | succ n ih =>
    intro o ho q hq
    rw [occG] at hq
    rcases List.mem_cons.1 hq with rfl | hq
    · exact ho
    · rw [ctr_range] at hq
      obtain ⟨i, hi, hq⟩ := List.mem_flatMap.1 hq
      rw [List.mem_range] at hi
      split at hq
      · exact ih _ (ho.child hv (gd_mem hi) _).1 q hq
      · cases hq
theorem visL_good (a : TLibrary) (hv : okLib a = true) (wd : TRect) {k : Nat} (hk : k < a.fCells.length) : ∀ o ∈ visL a k wd, GO a o := occG_good a hv _ 64 _ (rootO_good a hv hk)
noncomputable def wCode (a : TLibrary) (k y : Int) (wd : TRect) : Int :=
  if (okLib a && okRect wd) = false then 1 else if wB k 0 ((a.fCells.length : Int) - 1) = false then 5 else if wB y 0 7 = false then 2 else if 200 < cnt a.fCells k.toNat then 3 else 0
theorem wCode_zero {a : TLibrary} {k y : Int} {wd : TRect} (h : wCode a k y wd = 0) : okLib a = true ∧ okRect wd = true ∧ (∃ n : Nat, k = (n : Int) ∧ n < a.fCells.length ∧ cnt a.fCells n ≤ 200) ∧ wB y 0 7 = true := by
  unfold wCode at h
  split at h
  · cases h
  · rename_i h1
    rw [Bool.not_eq_false, Bool.and_eq_true] at h1
    split at h
    · cases h
    · rename_i h2
      rw [Bool.not_eq_false, wB_iffG] at h2
      split at h
      · cases h
      · rename_i h3
        split at h
        · cases h
        · have := okLib_leG h1.1
          exact ⟨h1.1, h1.2, ⟨k.toNat, by omega, by omega, by omega⟩, by rwa [Bool.not_eq_false] at h3⟩
theorem wCode_case (a : TLibrary) (k y : Int) (wd : TRect) : wCode a k y wd = 0 ∨ wCode a k y wd = 1 ∨ wCode a k y wd = 2 ∨ wCode a k y wd = 3 ∨ wCode a k y wd = 5 := by
  unfold wCode
  split
  · simp
  · split
    · simp
    · split
      · simp
      · split <;> simp
theorem lt200' (n : Nat) : std.lt 200 ((n : Nat) : Int) = decide (200 < n) := by
  rw [s_lt]
  by_cases h : 200 < n
  · rw [decide_eq_true h]; simp; omega
  · rw [decide_eq_false h]; simp; omega
theorem impl_windowCode_ok (a : TLibrary) (k y : Int) (wd : TRect) (h : SmallL a) : F_impl_windowCode a k y wd = some (wCode a k y wd) := by
  unfold F_impl_windowCode wCode
  rw [impl_IsValidLibrary_ok _ h, Option.bind_some, impl_IsValidRect_ok, Option.bind_some]
  cases hv : okLib a with
  | false => rfl
  | true =>
    rw [Bool.not_true, br_f, Option.bind_some]
    simp only [letO_eq]
    cases hr : okRect wd with
    | false => rfl
    | true =>
      rw [Bool.not_true, br_f, impl_hasCell_ok a k h, Option.bind_some, hv, Bool.true_and]
      cases hb : wB k 0 ((a.fCells.length : Int) - 1) with
      | false => rfl
      | true =>
        have hb2 := (wB_iffG _ _ _).1 hb
        obtain ⟨n, rfl⟩ : ∃ n : Nat, k = (n : Int) := ⟨k.toNat, by omega⟩
        have hn : n < a.fCells.length := by omega
        rw [Bool.not_true, br_f, impl_within_ok, Option.bind_some]
        cases hy : wB y 0 7 with
        | false => rfl
        | true =>
          rw [Bool.not_true, br_f, impl_elementCount_ok a n hv hn, Option.bind_some, lt200']
          rw [Int.toNat_natCast, if_neg (show ¬ (true && true) = false by simp), if_neg (show ¬ true = false by simp), if_neg (show ¬ true = false by simp)]
          by_cases hc : 200 < cnt a.fCells n
          · rw [decide_eq_true hc, br_t, if_pos hc]
          · rw [decide_eq_false hc, br_f, if_neg hc]
/-- the spec's tests, one after the other -/
theorem spec_codes {β : Type} (a : TLibrary) (k y : Int) (wd : TRect) (h : SmallL a) (R : Int → β) (K : Option β) (hl : wB y 0 7 = true) :
    ((((F_spec_IsValidLibrary a).bind fun y8 => br (!(y8)) (some true) ((F_spec_l09Rect wd).bind fun y10 => some (!(y10)))) : Option Bool).bind fun y1 => letO y1 fun w7 => br w7 (some (R 1))
      ((F_spec_l09Has a k).bind fun y13 => br (!(y13)) (some (R 5)) ((F_spec_ElementCount a k).bind fun y15 => br (std.lt 200 y15) (some (R 3)) K))) = if wCode a k y wd = 0 then K else some (R (wCode a k y wd)) := by
  unfold wCode
  rw [spec_IsValidLibrary_ok _ h, Option.bind_some, spec_l09Rect_ok, Option.bind_some]
  cases hv : okLib a with
  | false => rfl
  | true =>
    rw [Bool.not_true, br_f, Option.bind_some]
    simp only [letO_eq]
    cases hr : okRect wd with
    | false => rfl
    | true =>
      rw [Bool.not_true, br_f, spec_l09Has_ok a k h, Option.bind_some, hv, Bool.true_and]
      cases hb : wB k 0 ((a.fCells.length : Int) - 1) with
      | false => rfl
      | true =>
        have hb2 := (wB_iffG _ _ _).1 hb
        obtain ⟨n, rfl⟩ : ∃ n : Nat, k = (n : Int) := ⟨k.toNat, by omega⟩
        have hn : n < a.fCells.length := by omega
        rw [Bool.not_true, br_f, spec_ElementCount_ok a n h hv hn, Option.bind_some, lt200', hl]
        rw [Int.toNat_natCast]
        by_cases hc : 200 < cnt a.fCells n
        · rw [decide_eq_true hc, br_t, if_neg (show ¬ (true && true) = false by simp), if_neg (show ¬ true = false by simp), if_neg (show ¬ true = false by simp), if_pos hc, if_neg (by decide)]
        · rw [decide_eq_false hc, br_f, if_neg (show ¬ (true && true) = false by simp), if_neg (show ¬ true = false by simp), if_neg (show ¬ true = false by simp), if_neg hc, if_pos rfl]
theorem lt100 (n : Nat) : std.lt 100 (std.ofN n) = decide (100 < n) := by
  rw [s_lt, s_ofN]
  by_cases h : 100 < n
  · rw [decide_eq_true h]; simp; omega
  · rw [decide_eq_false h]; simp; omega
noncomputable def capR {β : Type} (c : Int) (l : List β) : List β × Int := if c = 0 then (if 100 < l.length then ([], 3) else (l, 0)) else ([], c)
theorem capR_len {β : Type} (c : Int) (l : List β) : (capR c l).1.length ≤ 100 := by
  unfold capR
  split
  · split
    · simp
    · simp only; omega
  · simp
/- hits: both sides; their marks -/
noncomputable def hitF (y : Int) (wd : TRect) (o : TOccurrence) (j : Nat) (s : TShape) : List TWindowHit := if (std.eq s.fLayer y && ovlG (mvR o.fPlace s.fBox) wd) then [⟨o.fCell, (j : Int), y, mvR o.fPlace s.fBox, o.fPath⟩] else []
noncomputable def hitsOf (a : TLibrary) (y : Int) (wd : TRect) (o : TOccurrence) : List TWindowHit := (List.range (gd a.fCells o.fCell.toNat).fShapes.length).flatMap fun j => hitF y wd o j (gd (gd a.fCells o.fCell.toNat).fShapes j)
theorem hitF_le (y : Int) (wd : TRect) (o : TOccurrence) (j : Nat) (s : TShape) : (hitF y wd o j s).length ≤ 1 := by unfold hitF; split <;> simp
theorem hitsOf_le {a : TLibrary} {o : TOccurrence} (hv : okLib a = true) (ho : GO a o) (y : Int) (wd : TRect) : (hitsOf a y wd o).length ≤ 24 := by
  obtain ⟨c, hc, hcn, _⟩ := ho.cell
  have h8 := (vc_of hv hcn).shapes
  have := fm_len_le (List.range (gd a.fCells c).fShapes.length) (fun j => hitF y wd o j (gd (gd a.fCells c).fShapes j)) 1 (fun l _ => hitF_le _ _ _ _ _)
  rw [List.length_range] at this
  unfold hitsOf
  rw [hc, Int.toNat_natCast]
  omega
theorem hits_le {a : TLibrary} (hv : okLib a = true) (y : Int) (wd : TRect) {L : List TOccurrence} (h : ∀ o ∈ L, GO a o) (hl : L.length ≤ 200) : (L.flatMap (hitsOf a y wd)).length ≤ 4800 := by
  have := fm_len_le L (hitsOf a y wd) 24 (fun o ho => hitsOf_le hv (h o ho) y wd)
  omega
theorem path_le {a : TLibrary} {o : TOccurrence} (ho : GO a o) : o.fPath.length ≤ 8 := by
  obtain ⟨c, _, _, h⟩ := ho.cell; omega
theorem spec_hits (a : TLibrary) (hv : okLib a = true) (y : Int) (wd : TRect) (L : List TOccurrence) (hg : ∀ o ∈ L, GO a o) (hl : L.length ≤ 200) : whileP (L_spec_l12Hits_x7 a y wd L) (0, ([] : List TWindowHit)) = some (L.flatMap (hitsOf a y wd)) := by
  have hb := hits_le hv y wd hg hl
  have e : (List.range L.length).flatMap (fun i => hitsOf a y wd (gd L i)) = L.flatMap (hitsOf a y wd) := range_fm _ _
  refine (while_fm (fun i => hitsOf a y wd (gd L i)) L.length [] 5000 (by rw [e, List.length_nil]; omega) (fun i hi v hvl => ?_) (fun v => ?_)).trans (by rw [e]; try rfl)
  · have ho := hg _ (gd_mem hi)
    obtain ⟨o, hod⟩ : ∃ o, o = gd L i := ⟨_, rfl⟩
    rw [← hod] at ho hvl ⊢
    have hp8 := path_le ho
    obtain ⟨c, hc, hcn, _⟩ := ho.cell
    have h8 := (vc_of hv hcn).shapes
    have e2 : (List.range (gd a.fCells c).fShapes.length).flatMap (fun j => hitF y wd o j (gd (gd a.fCells c).fShapes j)) = hitsOf a y wd o := by
      unfold hitsOf; rw [hc, Int.toNat_natCast]
    have w : whileP (L_spec_l12Hits_x23 a y wd L (i : Int)) (0, v) = some (v ++ hitsOf a y wd o) := by
      refine (while_fm (fun j => hitF y wd o j (gd (gd a.fCells c).fShapes j)) (gd a.fCells c).fShapes.length v 5000 (by rw [e2]; exact hvl) (fun j hj u hu => ?_) (fun u => ?_)).trans (by rw [e2])
      · simp only [L_spec_l12Hits_x23, letO_eq, s_toNn, s_nadd, Nat.zero_add, ← hod, hc]
        rw [ltl_t hj, br_t, req_of (inRl hi), req_of (inRl hj), spec_l10Rect_ok, Option.bind_some, req_of (inRl hj), inc_nat (by omega)]
        unfold hitF at hu ⊢
        simp only [spec_l11Overlap_okG, Option.bind_some, hc]
        cases hlay : std.eq (gd (gd a.fCells c).fShapes j).fLayer y with
        | false => simp [br]
        | true =>
          rw [br_t, Option.bind_some]
          cases hov : ovlG (mvR o.fPlace (gd (gd a.fCells c).fShapes j).fBox) wd with
          | false => simp [br]
          | true =>
            rw [hlay, hov, Bool.and_self, if_pos rfl, List.length_singleton] at hu
            rw [br_t, req_of (inRl hi), req_of (inRl hi), req_of (roomG (by rw [len_eq, len_eq, List.length_nil]; omega) (by omega)), req_of (roomG (by rw [len_eq, len_eq]; simp only [List.length_singleton]; omega) (by omega)), List.nil_append]
            simp
      · simp only [L_spec_l12Hits_x23, letO_eq, s_toNn, s_nadd, Nat.zero_add, ← hod, hc]
        rw [ltl_f, br_f]
    simp only [L_spec_l12Hits_x7, letO_eq, s_toNn, s_nadd, Nat.zero_add, ← hod, hc]
    rw [ltl_t hi, br_t, req_of (inRl hi), req_of (inRl hcn), w, Option.bind_some, inc_nat (by omega)]
  · simp only [L_spec_l12Hits_x7, letO_eq]
    rw [ltl_f, br_f]
theorem shape_NB {a : TLibrary} {o : TOccurrence} (ho : GO a o) {s : TShape} (hs : okShape s = true) : NB (mvR o.fPlace s.fBox) 2600 := by
  unfold okShape at hs
  rw [Bool.and_eq_true] at hs
  exact mvR_NB (S := 2560) (okRect_NB hs.2) (place_small ho) (by omega) (by omega)
theorem impl_hits_ok (a : TLibrary) (hv : okLib a = true) (y : Int) (wd : TRect) (hw : okRect wd = true) (L : List TOccurrence) (hg : ∀ o ∈ L, GO a o) (hl : L.length ≤ 200) : F_impl_hits a L y wd = some (L.flatMap (hitsOf a y wd)) := by
  have hb := hits_le hv y wd hg hl
  have e : (List.range L.length).flatMap (fun i => hitsOf a y wd (gd L i)) = L.flatMap (hitsOf a y wd) := range_fm _ _
  unfold F_impl_hits
  simp only [letO_eq]
  rw [show whileP (L_impl_hits_x5 a L y wd) (0, ([] : List TWindowHit)) = some (L.flatMap (hitsOf a y wd)) from ?_]
  · rfl
  refine (while_fm (fun i => hitsOf a y wd (gd L i)) L.length [] 5000 (by rw [e, List.length_nil]; omega) (fun i hi v hvl => ?_) (fun v => ?_)).trans (by rw [e]; try rfl)
  · have ho := hg _ (gd_mem hi)
    obtain ⟨o, hod⟩ : ∃ o, o = gd L i := ⟨_, rfl⟩
    rw [← hod] at ho hvl ⊢
    have hp8 := path_le ho
    obtain ⟨c, hc, hcn, _⟩ := ho.cell
    have hvc := vc_of hv hcn
    have h8 := hvc.shapes
    have e2 : (List.range (gd a.fCells c).fShapes.length).flatMap (fun j => hitF y wd o j (gd (gd a.fCells c).fShapes j)) = hitsOf a y wd o := by
      unfold hitsOf; rw [hc, Int.toNat_natCast]
    have w : whileP (L_impl_hits_x21 a L y wd (i : Int)) (0, v) = some (v ++ hitsOf a y wd o) := by
      refine (while_fm (fun j => hitF y wd o j (gd (gd a.fCells c).fShapes j)) (gd a.fCells c).fShapes.length v 5000 (by rw [e2]; exact hvl) (fun j hj u hu => ?_) (fun u => ?_)).trans (by rw [e2])
      · have hN := shape_NB ho (hvc.shape _ (gd_mem hj))
        simp only [L_impl_hits_x21, letO_eq, s_toNn, s_nadd, Nat.zero_add, ← hod, hc]
        rw [ltl_t hj, br_t, req_of (inRl hj), impl_moveRect_ok, Option.bind_some, inc_nat (by omega)]
        unfold hitF at hu ⊢
        rw [anywhere_ok hN (okRect_NB hw)]
        simp only [Option.bind_some, hc]
        cases hlay : std.eq (gd (gd a.fCells c).fShapes j).fLayer y with
        | false => simp [br]
        | true =>
          rw [br_t, Option.bind_some]
          cases hov : ovlG (mvR o.fPlace (gd (gd a.fCells c).fShapes j).fBox) wd with
          | false => simp [br]
          | true =>
            rw [hlay, hov, Bool.and_self, if_pos rfl, List.length_singleton] at hu
            rw [br_t, cloneI_ok _ (by omega), Option.bind_some, req_of (roomG (by rw [len_eq, len_eq]; simp only [List.length_singleton]; omega) (by omega))]
            simp
      · simp only [L_impl_hits_x21, letO_eq, s_toNn, s_nadd, Nat.zero_add, ← hod, hc]
        rw [ltl_f, br_f]
    simp only [L_impl_hits_x5, letO_eq, s_toNn, s_nadd, Nat.zero_add, ← hod, hc]
    rw [ltl_t hi, br_t, req_of (inRl hi), req_of (inRl hcn), w, Option.bind_some, inc_nat (by omega)]
  · simp only [L_impl_hits_x5, letO_eq]
    rw [ltl_f, br_f]
noncomputable def hitL (a : TLibrary) (k y : Int) (wd : TRect) : List TWindowHit := (visL a k.toNat wd).flatMap (hitsOf a y wd)
/-- hits of the program have short paths -/
def SmallH (l : List TWindowHit) : Prop := ∀ x ∈ l, x.fPath.length ≤ 8
theorem hitL_small {a : TLibrary} (hv : okLib a = true) {n : Nat} (hn : n < a.fCells.length) (y : Int) (wd : TRect) : SmallH (hitL a (n : Int) y wd) := by
  intro x hx
  unfold hitL at hx
  obtain ⟨o, ho, hx⟩ := List.mem_flatMap.1 hx
  have hg := visL_good a hv wd hn o ho
  unfold hitsOf at hx
  obtain ⟨j, _, hx⟩ := List.mem_flatMap.1 hx
  unfold hitF at hx
  split at hx
  · rw [List.mem_singleton] at hx; rw [hx]; exact path_le hg
  · cases hx
theorem eqWindowHit_ok (x : TWindowHit) (h : x.fPath.length ≤ 10000000) : F_laws_eqWindowHit x x = some true := by
  unfold F_laws_eqWindowHit
  simp only [notEq (eq_true' rfl), br_f, laws_eqRect_ok, Option.bind_some, Bool.not_true, eqInt64S_ok _ h]
theorem eqWindowHitS_ok (l : List TWindowHit) (h : l.length ≤ 10000000) (hs : SmallH l) : F_laws_eqWindowHitS l l = some true := by
  unfold F_laws_eqWindowHitS
  rw [notEq (eq_true' rfl), br_f]
  refine Eq.trans (bind_of (while_eq (r := .inr ()) l.length (fun i hi => ?_) ?_)) rfl
  · simp only [L_laws_eqWindowHitS_x2, letO_eq, s_toNn]
    rw [ltl_t hi, br_t, req_of (inRl hi), req_of (inRl hi), eqWindowHit_ok _ (by have := hs _ (gd_mem hi); omega), Option.bind_some, inc_nat (by omega)]; rfl
  · simp only [L_laws_eqWindowHitS_x2, letO_eq]
    rw [ltl_f]; rfl
def wtH (x : TWindowHit) : Nat := 7 + x.fPath.length
def mHit (x : TWindowHit) (K : Nat) : TWindowHit := ⟨((K : Nat) : Int), ((K + 1 : Nat) : Int), ((K + 1 + 1 : Nat) : Int), ⟨((K + 1 + 1 + 1 : Nat) : Int), ((K + 1 + 1 + 1 + 1 : Nat) : Int), ((K + 1 + 1 + 1 + 1 + 1 : Nat) : Int), ((K + 1 + 1 + 1 + 1 + 1 + 1 : Nat) : Int)⟩, mInt (K + 1 + 1 + 1 + 1 + 1 + 1 + 1) x.fPath.length⟩
def offH (l : List TWindowHit) : Nat → Nat
  | 0 => 0
  | i + 1 => offH l i + wtH (gd l i)
theorem offH_le {l : List TWindowHit} (hs : SmallH l) : ∀ i, i ≤ l.length → offH l i ≤ i * 15
  | 0, _ => by simp [offH]
  | i + 1, h => by
    have h1 := offH_le hs i (by omega)
    have h2 := hs _ (gd_mem (show i < l.length by omega))
    show offH l i + wtH (gd l i) ≤ _
    unfold wtH; omega
def mH (l : List TWindowHit) (k i : Nat) : TWindowHit := mHit (gd l i) (k + offH l i)
set_option maxHeartbeats 4000000 in
theorem markWindowHitS_ok (l : List TWindowHit) (k : Nat) (hl : l.length ≤ 1048576) (hs : SmallH l) (hk : k ≤ 100000000000000) : F_laws_markWindowHitS_mob l k = some (((k + offH l l.length : Nat) : Int), (List.range l.length).map (mH l k)) := by
  unfold F_laws_markWindowHitS_mob
  refine Eq.trans (bind_of (while_from (r := (((k + offH l l.length : Nat) : Int), (List.range l.length).map (mH l k))) (fun i => (((k + offH l i : Nat) : Int), (i : Int), markd (mH l k) l i)) l.length (by simp [markd_zero, offH]) (fun i hi => ?_) ?_)) ?_
  · have ho := offH_le hs i (by omega)
    have h2 := hs _ (gd_mem hi)
    obtain ⟨c, hcd⟩ : ∃ c, c = gd l i := ⟨_, rfl⟩
    obtain ⟨K, hK⟩ : ∃ K, K = k + offH l i := ⟨_, rfl⟩
    rw [← hcd] at h2
    have hml : (markd (mH l k) l i).length = l.length := markd_len _ _ _ (by omega)
    have hmi : i < (markd (mH l k) l i).length := by rw [hml]; exact hi
    have hin : std.inR (i : Int) l.length := inRl hi
    have hlt : std.lt (i : Int) (std.ofN l.length) = true := ltl_t hi
    have hg : gd (markd (mH l k) l i) i = c := by rw [markd_gdM _ _ _ hi, hcd]
    have e1 : offH l (i + 1) = offH l i + wtH c := by rw [hcd]; rfl
    have hP := markInt64S_ok c.fPath (K + 1 + 1 + 1 + 1 + 1 + 1 + 1) (by omega)
    have hPl : (mInt (K + 1 + 1 + 1 + 1 + 1 + 1 + 1) c.fPath.length).length = c.fPath.length := by simp [mInt]
    have a1 : std.add .i64 ((K : Nat) : Int) 1 = ((K + 1 : Nat) : Int) := inc_nat (by omega)
    have a2 : std.add .i64 ((K + 1 : Nat) : Int) 1 = ((K + 1 + 1 : Nat) : Int) := inc_nat (by omega)
    have a3 : std.add .i64 ((K + 1 + 1 : Nat) : Int) 1 = ((K + 1 + 1 + 1 : Nat) : Int) := inc_nat (by omega)
    have a4 : std.add .i64 ((K + 1 + 1 + 1 : Nat) : Int) 1 = ((K + 1 + 1 + 1 + 1 : Nat) : Int) := inc_nat (by omega)
    have a5 : std.add .i64 ((K + 1 + 1 + 1 + 1 : Nat) : Int) 1 = ((K + 1 + 1 + 1 + 1 + 1 : Nat) : Int) := inc_nat (by omega)
    have a6 : std.add .i64 ((K + 1 + 1 + 1 + 1 + 1 : Nat) : Int) 1 = ((K + 1 + 1 + 1 + 1 + 1 + 1 : Nat) : Int) := inc_nat (by omega)
    have a7 : std.add .i64 ((K + 1 + 1 + 1 + 1 + 1 + 1 : Nat) : Int) 1 = ((K + 1 + 1 + 1 + 1 + 1 + 1 + 1 : Nat) : Int) := inc_nat (by omega)
    have b1 : std.add .i64 (i : Int) 1 = ((i + 1 : Nat) : Int) := inc_nat (by omega)
    rw [← hK]
    simp only [L_laws_markWindowHitS_mob_x4, letO_eq, s_toNn, s_nadd, Nat.zero_add, len_eq, List.length_set, hml, hlt, br_t, Option.bind_some, req_of hin, req_reflM, req_true, List.set_set, gd_set_selfM _ _ _ hmi, hg, a1, a2, a3, a4, a5, a6, a7, hP, hPl, b1]
    rw [e1, ← markd_set (mH l k) l i hi]
    have e2 : mH l k i = mHit c K := by unfold mH; rw [← hcd, ← hK]
    have e3 : K + 1 + 1 + 1 + 1 + 1 + 1 + 1 + c.fPath.length = k + (offH l i + wtH c) := by unfold wtH; omega
    rw [e2, e3]
    rfl
  · simp only [L_laws_markWindowHitS_mob_x4, letO_eq]
    rw [ltl_f, br_f, markd_full]
  · simp only [letO_eq]
    rw [req_of (by simp [len_eq])]
theorem heldWindowHitS_ok (l : List TWindowHit) (k : Nat) (hl : l.length ≤ 1048576) (hs : SmallH l) (hk : k ≤ 100000000000000) : F_laws_heldWindowHitS ((List.range l.length).map (mH l k)) k = some ((k + offH l l.length : Nat) : Int) := by
  unfold F_laws_heldWindowHitS
  have hL : ((List.range l.length).map (mH l k)).length = l.length := by simp
  refine Eq.trans (bind_of (while_from (r := .inr ((k + offH l l.length : Nat) : Int)) (fun i => (((k + offH l i : Nat) : Int), (i : Int))) l.length rfl (fun i hi => ?_) ?_)) rfl
  · have ho := offH_le hs i (by omega)
    have h2 := hs _ (gd_mem hi)
    obtain ⟨c, hcd⟩ : ∃ c, c = gd l i := ⟨_, rfl⟩
    obtain ⟨K, hK⟩ : ∃ K, K = k + offH l i := ⟨_, rfl⟩
    rw [← hcd] at h2
    have hin : std.inR (i : Int) l.length := inRl hi
    have hlt : std.lt (i : Int) (std.ofN l.length) = true := ltl_t hi
    have e1 : offH l (i + 1) = offH l i + wtH c := by rw [hcd]; rfl
    have e2 : mH l k i = mHit c K := by unfold mH; rw [← hcd, ← hK]
    have hP := heldInt64S_ok c.fPath.length (K + 1 + 1 + 1 + 1 + 1 + 1 + 1) (by omega)
    have e3 : K + 1 + 1 + 1 + 1 + 1 + 1 + 1 + c.fPath.length = k + (offH l i + wtH c) := by unfold wtH; omega
    have a1 : std.add .i64 ((K : Nat) : Int) 1 = ((K + 1 : Nat) : Int) := inc_nat (by omega)
    have a2 : std.add .i64 ((K + 1 : Nat) : Int) 1 = ((K + 1 + 1 : Nat) : Int) := inc_nat (by omega)
    have a3 : std.add .i64 ((K + 1 + 1 : Nat) : Int) 1 = ((K + 1 + 1 + 1 : Nat) : Int) := inc_nat (by omega)
    have a4 : std.add .i64 ((K + 1 + 1 + 1 : Nat) : Int) 1 = ((K + 1 + 1 + 1 + 1 : Nat) : Int) := inc_nat (by omega)
    have a5 : std.add .i64 ((K + 1 + 1 + 1 + 1 : Nat) : Int) 1 = ((K + 1 + 1 + 1 + 1 + 1 : Nat) : Int) := inc_nat (by omega)
    have a6 : std.add .i64 ((K + 1 + 1 + 1 + 1 + 1 : Nat) : Int) 1 = ((K + 1 + 1 + 1 + 1 + 1 + 1 : Nat) : Int) := inc_nat (by omega)
    have a7 : std.add .i64 ((K + 1 + 1 + 1 + 1 + 1 + 1 : Nat) : Int) 1 = ((K + 1 + 1 + 1 + 1 + 1 + 1 + 1 : Nat) : Int) := inc_nat (by omega)
    have b1 : std.add .i64 (i : Int) 1 = ((i + 1 : Nat) : Int) := inc_nat (by omega)
    rw [← hK]
    simp only [L_laws_heldWindowHitS_x3, letO_eq, s_toNn, len_eq, hL, hlt, br_t, req_of hin, range_gd (mH l k) l.length i hi, a1, a2, a3, a4, a5, a6, a7, b1, e2]
    simp only [mHit, notEq (eq_true' rfl), br_f, hP, Option.bind_some]
    rw [lt_false (by omega), br_f, e1, e3]
  · simp only [L_laws_heldWindowHitS_x3, letO_eq, len_eq, hL]
    rw [lt_false (by rw [s_ofN]; omega), br_f]
/- WindowShapes: the statement's side -/
noncomputable def wsR (a : TLibrary) (k y : Int) (wd : TRect) : List TWindowHit × Int := capR (wCode a k y wd) (hitL a k y wd)
theorem wsR_small (a : TLibrary) (k y : Int) (wd : TRect) : SmallH (wsR a k y wd).1 := by
  unfold wsR capR
  split
  · rename_i hc
    obtain ⟨hv, hw, ⟨n, rfl, hn, hcn⟩, _⟩ := wCode_zero hc
    split
    · intro x hx; cases hx
    · exact hitL_small hv hn y wd
  · intro x hx; cases hx
theorem spec_codesY {β : Type} (a : TLibrary) (k y : Int) (wd : TRect) (h : SmallL a) (R : Int → β) (K : Option β) :
    ((((F_spec_IsValidLibrary a).bind fun y8 => br (!(y8)) (some true) ((F_spec_l09Rect wd).bind fun y10 => some (!(y10)))) : Option Bool).bind fun y1 => letO y1 fun w7 => br w7 (some (R 1))
      ((F_spec_l09Has a k).bind fun y13 => br (!(y13)) (some (R 5)) ((F_spec_l09Layer y).bind fun y15 => br (!(y15)) (some (R 2)) ((F_spec_ElementCount a k).bind fun y17 => br (std.lt 200 y17) (some (R 3)) K)))) = if wCode a k y wd = 0 then K else some (R (wCode a k y wd)) := by
  rw [spec_l09Layer_ok]
  cases hl : wB y 0 7 with
  | true => exact spec_codes a k y wd h R K hl
  | false =>
    unfold wCode
    rw [spec_IsValidLibrary_ok _ h, Option.bind_some, spec_l09Rect_ok, Option.bind_some]
    cases hv : okLib a with
    | false => rfl
    | true =>
      rw [Bool.not_true, br_f, Option.bind_some]
      simp only [letO_eq]
      cases hr : okRect wd with
      | false => rfl
      | true =>
        rw [Bool.not_true, br_f, spec_l09Has_ok a k h, Option.bind_some, hv, Bool.true_and]
        cases hb : wB k 0 ((a.fCells.length : Int) - 1) with
        | false => rfl
        | true => rw [hl]; rfl
theorem spec_WindowShapes_ok (a : TLibrary) (k y : Int) (wd : TRect) (h : SmallL a) : F_spec_WindowShapes a k y wd = some (wsR a k y wd) := by
  unfold F_spec_WindowShapes wsR
  refine (spec_codesY a k y wd h (fun c => (([] : List TWindowHit), c)) _).trans ?_
  unfold capR
  by_cases hc : wCode a k y wd = 0
  · obtain ⟨hv, hw, ⟨n, rfl, hn, hcn⟩, _⟩ := wCode_zero hc
    have hl := visL_le a hv wd n hn
    rw [if_pos hc, if_pos hc]
    unfold F_spec_l12Hits
    rw [spec_visited_ok a hv wd n hn hcn]
    simp only [letO_eq, Option.bind_some]
    rw [spec_hits a hv y wd _ (visL_good a hv wd hn) (by omega)]
    simp only [Option.bind_some, len_eq, lt100]
    show br (decide (100 < (hitL a (n : Int) y wd).length)) _ _ = _
    split <;> rename_i hh
    · rw [decide_eq_true hh, br_t]
    · rw [decide_eq_false hh, br_f]; rfl
  · rw [if_neg hc, if_neg hc]
/- ProbeUnit -/
noncomputable def prb (a : TLibrary) (k : Int) (wd : TRect) : Nat → List TWindowHit → Int ⊕ List TWindowHit
  | 0, acc => .inr acc
  | n + 1, acc => if 100 < (hitL a k (n : Int) wd).length then .inl 3 else prb a k wd n (acc ++ hitL a k (n : Int) wd)
noncomputable def puC (a : TLibrary) (k : Int) (p : TPoint) : Int := if okPoint p = true then wCode a k 0 (unitR p) else 1
noncomputable def puR (a : TLibrary) (k : Int) (p : TPoint) : List TWindowHit × Int :=
  if puC a k p = 0 then (match prb a k (unitR p) 8 [] with | .inl c => ([], c) | .inr l => (l, 0)) else ([], puC a k p)
theorem prb_small {a : TLibrary} (hv : okLib a = true) {m : Nat} (hm : m < a.fCells.length) (wd : TRect) : ∀ n acc, SmallH acc → ∀ l, prb a (m : Int) wd n acc = .inr l → SmallH l
  | 0, acc, h, l, e => by injection e with e; subst e; exact h
  | n + 1, acc, h, l, e => by
    unfold prb at e
    split at e
    · cases e
    · refine prb_small hv hm wd n _ (fun x hx => ?_) l e
      rcases List.mem_append.1 hx with hx | hx
      · exact h x hx
      · exact hitL_small hv hm _ _ x hx
theorem prb_len (a : TLibrary) (k : Int) (wd : TRect) : ∀ n acc l, prb a k wd n acc = .inr l → l.length ≤ acc.length + 100 * n
  | 0, acc, l, e => by injection e with e; subst e; omega
  | n + 1, acc, l, e => by
    unfold prb at e
    split at e
    · cases e
    · have := prb_len a k wd n _ l e
      rw [List.length_append] at this
      omega
theorem wCode_y (a : TLibrary) (k : Int) {y z : Int} (wd : TRect) (hy : wB y 0 7 = true) (hz : wB z 0 7 = true) : wCode a k y wd = wCode a k z wd := by
  unfold wCode; rw [hy, hz]
theorem wB7 {n : Nat} (h : n < 8) : wB (n : Int) 0 7 = true := by
  unfold wB
  have h1 : (0 : Int) ≤ (n : Int) := by omega
  have h2 : (n : Int) ≤ 7 := by omega
  simp [std, h1, h2]
theorem le0f : std.le 0 (((0 : Nat) : Int) - 1) = false := by simp [std]
theorem le0t (n : Nat) : std.le 0 ((n : Nat) : Int) = true := by simp [std]
theorem natm1 (n : Nat) : ((n + 1 : Nat) : Int) - 1 = (n : Int) := by omega
theorem spec_prb (a : TLibrary) (k : Int) (p : TPoint) (h : SmallL a) (hc : wCode a k 0 (unitR p) = 0) : ∀ n acc, n ≤ 8 → acc.length + 100 * n ≤ 1000 → whileP (L_spec_ProbeUnit_x17 a k p) (((n : Nat) : Int) - 1, acc) = some (prb a k (unitR p) n acc)
  | 0, acc, hn, ha => by
    rw [whileP_unfold]
    simp only [L_spec_ProbeUnit_x17, letO_eq]
    rw [le0f, br_f]; rfl
  | n + 1, acc, hn, ha => by
    rw [whileP_unfold, natm1]
    simp only [L_spec_ProbeUnit_x17, letO_eq]
    have hw : wCode a k (n : Int) (unitR p) = 0 := by rw [wCode_y a k (unitR p) (wB7 (by omega)) (show wB 0 0 7 = true from wB7 (n := 0) (by omega))]; exact hc
    rw [le0t, br_t, show (TRect.mk p.fX p.fY (std.add .i64 p.fX 1) (std.add .i64 p.fY 1)) = unitR p from rfl, show TLibrary.mk a.fCells = a from rfl, spec_WindowShapes_ok a k _ _ h, Option.bind_some]
    unfold prb wsR capR
    rw [hw, if_pos rfl]
    by_cases h1 : 100 < (hitL a k (n : Int) (unitR p)).length
    · rw [if_pos h1, if_pos h1]
      rfl
    · rw [if_neg h1, if_neg h1, notEq (eq_true' rfl), br_f, req_of (roomG (by rw [s_nadd, len_eq, len_eq]; simp only; omega) (by omega)), sub_id (by omega) (by omega)]
      exact spec_prb a k p h hc n _ (by omega) (by rw [List.length_append]; simp only; omega)
theorem spec_ProbeUnit_ok (a : TLibrary) (k : Int) (p : TPoint) (h : SmallL a) : F_spec_ProbeUnit a k p = some (puR a k p) := by
  unfold F_spec_ProbeUnit puR puC
  rw [show TLibrary.mk a.fCells = a from rfl, show TPoint.mk p.fX p.fY = p from rfl, spec_IsValidLibrary_ok _ h, spec_l09Unit_ok, Option.bind_some, Option.bind_some]
  cases hv : okLib a with
  | false =>
    have hc : wCode a k 0 (unitR p) = 1 := by unfold wCode; rw [hv]; rfl
    rw [hc]
    simp only [Bool.not_false, br_t, Option.bind_some, letO_eq, ite_self]
    rfl
  | true =>
    cases hp : okPoint p with
    | false => rfl
    | true =>
      simp only [Bool.not_true, br_f, Option.bind_some, letO_eq, if_true]
      by_cases hc : wCode a k 0 (unitR p) = 0
      · rw [if_pos hc, show ((7 : Int), ([] : List TWindowHit)) = (((8 : Nat) : Int) - 1, []) from rfl, spec_prb a k p h hc 8 [] (by omega) (by simp), Option.bind_some]
        cases prb a k (unitR p) 8 [] <;> rfl
      · rw [if_neg hc, whileP_unfold]
        have hw : wCode a k 7 (unitR p) = wCode a k 0 (unitR p) := wCode_y a k (unitR p) (show wB 7 0 7 = true from wB7 (n := 7) (by omega)) (show wB 0 0 7 = true from wB7 (n := 0) (by omega))
        simp only [L_spec_ProbeUnit_x17, letO_eq]
        rw [show std.le 0 7 = true from le0t 7, br_t, show (TRect.mk p.fX p.fY (std.add .i64 p.fX 1) (std.add .i64 p.fY 1)) = unitR p from rfl, show TLibrary.mk a.fCells = a from rfl, spec_WindowShapes_ok a k _ _ h, Option.bind_some]
        unfold wsR capR
        rw [hw, if_neg hc, eq_false' hc, s_not, Bool.not_false, br_t]
        rfl
theorem impl_prb (a : TLibrary) (m : Nat) (wd : TRect) (hv : okLib a = true) (hw : okRect wd = true) (hm : m < a.fCells.length) (hcn : cnt a.fCells m ≤ 200) : ∀ n acc, n ≤ 8 → acc.length + 100 * n ≤ 1000 → whileP (L_impl_ProbeUnit_x13 a wd (visL a m wd)) (((n : Nat) : Int) - 1, acc) = some (prb a (m : Int) wd n acc)
  | 0, acc, hn, ha => by
    rw [whileP_unfold]
    simp only [L_impl_ProbeUnit_x13, letO_eq]
    rw [le0f, br_f]; rfl
  | n + 1, acc, hn, ha => by
    rw [whileP_unfold, natm1]
    simp only [L_impl_ProbeUnit_x13, letO_eq]
    have hl := visL_le a hv wd m hm
    rw [le0t, br_t, impl_hits_ok a hv _ wd hw _ (visL_good a hv wd hm) (by omega), Option.bind_some, show (visL a m wd).flatMap (hitsOf a (n : Int) wd) = hitL a (m : Int) (n : Int) wd from rfl, len_eq, lt100]
    unfold prb
    by_cases h1 : 100 < (hitL a (m : Int) (n : Int) wd).length
    · rw [if_pos h1, decide_eq_true h1, br_t]
    · rw [if_neg h1, decide_eq_false h1, br_f, req_of (roomG (by rw [s_nadd, len_eq]; omega) (by omega)), sub_id (by omega) (by omega)]
      exact impl_prb a m wd hv hw hm hcn n _ (by omega) (by rw [List.length_append]; omega)
theorem impl_ProbeUnit_ok (a : TLibrary) (k : Int) (p : TPoint) (h : SmallL a) : F_impl_ProbeUnit a k p = some (puR a k p) := by
  unfold F_impl_ProbeUnit puR puC
  rw [show TPoint.mk p.fX p.fY = p from rfl, impl_isUnitCell_ok, Option.bind_some]
  cases hp : okPoint p with
  | false => rfl
  | true =>
    rw [Bool.not_true, br_f, show F_impl_unitRect p = some (unitR p) from rfl, Option.bind_some, impl_windowCode_ok a k 0 _ h, Option.bind_some, if_pos rfl]
    by_cases hc : wCode a k 0 (unitR p) = 0
    · obtain ⟨hv, hw, ⟨n, rfl, hn, hcn⟩, _⟩ := wCode_zero hc
      rw [hc, notEq (eq_true' rfl), br_f, impl_visited_ok a hv _ hw n hn hcn, Option.bind_some, if_pos rfl]
      simp only [letO_eq]
      rw [show ((7 : Int), ([] : List TWindowHit)) = (((8 : Nat) : Int) - 1, []) from rfl, impl_prb a n _ hv hw hn hcn 8 [] (by omega) (by simp), Option.bind_some]
      cases prb a (n : Int) (unitR p) 8 [] <;> rfl
    · rw [if_neg hc, eq_false' hc, s_not, Bool.not_false, br_t]
theorem puR_facts (a : TLibrary) (k : Int) (p : TPoint) : SmallH (puR a k p).1 ∧ (puR a k p).1.length ≤ 800 := by
  unfold puR
  split
  · rename_i hc
    have hp : okPoint p = true := by
      unfold puC at hc
      split at hc
      · assumption
      · cases hc
    have hc' : wCode a k 0 (unitR p) = 0 := by unfold puC at hc; rw [if_pos hp] at hc; exact hc
    obtain ⟨hv, hw, ⟨n, rfl, hn, hcn⟩, _⟩ := wCode_zero hc'
    split
    · exact ⟨fun x hx => (by cases hx), by simp⟩
    · rename_i l hl
      refine ⟨prb_small hv hn _ 8 [] (fun x hx => by cases hx) l hl, ?_⟩
      have := prb_len a (n : Int) (unitR p) 8 [] l hl
      simpa using this
  · exact ⟨fun x hx => (by cases hx), by simp⟩
theorem lawW_ProbeUnit (a : TLibrary) (k : Int) (p : TPoint) (w : wfLibrary a) (_ : (Lit.int .i64 k).wf = true) (_ : wfPoint p) : F_laws_FnExactProbeUnit a k p = some true := by
  unfold F_laws_FnExactProbeUnit
  try rw [show TLibrary.mk a.fCells = a from rfl]
  obtain ⟨z, hz, hs⟩ := laws_szLibrary_ok a (wfLb_of w)
  rw [hz, Option.bind_some, br_bool, s_lt]
  by_cases h0 : z < 0
  · rw [if_pos (by simpa using h0)]
  · have h := hs (by omega)
    obtain ⟨hsm, hlen⟩ := puR_facts a k p
    have hr : F_laws_toPoint p = some p := rfl
    have m1 := markLibrary_ok a 1 h (by omega)
    have m2 := markWindowHitS_ok (puR a k p).1 1 (by omega) hsm (by omega)
    have m3 := heldWindowHitS_ok (puR a k p).1 1 (by omega) hsm (by omega)
    have e1 : ((1 : Nat) : Int) = 1 := rfl
    rw [e1] at m1 m2 m3
    have hml : ((List.range (puR a k p).1.length).map (mH (puR a k p).1 1)).length = (puR a k p).1.length := by simp
    rw [if_neg (by simpa using h0)]
    simp only [laws_toLibrary_ok a h, show TPoint.mk p.fX p.fY = p from rfl, hr, Option.bind_some, spec_ProbeUnit_ok a k p h, impl_ProbeUnit_ok a k p h, laws_eqLibrary_ok a h, eqWindowHitS_ok _ (show (puR a k p).1.length ≤ 10000000 by omega) hsm, Bool.not_true, br_f, m1, m2, m3, letO_eq, eq_true' rfl, s_not]
    rw [req_of (by simp [len_eq]), lt_false (by omega), br_f, Option.bind_some, br_f, req_of (by rw [len_eq, len_eq, hml]), req_of (by rw [len_eq, len_eq, hml]), lt_false (by omega), br_f, req_of (by rw [len_eq, len_eq, hml])]
    rfl
end Go.Proofs.YtmdlnjeppemipaaGreat.AM
