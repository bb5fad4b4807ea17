/-
  What the functions that the law reaches compute, and that they do. No condition.
-/
import Derived.Test.YtpobpihakgegbaaGreatAmSX
import Derived.Test.YtpobpihakgegbaaGreatAmP
import Derived.Test.YtpobpihakgegbaaGreatAmSR
namespace Go.Proofs.YtpobpihakgegbaaGreat.AM
open Go Go.Proofs Go.RowKit
set_option linter.unusedVariables false
set_option linter.unusedSimpArgs false
set_option maxRecDepth 100000

/- the occurrences that are visited are good; windowCode -/
theorem occG_good (a : TLibrary) (hv : okLib a = true) (p : Nat → TTransform → Bool) : ∀ n o, GO a o → ∀ q ∈ occG a p n o, GO a q := by
  intro n
  induction n with
  | zero => intro o _ q hq; simp [occG] at hq
  | succ n ih =>
    intro o ho q hq
    rw [occG] at hq
    rcases List.mem_cons.1 hq with rfl | hq
    · exact ho
    · rw [ctr_range] at hq
      obtain ⟨i, hi, hq⟩ := List.mem_flatMap.1 hq
      rw [List.mem_range] at hi
      split at hq
      · exact ih _ (ho.child hv (gd_mem hi) _).1 q hq
      · cases hq
theorem visL_good (a : TLibrary) (hv : okLib a = true) (wd : TRect) {k : Nat} (hk : k < a.fCells.length) : ∀ o ∈ visL a k wd, GO a o := occG_good a hv _ 64 _ (rootO_good a hv hk)
noncomputable def wCode (a : TLibrary) (k y : Int) (wd : TRect) : Int :=
  if (okLib a && okRect wd) = false then 1 else if wB k 0 ((a.fCells.length : Int) - 1) = false then 5 else if wB y 0 7 = false then 2 else if 200 < cnt a.fCells k.toNat then 3 else 0
theorem wCode_zero {a : TLibrary} {k y : Int} {wd : TRect} (h : wCode a k y wd = 0) : okLib a = true ∧ okRect wd = true ∧ (∃ n : Nat, k = (n : Int) ∧ n < a.fCells.length ∧ cnt a.fCells n ≤ 200) ∧ wB y 0 7 = true := by
  unfold wCode at h
  split at h
  · cases h
  · rename_i h1
    rw [Bool.not_eq_false, Bool.and_eq_true] at h1
    split at h
    · cases h
    · rename_i h2
      rw [Bool.not_eq_false, wB_iffG] at h2
      split at h
      · cases h
      · rename_i h3
        split at h
        · cases h
        · have := okLib_leG h1.1
          exact ⟨h1.1, h1.2, ⟨k.toNat, by omega, by omega, by omega⟩, by rwa [Bool.not_eq_false] at h3⟩
theorem lt200' (n : Nat) : std.lt 200 ((n : Nat) : Int) = decide (200 < n) := by
  rw [s_lt]
  by_cases h : 200 < n
  · rw [decide_eq_true h]; simp; omega
  · rw [decide_eq_false h]; simp; omega
theorem impl_windowCode_ok (a : TLibrary) (k y : Int) (wd : TRect) (h : SmallL a) : F_impl_windowCode a k y wd = some (wCode a k y wd) := by
  unfold F_impl_windowCode wCode
  rw [impl_IsValidLibrary_ok _ h, Option.bind_some, impl_IsValidRect_ok, Option.bind_some]
  cases hv : okLib a with
  | false => rfl
  | true =>
    rw [Bool.not_true, br_f, Option.bind_some]
    simp only [letO_eq]
    cases hr : okRect wd with
    | false => rfl
    | true =>
      rw [Bool.not_true, br_f, impl_hasCell_ok a k h, Option.bind_some, hv, Bool.true_and]
      cases hb : wB k 0 ((a.fCells.length : Int) - 1) with
      | false => rfl
      | true =>
        have hb2 := (wB_iffG _ _ _).1 hb
        obtain ⟨n, rfl⟩ : ∃ n : Nat, k = (n : Int) := ⟨k.toNat, by omega⟩
        have hn : n < a.fCells.length := by omega
        rw [Bool.not_true, br_f, impl_within_ok, Option.bind_some]
        cases hy : wB y 0 7 with
        | false => rfl
        | true =>
          rw [Bool.not_true, br_f, impl_elementCount_ok a n hv hn, Option.bind_some, lt200']
          rw [Int.toNat_natCast, if_neg (show ¬ (true && true) = false by simp), if_neg (show ¬ true = false by simp), if_neg (show ¬ true = false by simp)]
          by_cases hc : 200 < cnt a.fCells n
          · rw [decide_eq_true hc, br_t, if_pos hc]
          · rw [decide_eq_false hc, br_f, if_neg hc]
/-- the spec's tests, one after the other -/
theorem spec_codes {β : Type} (a : TLibrary) (k y : Int) (wd : TRect) (h : SmallL a) (R : Int → β) (K : Option β) (hl : wB y 0 7 = true) :
    ((((F_spec_IsValidLibrary a).bind fun y8 => br (!(y8)) (some true) ((F_spec_l09Rect wd).bind fun y10 => some (!(y10)))) : Option Bool).bind fun y1 => letO y1 fun w7 => br w7 (some (R 1))
      ((F_spec_l09Has a k).bind fun y13 => br (!(y13)) (some (R 5)) ((F_spec_ElementCount a k).bind fun y15 => br (std.lt 200 y15) (some (R 3)) K))) = if wCode a k y wd = 0 then K else some (R (wCode a k y wd)) := by
  unfold wCode
  rw [spec_IsValidLibrary_ok _ h, Option.bind_some, spec_l09Rect_ok, Option.bind_some]
  cases hv : okLib a with
  | false => rfl
  | true =>
    rw [Bool.not_true, br_f, Option.bind_some]
    simp only [letO_eq]
    cases hr : okRect wd with
    | false => rfl
    | true =>
      rw [Bool.not_true, br_f, spec_l09Has_ok a k h, Option.bind_some, hv, Bool.true_and]
      cases hb : wB k 0 ((a.fCells.length : Int) - 1) with
      | false => rfl
      | true =>
        have hb2 := (wB_iffG _ _ _).1 hb
        obtain ⟨n, rfl⟩ : ∃ n : Nat, k = (n : Int) := ⟨k.toNat, by omega⟩
        have hn : n < a.fCells.length := by omega
        rw [Bool.not_true, br_f, spec_ElementCount_ok a n h hv hn, Option.bind_some, lt200', hl]
        rw [Int.toNat_natCast]
        by_cases hc : 200 < cnt a.fCells n
        · rw [decide_eq_true hc, br_t, if_neg (show ¬ (true && true) = false by simp), if_neg (show ¬ true = false by simp), if_neg (show ¬ true = false by simp), if_pos hc, if_neg (by decide)]
        · rw [decide_eq_false hc, br_f, if_neg (show ¬ (true && true) = false by simp), if_neg (show ¬ true = false by simp), if_neg (show ¬ true = false by simp), if_neg hc, if_pos rfl]
theorem lt100 (n : Nat) : std.lt 100 (std.ofN n) = decide (100 < n) := by
  rw [s_lt, s_ofN]
  by_cases h : 100 < n
  · rw [decide_eq_true h]; simp; omega
  · rw [decide_eq_false h]; simp; omega
noncomputable def capR {β : Type} (c : Int) (l : List β) : List β × Int := if c = 0 then (if 100 < l.length then ([], 3) else (l, 0)) else ([], c)
/- what the marks write -/
theorem gd_set_selfM {α : Type} [Inhabited α] (l : List α) (i : Nat) (x : α) (h : i < l.length) : gd (l.set i x) i = x := by
  rw [gd_lt (by simpa using h)]; simp
theorem req_reflM {α β : Type} (x : α) (k : Option β) : req (x = x) k = k := req_of rfl
theorem markText_ex (n : Nat) (h : n ≤ 1000000000000000) : ∃ s, F_laws_markText (n : Int) = some s ∧ s.size ≤ 20 := by
  unfold F_laws_markText
  by_cases h0 : n = 0
  · subst h0
    exact ⟨_, rfl, by decide⟩
  · rw [le_false (by omega), br_f]
    obtain ⟨r, h1, h2⟩ := while_ex (step := L_laws_markText_x3) (x0 := ((n : Int), ByteArray.mk #[])) (fun x => ∃ v : Nat, x.1 = (v : Int) ∧ v * 10 ^ x.2.size ≤ n ∧ x.2.size ≤ 17) (fun r => r.size ≤ 17) (fun x => x.1.toNat) ⟨n, rfl, by simp [ByteArray.size], by simp [ByteArray.size]⟩ (by
      rintro ⟨x, s⟩ ⟨v, hv, hle, hs⟩
      simp only at hv hle hs
      subst hv
      simp only [L_laws_markText_x3, letO_eq]
      by_cases hp : 0 < v
      · have hs15 : s.size ≤ 15 := by
          rcases Nat.lt_or_ge s.size 16 with h | h
          · omega
          · have h3 : 10 ^ 16 ≤ 10 ^ s.size := Nat.pow_le_pow_right (by omega) h
            have h4 : 1 * 10 ^ s.size ≤ v * 10 ^ s.size := Nat.mul_le_mul_right _ hp
            have h5 : 10 ^ 16 = 10000000000000000 := by decide
            omega
        have nz : std.nz 10 := by rw [s_nz]; decide
        have hq : std.quo .i64 (v : Int) 10 = ((v / 10 : Nat) : Int) := by
          show IntKind.i64.wrap ((v : Int).tdiv 10) = _
          have e : (v : Int).tdiv 10 = ((v / 10 : Nat) : Int) := rfl
          have hv15 : v ≤ n := by
            have h4 : v * 1 ≤ v * 10 ^ s.size := Nat.mul_le_mul_left _ (Nat.pos_of_ne_zero (by simp))
            omega
          rw [e, wrap_id (by omega) (by omega)]
        have hsz : (std.scat (std.ofBytes (len [std.conv .u8 (std.add .i64 48 (std.rem (v : Int) 10))]) fun i => gd [std.conv .u8 (std.add .i64 48 (std.rem (v : Int) 10))] (0 + i)) s).size = s.size + 1 := by
          rw [scat_size]
          have := ofL_size [std.conv .u8 (std.add .i64 48 (std.rem (v : Int) 10))]
          unfold ofL at this
          rw [this]; simp; omega
        have hl1 : std.slen (std.ofBytes (len [std.conv .u8 (std.add .i64 48 (std.rem (v : Int) 10))]) fun i => gd [std.conv .u8 (std.add .i64 48 (std.rem (v : Int) 10))] (0 + i)) = 1 := by
          have := ofL_len [std.conv .u8 (std.add .i64 48 (std.rem (v : Int) 10))]
          unfold ofL at this
          rw [this]; rfl
        rw [lt_true (by omega), br_t, req_of nz, hl1, req_of (room1 (by rw [s_slen]; omega)), req_of nz, hq]
        refine .inl ⟨_, rfl, ⟨v / 10, rfl, ?_, by simp only; rw [hsz]; omega⟩, by simp only [Int.toNat_natCast]; omega⟩
        simp only
        rw [hsz, Nat.pow_succ]
        have h6 : v / 10 * 10 ≤ v := by omega
        have h7 : v / 10 * (10 ^ s.size * 10) = (v / 10 * 10) * 10 ^ s.size := by rw [Nat.mul_comm (10 ^ s.size) 10, Nat.mul_assoc]
        rw [h7]
        exact Nat.le_trans (Nat.mul_le_mul_right _ h6) hle
      · rw [lt_false (by omega), br_f]
        exact .inr ⟨_, rfl, hs⟩)
    rw [h1]
    simp only [Option.bind_some, letO_eq]
    have h1' : (ByteArray.mk #[109]).size = 1 := rfl
    rw [req_of (room1 (by rw [s_slen, s_slen, h1']; omega))]
    exact ⟨_, rfl, by rw [scat_size, h1']; omega⟩
noncomputable def mkT (n : Nat) : ByteArray := (F_laws_markText (n : Int)).getD (ByteArray.mk #[])
theorem markText_ok (n : Nat) (h : n ≤ 1000000000000000) : F_laws_markText (n : Int) = some (mkT n) := by
  obtain ⟨s, hs, _⟩ := markText_ex n h
  unfold mkT
  rw [hs]; rfl
def mShape (k i : Nat) : TShape := ⟨((k + 5 * i : Nat) : Int), ⟨((k + 5 * i + 1 : Nat) : Int), ((k + 5 * i + 1 + 1 : Nat) : Int), ((k + 5 * i + 1 + 1 + 1 : Nat) : Int), ((k + 5 * i + 1 + 1 + 1 + 1 : Nat) : Int)⟩⟩
set_option maxHeartbeats 4000000 in
theorem markShapeS_ok (l : List TShape) (k : Nat) (h : k + 5 * l.length ≤ 1000000000000000) : F_laws_markShapeS_mob l k = some (((k + 5 * l.length : Nat) : Int), (List.range l.length).map (mShape k)) := by
  unfold F_laws_markShapeS_mob
  refine Eq.trans (bind_of (while_from (r := (((k + 5 * l.length : Nat) : Int), (List.range l.length).map (mShape k))) (fun i => (((k + 5 * i : Nat) : Int), (i : Int), markd (mShape k) l i)) l.length (by simp [markd_zero]) (fun i hi => ?_) ?_)) ?_
  · have hml : (markd (mShape k) l i).length = l.length := markd_len _ _ _ (by omega)
    have hmi : i < (markd (mShape k) l i).length := by rw [hml]; exact hi
    have hin : std.inR (i : Int) l.length := inRl hi
    have hlt : std.lt (i : Int) (std.ofN l.length) = true := ltl_t hi
    have a1 : std.add .i64 ((k + 5 * i : Nat) : Int) 1 = ((k + 5 * i + 1 : Nat) : Int) := inc_nat (by omega)
    have a2 : std.add .i64 ((k + 5 * i + 1 : Nat) : Int) 1 = ((k + 5 * i + 1 + 1 : Nat) : Int) := inc_nat (by omega)
    have a3 : std.add .i64 ((k + 5 * i + 1 + 1 : Nat) : Int) 1 = ((k + 5 * i + 1 + 1 + 1 : Nat) : Int) := inc_nat (by omega)
    have a4 : std.add .i64 ((k + 5 * i + 1 + 1 + 1 : Nat) : Int) 1 = ((k + 5 * i + 1 + 1 + 1 + 1 : Nat) : Int) := inc_nat (by omega)
    have a5 : std.add .i64 ((k + 5 * i + 1 + 1 + 1 + 1 : Nat) : Int) 1 = ((k + 5 * i + 1 + 1 + 1 + 1 + 1 : Nat) : Int) := inc_nat (by omega)
    have b1 : std.add .i64 (i : Int) 1 = ((i + 1 : Nat) : Int) := inc_nat (by omega)
    simp only [L_laws_markShapeS_mob_x4, letO_eq, s_toNn, s_nadd, Nat.zero_add, len_eq, List.length_set, hml, hlt, br_t, req_of hin, req_reflM, List.set_set, gd_set_selfM _ _ _ hmi, a1, a2, a3, a4, a5, b1]
    try simp only [req_true]
    rw [← markd_set (mShape k) l i hi]
    rfl
  · simp only [L_laws_markShapeS_mob_x4, letO_eq]
    rw [ltl_f, br_f, markd_full]
  · simp only [letO_eq]
    rw [req_of (by simp [len_eq])]
noncomputable def mLabel (k i : Nat) : TLabel := ⟨((k + 4 * i : Nat) : Int), ⟨((k + 4 * i + 1 : Nat) : Int), ((k + 4 * i + 1 + 1 : Nat) : Int)⟩, mkT (k + 4 * i + 1 + 1 + 1)⟩
set_option maxHeartbeats 4000000 in
theorem markLabelS_ok (l : List TLabel) (k : Nat) (h : k + 4 * l.length ≤ 1000000000000000) : F_laws_markLabelS_mob l k = some (((k + 4 * l.length : Nat) : Int), (List.range l.length).map (mLabel k)) := by
  unfold F_laws_markLabelS_mob
  refine Eq.trans (bind_of (while_from (r := (((k + 4 * l.length : Nat) : Int), (List.range l.length).map (mLabel k))) (fun i => (((k + 4 * i : Nat) : Int), (i : Int), markd (mLabel k) l i)) l.length (by simp [markd_zero]) (fun i hi => ?_) ?_)) ?_
  · have hml : (markd (mLabel k) l i).length = l.length := markd_len _ _ _ (by omega)
    have hmi : i < (markd (mLabel k) l i).length := by rw [hml]; exact hi
    have hin : std.inR (i : Int) l.length := inRl hi
    have hlt : std.lt (i : Int) (std.ofN l.length) = true := ltl_t hi
    have a1 : std.add .i64 ((k + 4 * i : Nat) : Int) 1 = ((k + 4 * i + 1 : Nat) : Int) := inc_nat (by omega)
    have a2 : std.add .i64 ((k + 4 * i + 1 : Nat) : Int) 1 = ((k + 4 * i + 1 + 1 : Nat) : Int) := inc_nat (by omega)
    have a3 : std.add .i64 ((k + 4 * i + 1 + 1 : Nat) : Int) 1 = ((k + 4 * i + 1 + 1 + 1 : Nat) : Int) := inc_nat (by omega)
    have a4 : std.add .i64 ((k + 4 * i + 1 + 1 + 1 : Nat) : Int) 1 = ((k + 4 * i + 1 + 1 + 1 + 1 : Nat) : Int) := inc_nat (by omega)
    have b1 : std.add .i64 (i : Int) 1 = ((i + 1 : Nat) : Int) := inc_nat (by omega)
    have hT : F_laws_markText ((k + 4 * i + 1 + 1 + 1 : Nat) : Int) = some (mkT (k + 4 * i + 1 + 1 + 1)) := markText_ok _ (by omega)
    simp only [L_laws_markLabelS_mob_x4, letO_eq, s_toNn, s_nadd, Nat.zero_add, len_eq, List.length_set, hml, hlt, br_t, req_of hin, req_reflM, List.set_set, gd_set_selfM _ _ _ hmi, a1, a2, a3, a4, b1, hT, Option.bind_some]
    try simp only [req_true]
    rw [← markd_set (mLabel k) l i hi]
    rfl
  · simp only [L_laws_markLabelS_mob_x4, letO_eq]
    rw [ltl_f, br_f, markd_full]
  · simp only [letO_eq]
    rw [req_of (by simp [len_eq])]
def mInstance (k i : Nat) : TInstance := ⟨((k + 8 * i : Nat) : Int), ⟨((k + 8 * i + 1 : Nat) : Int), ((k + 8 * i + 1 + 1 : Nat) : Int), ((k + 8 * i + 1 + 1 + 1 : Nat) : Int)⟩, ((k + 8 * i + 1 + 1 + 1 + 1 : Nat) : Int), ((k + 8 * i + 1 + 1 + 1 + 1 + 1 : Nat) : Int), ((k + 8 * i + 1 + 1 + 1 + 1 + 1 + 1 : Nat) : Int), ((k + 8 * i + 1 + 1 + 1 + 1 + 1 + 1 + 1 : Nat) : Int)⟩
set_option maxHeartbeats 4000000 in
theorem markInstanceS_ok (l : List TInstance) (k : Nat) (h : k + 8 * l.length ≤ 1000000000000000) : F_laws_markInstanceS_mob l k = some (((k + 8 * l.length : Nat) : Int), (List.range l.length).map (mInstance k)) := by
  unfold F_laws_markInstanceS_mob
  refine Eq.trans (bind_of (while_from (r := (((k + 8 * l.length : Nat) : Int), (List.range l.length).map (mInstance k))) (fun i => (((k + 8 * i : Nat) : Int), (i : Int), markd (mInstance k) l i)) l.length (by simp [markd_zero]) (fun i hi => ?_) ?_)) ?_
  · have hml : (markd (mInstance k) l i).length = l.length := markd_len _ _ _ (by omega)
    have hmi : i < (markd (mInstance k) l i).length := by rw [hml]; exact hi
    have hin : std.inR (i : Int) l.length := inRl hi
    have hlt : std.lt (i : Int) (std.ofN l.length) = true := ltl_t hi
    have a1 : std.add .i64 ((k + 8 * i : Nat) : Int) 1 = ((k + 8 * i + 1 : Nat) : Int) := inc_nat (by omega)
    have a2 : std.add .i64 ((k + 8 * i + 1 : Nat) : Int) 1 = ((k + 8 * i + 1 + 1 : Nat) : Int) := inc_nat (by omega)
    have a3 : std.add .i64 ((k + 8 * i + 1 + 1 : Nat) : Int) 1 = ((k + 8 * i + 1 + 1 + 1 : Nat) : Int) := inc_nat (by omega)
    have a4 : std.add .i64 ((k + 8 * i + 1 + 1 + 1 : Nat) : Int) 1 = ((k + 8 * i + 1 + 1 + 1 + 1 : Nat) : Int) := inc_nat (by omega)
    have a5 : std.add .i64 ((k + 8 * i + 1 + 1 + 1 + 1 : Nat) : Int) 1 = ((k + 8 * i + 1 + 1 + 1 + 1 + 1 : Nat) : Int) := inc_nat (by omega)
    have a6 : std.add .i64 ((k + 8 * i + 1 + 1 + 1 + 1 + 1 : Nat) : Int) 1 = ((k + 8 * i + 1 + 1 + 1 + 1 + 1 + 1 : Nat) : Int) := inc_nat (by omega)
    have a7 : std.add .i64 ((k + 8 * i + 1 + 1 + 1 + 1 + 1 + 1 : Nat) : Int) 1 = ((k + 8 * i + 1 + 1 + 1 + 1 + 1 + 1 + 1 : Nat) : Int) := inc_nat (by omega)
    have a8 : std.add .i64 ((k + 8 * i + 1 + 1 + 1 + 1 + 1 + 1 + 1 : Nat) : Int) 1 = ((k + 8 * i + 1 + 1 + 1 + 1 + 1 + 1 + 1 + 1 : Nat) : Int) := inc_nat (by omega)
    have b1 : std.add .i64 (i : Int) 1 = ((i + 1 : Nat) : Int) := inc_nat (by omega)
    simp only [L_laws_markInstanceS_mob_x4, letO_eq, s_toNn, s_nadd, Nat.zero_add, len_eq, List.length_set, hml, hlt, br_t, req_of hin, req_reflM, List.set_set, gd_set_selfM _ _ _ hmi, a1, a2, a3, a4, a5, a6, a7, a8, b1]
    try simp only [req_true]
    rw [← markd_set (mInstance k) l i hi]
    rfl
  · simp only [L_laws_markInstanceS_mob_x4, letO_eq]
    rw [ltl_f, br_f, markd_full]
  · simp only [letO_eq]
    rw [req_of (by simp [len_eq])]
/-- how many numbers the marks of a cell take -/
def wtC (c : TCell) : Nat := 1 + 5 * c.fShapes.length + 4 * c.fLabels.length + 8 * c.fInstances.length
noncomputable def mCell (c : TCell) (K : Nat) : TCell := ⟨mkT K, (List.range c.fShapes.length).map (mShape (K + 1)), (List.range c.fLabels.length).map (mLabel (K + 1 + 5 * c.fShapes.length)), (List.range c.fInstances.length).map (mInstance (K + 1 + 5 * c.fShapes.length + 4 * c.fLabels.length))⟩
def offC (l : List TCell) : Nat → Nat
  | 0 => 0
  | i + 1 => offC l i + wtC (gd l i)
theorem wtC_le {c : TCell} (h : SmallC c) : wtC c ≤ 20000000 := by
  have h1 := h.shapes
  have h2 := h.labels
  have h3 := h.insts
  unfold wtC; omega
theorem offC_le {l : List TCell} (hc : ∀ c ∈ l, SmallC c) : ∀ i, i ≤ l.length → offC l i ≤ i * 20000000
  | 0, _ => by simp [offC]
  | i + 1, h => by
    have h1 := offC_le hc i (by omega)
    have h2 := wtC_le (hc _ (gd_mem (show i < l.length by omega)))
    show offC l i + wtC (gd l i) ≤ _
    omega
noncomputable def mC (l : List TCell) (k i : Nat) : TCell := mCell (gd l i) (k + offC l i)
theorem markd_gdM {α : Type} [Inhabited α] (f : Nat → α) (a : List α) (i : Nat) (h : i < a.length) : gd (markd f a i) i = gd a i := by
  unfold gd markd
  rw [List.getD_eq_getElem?_getD, List.getD_eq_getElem?_getD, List.getElem?_append_right (by simp)]
  simp
theorem markCellS_ok (l : List TCell) (k : Nat) (hl : l.length ≤ 1048576) (hc : ∀ c ∈ l, SmallC c) (hk : k ≤ 100000000000000) : F_laws_markCellS_mob l k = some (((k + offC l l.length : Nat) : Int), (List.range l.length).map (mC l k)) := by
  unfold F_laws_markCellS_mob
  refine Eq.trans (bind_of (while_from (r := (((k + offC l l.length : Nat) : Int), (List.range l.length).map (mC l k))) (fun i => (((k + offC l i : Nat) : Int), (i : Int), markd (mC l k) l i)) l.length (by simp [markd_zero, offC]) (fun i hi => ?_) ?_)) ?_
  · have ho := offC_le hc i (by omega)
    have h2 := wtC_le (hc _ (gd_mem hi))
    obtain ⟨c, hcd⟩ : ∃ c, c = gd l i := ⟨_, rfl⟩
    obtain ⟨K, hK⟩ : ∃ K, K = k + offC l i := ⟨_, rfl⟩
    rw [← hcd] at h2
    unfold wtC at h2
    have hml : (markd (mC l k) l i).length = l.length := markd_len _ _ _ (by omega)
    have hmi : i < (markd (mC l k) l i).length := by rw [hml]; exact hi
    have hin : std.inR (i : Int) l.length := inRl hi
    have hlt : std.lt (i : Int) (std.ofN l.length) = true := ltl_t hi
    have hg : gd (markd (mC l k) l i) i = c := by rw [markd_gdM _ _ _ hi, hcd]
    have e1 : offC l (i + 1) = offC l i + wtC c := by rw [hcd]; rfl
    have hS := markShapeS_ok c.fShapes (K + 1) (by omega)
    have hL := markLabelS_ok c.fLabels (K + 1 + 5 * c.fShapes.length) (by omega)
    have hI := markInstanceS_ok c.fInstances (K + 1 + 5 * c.fShapes.length + 4 * c.fLabels.length) (by omega)
    have a1 : std.add .i64 ((K : Nat) : Int) 1 = ((K + 1 : Nat) : Int) := inc_nat (by omega)
    have b1 : std.add .i64 (i : Int) 1 = ((i + 1 : Nat) : Int) := inc_nat (by omega)
    have hT := markText_ok K (by omega)
    rw [← hK]
    simp only [L_laws_markCellS_mob_x4, letO_eq, s_toNn, s_nadd, Nat.zero_add, len_eq, List.length_set, hml, hlt, br_t, hT, Option.bind_some, req_of hin, req_reflM, req_true, List.set_set, gd_set_selfM _ _ _ hmi, hg, a1, hS, hL, hI, List.length_map, List.length_range, b1]
    rw [e1, ← markd_set (mC l k) l i hi]
    have e2 : mC l k i = mCell c K := by unfold mC; rw [← hcd, ← hK]
    have e3 : K + 1 + 5 * c.fShapes.length + 4 * c.fLabels.length + 8 * c.fInstances.length = k + (offC l i + wtC c) := by unfold wtC; omega
    rw [e2, e3]
    rfl
  · simp only [L_laws_markCellS_mob_x4, letO_eq]
    rw [ltl_f, br_f, markd_full]
  · simp only [letO_eq]
    rw [req_of (by simp [len_eq])]
theorem markLibrary_ok (a : TLibrary) (k : Nat) (h : SmallL a) (hk : k ≤ 100000000000000) : F_laws_markLibrary_mob a k = some (((k + offC a.fCells a.fCells.length : Nat) : Int), (List.range a.fCells.length).map (mC a.fCells k)) := by
  unfold F_laws_markLibrary_mob
  rw [markCellS_ok _ _ h.cells h.cell hk, Option.bind_some, req_of (by simp [len_eq]), req_of (by simp [len_eq])]
/- lists of numbers: equality with itself, what the marks write -/
def mInt (k : Nat) (n : Nat) : List Int := (List.range n).map fun i => ((k + i : Nat) : Int)
/- hits: both sides; their marks -/
noncomputable def hitF (y : Int) (wd : TRect) (o : TOccurrence) (j : Nat) (s : TShape) : List TWindowHit := if (std.eq s.fLayer y && ovlG (mvR o.fPlace s.fBox) wd) then [⟨o.fCell, (j : Int), y, mvR o.fPlace s.fBox, o.fPath⟩] else []
noncomputable def hitsOf (a : TLibrary) (y : Int) (wd : TRect) (o : TOccurrence) : List TWindowHit := (List.range (gd a.fCells o.fCell.toNat).fShapes.length).flatMap fun j => hitF y wd o j (gd (gd a.fCells o.fCell.toNat).fShapes j)
theorem hitF_le (y : Int) (wd : TRect) (o : TOccurrence) (j : Nat) (s : TShape) : (hitF y wd o j s).length ≤ 1 := by unfold hitF; split <;> simp
theorem hitsOf_le {a : TLibrary} {o : TOccurrence} (hv : okLib a = true) (ho : GO a o) (y : Int) (wd : TRect) : (hitsOf a y wd o).length ≤ 24 := by
  obtain ⟨c, hc, hcn, _⟩ := ho.cell
  have h8 := (vc_of hv hcn).shapes
  have := fm_len_le (List.range (gd a.fCells c).fShapes.length) (fun j => hitF y wd o j (gd (gd a.fCells c).fShapes j)) 1 (fun l _ => hitF_le _ _ _ _ _)
  rw [List.length_range] at this
  unfold hitsOf
  rw [hc, Int.toNat_natCast]
  omega
theorem hits_le {a : TLibrary} (hv : okLib a = true) (y : Int) (wd : TRect) {L : List TOccurrence} (h : ∀ o ∈ L, GO a o) (hl : L.length ≤ 200) : (L.flatMap (hitsOf a y wd)).length ≤ 4800 := by
  have := fm_len_le L (hitsOf a y wd) 24 (fun o ho => hitsOf_le hv (h o ho) y wd)
  omega
theorem path_le {a : TLibrary} {o : TOccurrence} (ho : GO a o) : o.fPath.length ≤ 8 := by
  obtain ⟨c, _, _, h⟩ := ho.cell; omega
theorem spec_hits (a : TLibrary) (hv : okLib a = true) (y : Int) (wd : TRect) (L : List TOccurrence) (hg : ∀ o ∈ L, GO a o) (hl : L.length ≤ 200) : whileP (L_spec_l12Hits_x6 a y wd L) (0, ([] : List TWindowHit)) = some (L.flatMap (hitsOf a y wd)) := by
  have hb := hits_le hv y wd hg hl
  have e : (List.range L.length).flatMap (fun i => hitsOf a y wd (gd L i)) = L.flatMap (hitsOf a y wd) := range_fm _ _
  refine (while_fm (fun i => hitsOf a y wd (gd L i)) L.length [] 5000 (by rw [e, List.length_nil]; omega) (fun i hi v hvl => ?_) (fun v => ?_)).trans (by rw [e]; try rfl)
  · have ho := hg _ (gd_mem hi)
    obtain ⟨o, hod⟩ : ∃ o, o = gd L i := ⟨_, rfl⟩
    rw [← hod] at ho hvl ⊢
    have hp8 := path_le ho
    obtain ⟨c, hc, hcn, _⟩ := ho.cell
    have h8 := (vc_of hv hcn).shapes
    have e2 : (List.range (gd a.fCells c).fShapes.length).flatMap (fun j => hitF y wd o j (gd (gd a.fCells c).fShapes j)) = hitsOf a y wd o := by
      unfold hitsOf; rw [hc, Int.toNat_natCast]
    have w : whileP (L_spec_l12Hits_x22 a y wd L (i : Int)) (0, v) = some (v ++ hitsOf a y wd o) := by
      refine (while_fm (fun j => hitF y wd o j (gd (gd a.fCells c).fShapes j)) (gd a.fCells c).fShapes.length v 5000 (by rw [e2]; exact hvl) (fun j hj u hu => ?_) (fun u => ?_)).trans (by rw [e2])
      · simp only [L_spec_l12Hits_x22, letO_eq, s_toNn, s_nadd, Nat.zero_add, ← hod, hc]
        rw [ltl_t hj, br_t, req_of (inRl hi), req_of (inRl hj), spec_l10Rect_ok, Option.bind_some, req_of (inRl hj), inc_nat (by omega)]
        unfold hitF at hu ⊢
        simp only [spec_l11Overlap_okG, Option.bind_some, hc]
        cases hlay : std.eq (gd (gd a.fCells c).fShapes j).fLayer y with
        | false => simp [br]
        | true =>
          rw [br_t, Option.bind_some]
          cases hov : ovlG (mvR o.fPlace (gd (gd a.fCells c).fShapes j).fBox) wd with
          | false => simp [br]
          | true =>
            rw [hlay, hov, Bool.and_self, if_pos rfl, List.length_singleton] at hu
            rw [br_t, req_of (inRl hi), req_of (inRl hi), req_of (roomG (by rw [len_eq, len_eq, List.length_nil]; omega) (by omega)), req_of (roomG (by rw [len_eq, len_eq]; simp only [List.length_singleton]; omega) (by omega)), List.nil_append]
            simp
      · simp only [L_spec_l12Hits_x22, letO_eq, s_toNn, s_nadd, Nat.zero_add, ← hod, hc]
        rw [ltl_f, br_f]
    simp only [L_spec_l12Hits_x6, letO_eq, s_toNn, s_nadd, Nat.zero_add, ← hod, hc]
    rw [ltl_t hi, br_t, req_of (inRl hi), req_of (inRl hcn), w, Option.bind_some, inc_nat (by omega)]
  · simp only [L_spec_l12Hits_x6, letO_eq]
    rw [ltl_f, br_f]
theorem shape_NB {a : TLibrary} {o : TOccurrence} (ho : GO a o) {s : TShape} (hs : okShape s = true) : NB (mvR o.fPlace s.fBox) 2600 := by
  unfold okShape at hs
  rw [Bool.and_eq_true] at hs
  exact mvR_NB (S := 2560) (okRect_NB hs.2) (place_small ho) (by omega) (by omega)
theorem impl_hits_ok (a : TLibrary) (hv : okLib a = true) (y : Int) (wd : TRect) (hw : okRect wd = true) (L : List TOccurrence) (hg : ∀ o ∈ L, GO a o) (hl : L.length ≤ 200) : F_impl_hits a L y wd = some (L.flatMap (hitsOf a y wd)) := by
  have hb := hits_le hv y wd hg hl
  have e : (List.range L.length).flatMap (fun i => hitsOf a y wd (gd L i)) = L.flatMap (hitsOf a y wd) := range_fm _ _
  unfold F_impl_hits
  simp only [letO_eq]
  rw [show whileP (L_impl_hits_x4 a L y wd) (0, ([] : List TWindowHit)) = some (L.flatMap (hitsOf a y wd)) from ?_]
  · rfl
  refine (while_fm (fun i => hitsOf a y wd (gd L i)) L.length [] 5000 (by rw [e, List.length_nil]; omega) (fun i hi v hvl => ?_) (fun v => ?_)).trans (by rw [e]; try rfl)
  · have ho := hg _ (gd_mem hi)
    obtain ⟨o, hod⟩ : ∃ o, o = gd L i := ⟨_, rfl⟩
    rw [← hod] at ho hvl ⊢
    have hp8 := path_le ho
    obtain ⟨c, hc, hcn, _⟩ := ho.cell
    have hvc := vc_of hv hcn
    have h8 := hvc.shapes
    have e2 : (List.range (gd a.fCells c).fShapes.length).flatMap (fun j => hitF y wd o j (gd (gd a.fCells c).fShapes j)) = hitsOf a y wd o := by
      unfold hitsOf; rw [hc, Int.toNat_natCast]
    have w : whileP (L_impl_hits_x20 a L y wd (i : Int)) (0, v) = some (v ++ hitsOf a y wd o) := by
      refine (while_fm (fun j => hitF y wd o j (gd (gd a.fCells c).fShapes j)) (gd a.fCells c).fShapes.length v 5000 (by rw [e2]; exact hvl) (fun j hj u hu => ?_) (fun u => ?_)).trans (by rw [e2])
      · have hN := shape_NB ho (hvc.shape _ (gd_mem hj))
        simp only [L_impl_hits_x20, letO_eq, s_toNn, s_nadd, Nat.zero_add, ← hod, hc]
        rw [ltl_t hj, br_t, req_of (inRl hj), impl_moveRect_ok, Option.bind_some, inc_nat (by omega)]
        unfold hitF at hu ⊢
        rw [anywhere_ok hN (okRect_NB hw)]
        simp only [Option.bind_some, hc]
        cases hlay : std.eq (gd (gd a.fCells c).fShapes j).fLayer y with
        | false => simp [br]
        | true =>
          rw [br_t, Option.bind_some]
          cases hov : ovlG (mvR o.fPlace (gd (gd a.fCells c).fShapes j).fBox) wd with
          | false => simp [br]
          | true =>
            rw [hlay, hov, Bool.and_self, if_pos rfl, List.length_singleton] at hu
            rw [br_t, cloneI_ok _ (by omega), Option.bind_some, req_of (roomG (by rw [len_eq, len_eq]; simp only [List.length_singleton]; omega) (by omega))]
            simp
      · simp only [L_impl_hits_x20, letO_eq, s_toNn, s_nadd, Nat.zero_add, ← hod, hc]
        rw [ltl_f, br_f]
    simp only [L_impl_hits_x4, letO_eq, s_toNn, s_nadd, Nat.zero_add, ← hod, hc]
    rw [ltl_t hi, br_t, req_of (inRl hi), req_of (inRl hcn), w, Option.bind_some, inc_nat (by omega)]
  · simp only [L_impl_hits_x4, letO_eq]
    rw [ltl_f, br_f]
noncomputable def hitL (a : TLibrary) (k y : Int) (wd : TRect) : List TWindowHit := (visL a k.toNat wd).flatMap (hitsOf a y wd)
/-- hits of the program have short paths -/
def SmallH (l : List TWindowHit) : Prop := ∀ x ∈ l, x.fPath.length ≤ 8
def wtH (x : TWindowHit) : Nat := 7 + x.fPath.length
def mHit (x : TWindowHit) (K : Nat) : TWindowHit := ⟨((K : Nat) : Int), ((K + 1 : Nat) : Int), ((K + 1 + 1 : Nat) : Int), ⟨((K + 1 + 1 + 1 : Nat) : Int), ((K + 1 + 1 + 1 + 1 : Nat) : Int), ((K + 1 + 1 + 1 + 1 + 1 : Nat) : Int), ((K + 1 + 1 + 1 + 1 + 1 + 1 : Nat) : Int)⟩, mInt (K + 1 + 1 + 1 + 1 + 1 + 1 + 1) x.fPath.length⟩
def offH (l : List TWindowHit) : Nat → Nat
  | 0 => 0
  | i + 1 => offH l i + wtH (gd l i)
def mH (l : List TWindowHit) (k i : Nat) : TWindowHit := mHit (gd l i) (k + offH l i)
/- WindowShapes: the statement's side -/
noncomputable def wsR (a : TLibrary) (k y : Int) (wd : TRect) : List TWindowHit × Int := capR (wCode a k y wd) (hitL a k y wd)
theorem spec_codesY {β : Type} (a : TLibrary) (k y : Int) (wd : TRect) (h : SmallL a) (R : Int → β) (K : Option β) :
    ((((F_spec_IsValidLibrary a).bind fun y8 => br (!(y8)) (some true) ((F_spec_l09Rect wd).bind fun y10 => some (!(y10)))) : Option Bool).bind fun y1 => letO y1 fun w7 => br w7 (some (R 1))
      ((F_spec_l09Has a k).bind fun y13 => br (!(y13)) (some (R 5)) ((F_spec_l09Layer y).bind fun y15 => br (!(y15)) (some (R 2)) ((F_spec_ElementCount a k).bind fun y17 => br (std.lt 200 y17) (some (R 3)) K)))) = if wCode a k y wd = 0 then K else some (R (wCode a k y wd)) := by
  rw [spec_l09Layer_ok]
  cases hl : wB y 0 7 with
  | true => exact spec_codes a k y wd h R K hl
  | false =>
    unfold wCode
    rw [spec_IsValidLibrary_ok _ h, Option.bind_some, spec_l09Rect_ok, Option.bind_some]
    cases hv : okLib a with
    | false => rfl
    | true =>
      rw [Bool.not_true, br_f, Option.bind_some]
      simp only [letO_eq]
      cases hr : okRect wd with
      | false => rfl
      | true =>
        rw [Bool.not_true, br_f, spec_l09Has_ok a k h, Option.bind_some, hv, Bool.true_and]
        cases hb : wB k 0 ((a.fCells.length : Int) - 1) with
        | false => rfl
        | true => rw [hl]; rfl
theorem spec_WindowShapes_ok (a : TLibrary) (k y : Int) (wd : TRect) (h : SmallL a) : F_spec_WindowShapes a k y wd = some (wsR a k y wd) := by
  unfold F_spec_WindowShapes wsR
  refine (spec_codesY a k y wd h (fun c => (([] : List TWindowHit), c)) _).trans ?_
  unfold capR
  by_cases hc : wCode a k y wd = 0
  · obtain ⟨hv, hw, ⟨n, rfl, hn, hcn⟩, _⟩ := wCode_zero hc
    have hl := visL_le a hv wd n hn
    rw [if_pos hc, if_pos hc]
    unfold F_spec_l12Hits
    rw [spec_visited_ok a hv wd n hn hcn]
    simp only [letO_eq, Option.bind_some]
    rw [spec_hits a hv y wd _ (visL_good a hv wd hn) (by omega)]
    simp only [Option.bind_some, len_eq, lt100]
    show br (decide (100 < (hitL a (n : Int) y wd).length)) _ _ = _
    split <;> rename_i hh
    · rw [decide_eq_true hh, br_t]
    · rw [decide_eq_false hh, br_f]; rfl
  · rw [if_neg hc, if_neg hc]
/- moving twice; what is inside stays inside -/
def BdP (p : TPoint) (B : Int) : Prop := -B ≤ p.fX ∧ p.fX ≤ B ∧ -B ≤ p.fY ∧ p.fY ≤ B
def BdT (t : TTransform) (B : Int) : Prop := -B ≤ t.fX ∧ t.fX ≤ B ∧ -B ≤ t.fY ∧ t.fY ≤ B
/-- a place in the plain -/
def mvZ (o : Int) (x y tx ty : Int) : Int × Int :=
  if o = 0 then (x + tx, y + ty) else if o = 1 then (-y + tx, x + ty) else if o = 2 then (-x + tx, -y + ty) else if o = 3 then (y + tx, -x + ty)
  else if o = 4 then (x + tx, -y + ty) else if o = 5 then (y + tx, x + ty) else if o = 6 then (-x + tx, y + ty) else (-y + tx, -x + ty)
theorem rot0 (p : Int × Int) : rot 0 p = p := rfl
theorem rot1 (x y : Int) : rot 1 (x, y) = (std.sub .i64 0 y, x) := rfl
theorem rot2 (x y : Int) : rot 2 (x, y) = (std.sub .i64 0 x, std.sub .i64 0 y) := rfl
theorem rot3 (x y : Int) : rot 3 (x, y) = (std.sub .i64 0 (std.sub .i64 0 y), std.sub .i64 0 x) := rfl
theorem mvP_Z {t : TTransform} {p : TPoint} (ho : 0 ≤ t.fOrientation ∧ t.fOrientation ≤ 7) (hp : BdP p 1000000) (ht : BdT t 1000000) : ((mvP t p).fX, (mvP t p).fY) = mvZ t.fOrientation p.fX p.fY t.fX t.fY := by
  obtain ⟨p1, p2, p3, p4⟩ := hp
  obtain ⟨t1, t2, t3, t4⟩ := ht
  unfold mvP mvZ
  rcases ori8 ho with h | h | h | h | h | h | h | h <;> rw [h] <;>
    simp only [show std.rem 0 4 = 0 from rfl, show std.rem 1 4 = 1 from rfl, show std.rem 2 4 = 2 from rfl, show std.rem 3 4 = 3 from rfl, show std.rem 4 4 = 0 from rfl, show std.rem 5 4 = 1 from rfl, show std.rem 6 4 = 2 from rfl, show std.rem 7 4 = 3 from rfl, Int.toNat_zero, show Int.toNat 1 = 1 from rfl, show Int.toNat 2 = 2 from rfl, show Int.toNat 3 = 3 from rfl, rot0, rot1, rot2, rot3] <;>
    simp <;> (try simp (disch := omega) only [sub_id, add_id]) <;> (try constructor) <;> first | omega | trivial
theorem mvZ_cmp {a b : Int} (ha : 0 ≤ a ∧ a ≤ 7) (hb : 0 ≤ b ∧ b ≤ 7) (x y tx ty ux uy : Int) :
    mvZ (cmpO a b) x y (mvZ b tx ty ux uy).1 (mvZ b tx ty ux uy).2 = mvZ b (mvZ a x y tx ty).1 (mvZ a x y tx ty).2 ux uy := by
  rcases ori8 ha with rfl | rfl | rfl | rfl | rfl | rfl | rfl | rfl <;> rcases ori8 hb with rfl | rfl | rfl | rfl | rfl | rfl | rfl | rfl
  · rw [show cmpO 0 0 = 0 by decide]; refine Prod.ext ?_ ?_ <;> simp [mvZ] <;> omega
  · rw [show cmpO 0 1 = 1 by decide]; refine Prod.ext ?_ ?_ <;> simp [mvZ] <;> omega
  · rw [show cmpO 0 2 = 2 by decide]; refine Prod.ext ?_ ?_ <;> simp [mvZ] <;> omega
  · rw [show cmpO 0 3 = 3 by decide]; refine Prod.ext ?_ ?_ <;> simp [mvZ] <;> omega
  · rw [show cmpO 0 4 = 4 by decide]; refine Prod.ext ?_ ?_ <;> simp [mvZ] <;> omega
  · rw [show cmpO 0 5 = 5 by decide]; refine Prod.ext ?_ ?_ <;> simp [mvZ] <;> omega
  · rw [show cmpO 0 6 = 6 by decide]; refine Prod.ext ?_ ?_ <;> simp [mvZ] <;> omega
  · rw [show cmpO 0 7 = 7 by decide]; refine Prod.ext ?_ ?_ <;> simp [mvZ] <;> omega
  · rw [show cmpO 1 0 = 1 by decide]; refine Prod.ext ?_ ?_ <;> simp [mvZ] <;> omega
  · rw [show cmpO 1 1 = 2 by decide]; refine Prod.ext ?_ ?_ <;> simp [mvZ] <;> omega
  · rw [show cmpO 1 2 = 3 by decide]; refine Prod.ext ?_ ?_ <;> simp [mvZ] <;> omega
  · rw [show cmpO 1 3 = 0 by decide]; refine Prod.ext ?_ ?_ <;> simp [mvZ] <;> omega
  · rw [show cmpO 1 4 = 7 by decide]; refine Prod.ext ?_ ?_ <;> simp [mvZ] <;> omega
  · rw [show cmpO 1 5 = 4 by decide]; refine Prod.ext ?_ ?_ <;> simp [mvZ] <;> omega
  · rw [show cmpO 1 6 = 5 by decide]; refine Prod.ext ?_ ?_ <;> simp [mvZ] <;> omega
  · rw [show cmpO 1 7 = 6 by decide]; refine Prod.ext ?_ ?_ <;> simp [mvZ] <;> omega
  · rw [show cmpO 2 0 = 2 by decide]; refine Prod.ext ?_ ?_ <;> simp [mvZ] <;> omega
  · rw [show cmpO 2 1 = 3 by decide]; refine Prod.ext ?_ ?_ <;> simp [mvZ] <;> omega
  · rw [show cmpO 2 2 = 0 by decide]; refine Prod.ext ?_ ?_ <;> simp [mvZ] <;> omega
  · rw [show cmpO 2 3 = 1 by decide]; refine Prod.ext ?_ ?_ <;> simp [mvZ] <;> omega
  · rw [show cmpO 2 4 = 6 by decide]; refine Prod.ext ?_ ?_ <;> simp [mvZ] <;> omega
  · rw [show cmpO 2 5 = 7 by decide]; refine Prod.ext ?_ ?_ <;> simp [mvZ] <;> omega
  · rw [show cmpO 2 6 = 4 by decide]; refine Prod.ext ?_ ?_ <;> simp [mvZ] <;> omega
  · rw [show cmpO 2 7 = 5 by decide]; refine Prod.ext ?_ ?_ <;> simp [mvZ] <;> omega
  · rw [show cmpO 3 0 = 3 by decide]; refine Prod.ext ?_ ?_ <;> simp [mvZ] <;> omega
  · rw [show cmpO 3 1 = 0 by decide]; refine Prod.ext ?_ ?_ <;> simp [mvZ] <;> omega
  · rw [show cmpO 3 2 = 1 by decide]; refine Prod.ext ?_ ?_ <;> simp [mvZ] <;> omega
  · rw [show cmpO 3 3 = 2 by decide]; refine Prod.ext ?_ ?_ <;> simp [mvZ] <;> omega
  · rw [show cmpO 3 4 = 5 by decide]; refine Prod.ext ?_ ?_ <;> simp [mvZ] <;> omega
  · rw [show cmpO 3 5 = 6 by decide]; refine Prod.ext ?_ ?_ <;> simp [mvZ] <;> omega
  · rw [show cmpO 3 6 = 7 by decide]; refine Prod.ext ?_ ?_ <;> simp [mvZ] <;> omega
  · rw [show cmpO 3 7 = 4 by decide]; refine Prod.ext ?_ ?_ <;> simp [mvZ] <;> omega
  · rw [show cmpO 4 0 = 4 by decide]; refine Prod.ext ?_ ?_ <;> simp [mvZ] <;> omega
  · rw [show cmpO 4 1 = 5 by decide]; refine Prod.ext ?_ ?_ <;> simp [mvZ] <;> omega
  · rw [show cmpO 4 2 = 6 by decide]; refine Prod.ext ?_ ?_ <;> simp [mvZ] <;> omega
  · rw [show cmpO 4 3 = 7 by decide]; refine Prod.ext ?_ ?_ <;> simp [mvZ] <;> omega
  · rw [show cmpO 4 4 = 0 by decide]; refine Prod.ext ?_ ?_ <;> simp [mvZ] <;> omega
  · rw [show cmpO 4 5 = 1 by decide]; refine Prod.ext ?_ ?_ <;> simp [mvZ] <;> omega
  · rw [show cmpO 4 6 = 2 by decide]; refine Prod.ext ?_ ?_ <;> simp [mvZ] <;> omega
  · rw [show cmpO 4 7 = 3 by decide]; refine Prod.ext ?_ ?_ <;> simp [mvZ] <;> omega
  · rw [show cmpO 5 0 = 5 by decide]; refine Prod.ext ?_ ?_ <;> simp [mvZ] <;> omega
  · rw [show cmpO 5 1 = 6 by decide]; refine Prod.ext ?_ ?_ <;> simp [mvZ] <;> omega
  · rw [show cmpO 5 2 = 7 by decide]; refine Prod.ext ?_ ?_ <;> simp [mvZ] <;> omega
  · rw [show cmpO 5 3 = 4 by decide]; refine Prod.ext ?_ ?_ <;> simp [mvZ] <;> omega
  · rw [show cmpO 5 4 = 3 by decide]; refine Prod.ext ?_ ?_ <;> simp [mvZ] <;> omega
  · rw [show cmpO 5 5 = 0 by decide]; refine Prod.ext ?_ ?_ <;> simp [mvZ] <;> omega
  · rw [show cmpO 5 6 = 1 by decide]; refine Prod.ext ?_ ?_ <;> simp [mvZ] <;> omega
  · rw [show cmpO 5 7 = 2 by decide]; refine Prod.ext ?_ ?_ <;> simp [mvZ] <;> omega
  · rw [show cmpO 6 0 = 6 by decide]; refine Prod.ext ?_ ?_ <;> simp [mvZ] <;> omega
  · rw [show cmpO 6 1 = 7 by decide]; refine Prod.ext ?_ ?_ <;> simp [mvZ] <;> omega
  · rw [show cmpO 6 2 = 4 by decide]; refine Prod.ext ?_ ?_ <;> simp [mvZ] <;> omega
  · rw [show cmpO 6 3 = 5 by decide]; refine Prod.ext ?_ ?_ <;> simp [mvZ] <;> omega
  · rw [show cmpO 6 4 = 2 by decide]; refine Prod.ext ?_ ?_ <;> simp [mvZ] <;> omega
  · rw [show cmpO 6 5 = 3 by decide]; refine Prod.ext ?_ ?_ <;> simp [mvZ] <;> omega
  · rw [show cmpO 6 6 = 0 by decide]; refine Prod.ext ?_ ?_ <;> simp [mvZ] <;> omega
  · rw [show cmpO 6 7 = 1 by decide]; refine Prod.ext ?_ ?_ <;> simp [mvZ] <;> omega
  · rw [show cmpO 7 0 = 7 by decide]; refine Prod.ext ?_ ?_ <;> simp [mvZ] <;> omega
  · rw [show cmpO 7 1 = 4 by decide]; refine Prod.ext ?_ ?_ <;> simp [mvZ] <;> omega
  · rw [show cmpO 7 2 = 5 by decide]; refine Prod.ext ?_ ?_ <;> simp [mvZ] <;> omega
  · rw [show cmpO 7 3 = 6 by decide]; refine Prod.ext ?_ ?_ <;> simp [mvZ] <;> omega
  · rw [show cmpO 7 4 = 1 by decide]; refine Prod.ext ?_ ?_ <;> simp [mvZ] <;> omega
  · rw [show cmpO 7 5 = 2 by decide]; refine Prod.ext ?_ ?_ <;> simp [mvZ] <;> omega
  · rw [show cmpO 7 6 = 3 by decide]; refine Prod.ext ?_ ?_ <;> simp [mvZ] <;> omega
  · rw [show cmpO 7 7 = 0 by decide]; refine Prod.ext ?_ ?_ <;> simp [mvZ] <;> omega
theorem mvP_cmp {u t : TTransform} {p : TPoint} (hu : 0 ≤ u.fOrientation ∧ u.fOrientation ≤ 7) (ht : 0 ≤ t.fOrientation ∧ t.fOrientation ≤ 7) (bu : BdT u 100000) (bt : BdT t 100000) (bp : BdP p 100000) :
    mvP (cmpT u t) p = mvP u (mvP t p) := by
  have b1 := mvP_bd (t := t) (p := p) (B := 100000) (S := 100000) bp bt (by omega) (by omega) (by omega)
  have b2 := mvP_bd (t := u) (p := ⟨t.fX, t.fY⟩) (B := 100000) (S := 100000) bt bu (by omega) (by omega) (by omega)
  have e1 := mvP_Z (t := t) (p := p) ht (by unfold BdP at *; omega) (by unfold BdT at *; omega)
  have e2 := mvP_Z (t := u) (p := mvP t p) hu (by unfold BdP; omega) (by unfold BdT at *; omega)
  have e3 := mvP_Z (t := u) (p := ⟨t.fX, t.fY⟩) hu (by unfold BdP; unfold BdT at bt; simp only; omega) (by unfold BdT at *; omega)
  have e4 := mvP_Z (t := cmpT u t) (p := p) (cmpO_ori ht hu) (by unfold BdP at *; omega) (by unfold BdT cmpT; simp only; omega)
  have hc := mvZ_cmp ht hu p.fX p.fY t.fX t.fY u.fX u.fY
  rw [← e3, ← e1] at hc
  rw [← e2] at hc
  have e5 : ((mvP (cmpT u t) p).fX, (mvP (cmpT u t) p).fY) = ((mvP u (mvP t p)).fX, (mvP u (mvP t p)).fY) := e4.trans hc
  injection e5 with e6 e7
  cases h1 : mvP (cmpT u t) p
  cases h2 : mvP u (mvP t p)
  rw [h1, h2] at e6 e7
  simp only at e6 e7
  rw [e6, e7]
/-- inside -/
def sub (r R : TRect) : Prop := R.fX0 ≤ r.fX0 ∧ r.fX1 ≤ R.fX1 ∧ R.fY0 ≤ r.fY0 ∧ r.fY1 ≤ R.fY1
def inC (p : TPoint) (C : TRect) : Prop := C.fX0 ≤ p.fX ∧ p.fX ≤ C.fX1 ∧ C.fY0 ≤ p.fY ∧ p.fY ≤ C.fY1
theorem inC_mv {u : TTransform} {p : TPoint} {C : TRect} (hu : 0 ≤ u.fOrientation ∧ u.fOrientation ≤ 7) (bu : BdT u 100000) (bC : NB C 100000) (h : inC p C) : inC (mvP u p) (mvR u C) := by
  obtain ⟨c1, c2, c3, c4, c5, c6⟩ := bC
  obtain ⟨h1, h2, h3, h4⟩ := h
  have e1 := mvP_Z (t := u) (p := p) hu (by unfold BdP; omega) (by unfold BdT at *; omega)
  have e2 := mvP_Z (t := u) (p := ⟨C.fX0, C.fY0⟩) hu (by unfold BdP; simp only; omega) (by unfold BdT at *; omega)
  have e3 := mvP_Z (t := u) (p := ⟨C.fX1, C.fY1⟩) hu (by unfold BdP; simp only; omega) (by unfold BdT at *; omega)
  unfold inC mvR
  simp only [s_imin, s_imax]
  rcases ori8 hu with g | g | g | g | g | g | g | g <;> rw [g] at e1 e2 e3 <;> simp [mvZ] at e1 e2 e3 <;> omega
theorem sub_of_in {t : TTransform} {r C : TRect} (h1 : inC (mvP t ⟨r.fX0, r.fY0⟩) C) (h2 : inC (mvP t ⟨r.fX1, r.fY1⟩) C) : sub (mvR t r) C := by
  obtain ⟨a1, a2, a3, a4⟩ := h1
  obtain ⟨b1, b2, b3, b4⟩ := h2
  unfold sub mvR
  simp only [s_imin, s_imax]
  omega
theorem in_of_sub {t : TTransform} {r C : TRect} (h : sub (mvR t r) C) : inC (mvP t ⟨r.fX0, r.fY0⟩) C ∧ inC (mvP t ⟨r.fX1, r.fY1⟩) C := by
  unfold sub mvR at h
  simp only [s_imin, s_imax] at h
  unfold inC
  omega
theorem sub_mv {u : TTransform} {r R : TRect} (hu : 0 ≤ u.fOrientation ∧ u.fOrientation ≤ 7) (bu : BdT u 100000) (bR : NB R 100000) (br_ : NB r 100000) (h : sub r R) : sub (mvR u r) (mvR u R) := by
  obtain ⟨h1, h2, h3, h4⟩ := h
  have := br_.x; have := br_.y
  exact sub_of_in (inC_mv hu bu bR (by unfold inC; simp only; omega)) (inC_mv hu bu bR (by unfold inC; simp only; omega))
theorem sub_cmp {u t : TTransform} {r C : TRect} (hu : 0 ≤ u.fOrientation ∧ u.fOrientation ≤ 7) (ht : 0 ≤ t.fOrientation ∧ t.fOrientation ≤ 7) (bu : BdT u 100000) (bt : BdT t 100000) (br_ : NB r 100000) (bC : NB C 100000) (h : sub (mvR t r) C) : sub (mvR (cmpT u t) r) (mvR u C) := by
  obtain ⟨g1, g2⟩ := in_of_sub h
  obtain ⟨c1, c2, c3, c4, c5, c6⟩ := br_
  refine sub_of_in ?_ ?_
  · rw [mvP_cmp hu ht bu bt (by unfold BdP; simp only; omega)]; exact inC_mv hu bu bC g1
  · rw [mvP_cmp hu ht bu bt (by unfold BdP; simp only; omega)]; exact inC_mv hu bu bC g2
theorem sub_trans {a b c : TRect} (h : sub a b) (g : sub b c) : sub a c := by unfold sub at *; omega
theorem hull_l (a b : TRect) : sub a (hull a b) := by unfold sub hull; simp only [s_imin, s_imax]; omega
theorem hull_r (a b : TRect) : sub b (hull a b) := by unfold sub hull; simp only [s_imin, s_imax]; omega
theorem sub_refl (a : TRect) : sub a a := by unfold sub; omega
theorem sub_fold : ∀ (l : List TRect) (a : TRect), sub a (l.foldl hull a) ∧ ∀ x ∈ l, sub x (l.foldl hull a)
  | [], a => ⟨sub_refl a, fun x hx => by cases hx⟩
  | b :: l, a => by
    obtain ⟨h1, h2⟩ := sub_fold l (hull a b)
    refine ⟨sub_trans (hull_l a b) h1, fun x hx => ?_⟩
    rcases List.mem_cons.1 hx with rfl | hx
    · exact sub_trans (hull_r a x) h1
    · exact h2 x hx
theorem sub_bxs {l : List TRect} {x : TRect} (h : x ∈ l) : sub x (bxs l) := by
  cases l with
  | nil => cases h
  | cons a r =>
    obtain ⟨h1, h2⟩ := sub_fold r a
    rcases List.mem_cons.1 h with rfl | h
    · exact h1
    · exact h2 x h
theorem ovl_sub {r R wd : TRect} (h : sub r R) (g : ovlG r wd = true) : ovlG R wd = true := by
  rw [ovlG_iff] at g ⊢
  unfold sub at h
  omega
/- all occurrences below one; what a query leaves out does not overlap its window; flattening -/
noncomputable def tt2 : Nat → TTransform → Bool := fun _ _ => true
noncomputable def allL (a : TLibrary) (k n : Nat) : List TOccurrence := occG a tt2 n (rootO k)
theorem GO_bd {a : TLibrary} {o : TOccurrence} (h : GO a o) : BdT o.fPlace 2560 := by
  have := place_small h
  unfold BdT; omega
theorem mem_own {c : TCell} {s : TShape} (h : s ∈ c.fShapes) : s.fBox ∈ own c := by
  unfold own
  exact List.mem_append_left _ (List.mem_map.2 ⟨s, h, rfl⟩)
theorem box_all {a : TLibrary} {k : Nat} (hk : k < a.fCells.length) {r : TRect} (h : r ∈ allOf (boxesN a.fCells k) (gd a.fCells k)) : ∃ b, boxV a k = [b] ∧ sub r b := by
  refine ⟨bxs (allOf (boxesN a.fCells k) (gd a.fCells k)), ?_, sub_bxs h⟩
  show gd (boxesN a.fCells a.fCells.length) k = _
  rw [boxesN_gd a.fCells hk]
  unfold one
  rw [if_neg (by intro e; rw [e] at h; cases h)]
/-- the shapes of all occurrences below o lie in o's content box -/
theorem below_in (a : TLibrary) (hv : okLib a = true) : ∀ n o, GO a o → ∀ o' ∈ occG a tt2 n o, ∀ s ∈ (gd a.fCells o'.fCell.toNat).fShapes, ∃ b, boxV a o.fCell.toNat = [b] ∧ sub (mvR o'.fPlace s.fBox) (mvR o.fPlace b) := by
  intro n
  induction n with
  | zero => intro o _ o' h; simp [occG] at h
  | succ n ih =>
    intro o ho o' h s hs
    obtain ⟨c, hc, hcn, hpl⟩ := ho.cell
    have hvc := vc_of hv hcn
    have h8 := (okLib_leG hv).2
    have hbd := GO_bd ho
    rw [occG] at h
    rcases List.mem_cons.1 h with rfl | h
    · rw [hc, Int.toNat_natCast] at hs ⊢
      have hsh := hvc.shape s hs
      unfold okShape at hsh
      rw [Bool.and_eq_true] at hsh
      obtain ⟨b, hb, hsub⟩ := box_all hcn (List.mem_append_left _ (mem_own hs) : s.fBox ∈ allOf (boxesN a.fCells c) (gd a.fCells c))
      have hN := box_NB a hv c hcn hb
      exact ⟨b, hb, sub_mv ho.ori (by unfold BdT at *; omega) (hN.mono (by omega)) ((okRect_NB hsh.2).mono (by omega)) hsub⟩
    · rw [ctr_range] at h
      obtain ⟨i, hi, h⟩ := List.mem_flatMap.1 h
      rw [List.mem_range] at hi
      simp only [tt2, if_true] at h
      have hmem := gd_mem hi
      obtain ⟨e, he⟩ : ∃ e, e = gd (elemsC (gd a.fCells o.fCell.toNat)) i := ⟨_, rfl⟩
      rw [← he] at hmem h
      obtain ⟨hch, m, c', hm, hc', hmc, _⟩ := ho.child hv hmem ((0 + i : Nat) : Int)
      have hcc : c' = c := by omega
      subst hcc
      obtain ⟨b, hb, hsub⟩ := ih _ hch o' h s hs
      rw [show (TOccurrence.mk e.gcell (cmpT o.fPlace e.gplace) (o.fPath ++ [((0 + i : Nat) : Int)])).fCell = e.gcell from rfl, hm, Int.toNat_natCast] at hb
      simp only at hsub
      rw [hc, Int.toNat_natCast] at hmem ⊢
      obtain ⟨_, hpe, hoe⟩ := mem_elemsC hvc hmem
      have hin : mvR e.gplace b ∈ allOf (boxesN a.fCells c') (gd a.fCells c') := by
        unfold allOf
        refine List.mem_append_right _ ?_
        rw [← part_elems]
        refine List.mem_flatMap.2 ⟨e, hmem, List.mem_map.2 ⟨b, ?_, rfl⟩⟩
        rw [hm, Int.toNat_natCast]
        have hb' : gd (boxesN a.fCells a.fCells.length) m = [b] := hb
        rw [boxesN_gd a.fCells (show m < a.fCells.length by omega)] at hb'
        rw [boxesN_gd a.fCells hmc, hb']; simp
      obtain ⟨B, hB, hsubB⟩ := box_all hcn hin
      have hN := box_NB a hv c' hcn hB
      have hNb := box_NB a hv m (by omega) hb
      exact ⟨B, hB, sub_trans hsub (sub_cmp ho.ori hoe (by unfold BdT at *; omega) (by unfold BdT; omega) (hNb.mono (by omega)) (hN.mono (by omega)) hsubB)⟩
/-- what overlaps -/
noncomputable def boxF (a : TLibrary) (y : Int) (wd : TRect) (o : TOccurrence) : List TRect := (gd a.fCells o.fCell.toNat).fShapes.flatMap fun s => if (std.eq s.fLayer y && ovlG (mvR o.fPlace s.fBox) wd) then [mvR o.fPlace s.fBox] else []
theorem hits_box (a : TLibrary) (y : Int) (wd : TRect) (o : TOccurrence) : (hitsOf a y wd o).map (fun h => h.fBox) = boxF a y wd o := by
  have e : boxF a y wd o = (List.range (gd a.fCells o.fCell.toNat).fShapes.length).flatMap fun j => (fun s : TShape => if (std.eq s.fLayer y && ovlG (mvR o.fPlace s.fBox) wd) then [mvR o.fPlace s.fBox] else []) (gd (gd a.fCells o.fCell.toNat).fShapes j) := (range_fm _ _).symm
  rw [e]
  unfold hitsOf
  rw [List.map_flatMap]
  refine congrArg (fun f => List.flatMap f _) ?_
  funext j
  unfold hitF
  split
  · rename_i h1; simp only [h1, if_true]; rfl
  · rename_i h1; simp only [h1]; rfl
theorem boxF_nil {a : TLibrary} {y : Int} {wd : TRect} {o : TOccurrence} (h : ∀ s ∈ (gd a.fCells o.fCell.toNat).fShapes, ovlG (mvR o.fPlace s.fBox) wd = false) : boxF a y wd o = [] := by
  unfold boxF
  rw [List.flatMap_eq_nil_iff]
  intro s hs
  rw [h s hs, Bool.and_false, if_neg (by simp)]
theorem fm_nil {α β : Type} {l : List α} {f : α → List β} (h : ∀ x ∈ l, f x = []) : l.flatMap f = [] := List.flatMap_eq_nil_iff.2 h
theorem prune (a : TLibrary) (hv : okLib a = true) (y : Int) (wd : TRect) : ∀ n m o, GO a o → o.fCell.toNat < n → o.fCell.toNat < m →
    (occG a tt2 n o).flatMap (boxF a y wd) = (occG a (visP a wd) m o).flatMap (boxF a y wd) := by
  intro n
  induction n with
  | zero => intro m o _ h; omega
  | succ n ih =>
    intro m o ho hn hm
    cases m with
    | zero => omega
    | succ m =>
      obtain ⟨c, hc, hcn, hpl⟩ := ho.cell
      rw [occG, occG, List.flatMap_cons, List.flatMap_cons]
      congr 1
      rw [ctr_range, ctr_range, List.flatMap_assoc, List.flatMap_assoc]
      have key : ∀ i ∈ List.range (elemsC (gd a.fCells o.fCell.toNat)).length,
          ((fun (s : Nat) (e : Telement) => if tt2 e.gcell.toNat (cmpT o.fPlace e.gplace) then occG a tt2 n ⟨e.gcell, cmpT o.fPlace e.gplace, o.fPath ++ [(s : Int)]⟩ else []) (0 + i) (gd (elemsC (gd a.fCells o.fCell.toNat)) i)).flatMap (boxF a y wd) =
          ((fun (s : Nat) (e : Telement) => if visP a wd e.gcell.toNat (cmpT o.fPlace e.gplace) then occG a (visP a wd) m ⟨e.gcell, cmpT o.fPlace e.gplace, o.fPath ++ [(s : Int)]⟩ else []) (0 + i) (gd (elemsC (gd a.fCells o.fCell.toNat)) i)).flatMap (boxF a y wd) := by
        intro i hi
        rw [List.mem_range] at hi
        simp only [tt2, if_true]
        have hmem := gd_mem hi
        obtain ⟨e, he⟩ : ∃ e, e = gd (elemsC (gd a.fCells o.fCell.toNat)) i := ⟨_, rfl⟩
        rw [← he] at hmem ⊢
        obtain ⟨hch, q, c', hq, hc', hqc, _⟩ := ho.child hv hmem ((0 + i : Nat) : Int)
        cases hp : visP a wd e.gcell.toNat (cmpT o.fPlace e.gplace) with
        | true =>
          rw [if_pos rfl]
          exact ih m _ hch (by show e.gcell.toNat < n; omega) (by show e.gcell.toNat < m; omega)
        | false =>
          rw [if_neg (by simp), List.flatMap_nil]
          refine fm_nil fun o' ho' => boxF_nil fun s hs => ?_
          obtain ⟨b, hb, hsub⟩ := below_in a hv n _ hch o' ho' s hs
          simp only at hb hsub
          cases hov : ovlG (mvR o'.fPlace s.fBox) wd with
          | false => rfl
          | true =>
            have h1 := ovl_sub hsub hov
            unfold visP at hp
            rw [hb] at hp
            have h2 : bxs [b] = b := rfl
            rw [h2, h1] at hp
            simp at hp
      have e : ∀ (l : List Nat) (f g : Nat → List TRect), (∀ i ∈ l, f i = g i) → l.flatMap f = l.flatMap g := fun l f g h => by
        induction l with
        | nil => rfl
        | cons x r ih => rw [List.flatMap_cons, List.flatMap_cons, h x (by simp), ih (fun i hi => h i (by simp [hi]))]
      exact e _ _ _ key
/-- a loop that appends while a test holds -/
theorem while_chk {β : Type} (f : Nat → List β) (P : Nat → Bool) (n : Nat) (c : Int) (B : Nat) {st : Int × List β → Option ((Int × List β) ⊕ (Int ⊕ List β))}
    (h : ∀ i, i < n → ∀ v : List β, v.length + (f i).length ≤ B → st ((i : Int), v) = if P i then some (.inl (((i + 1 : Nat) : Int), v ++ f i)) else some (.inr (.inl c))) (he : ∀ v, st ((n : Int), v) = some (.inr (.inr v))) :
    ∀ (m i : Nat) (acc : List β), i + m = n → acc.length + ((List.range' i m).flatMap f).length ≤ B → whileP st ((i : Int), acc) = some (if (List.range' i m).all P then .inr (acc ++ (List.range' i m).flatMap f) else .inl c)
  | 0, i, acc, e, hB => by
    obtain rfl : i = n := by omega
    rw [whileP_unfold, he]; simp
  | m + 1, i, acc, e, hB => by
    rw [List.range'_succ, List.flatMap_cons, List.length_append] at hB
    rw [whileP_unfold, h i (by omega) acc (by omega), List.range'_succ, List.all_cons, List.flatMap_cons]
    cases hP : P i with
    | false => rfl
    | true =>
      simp only [Bool.true_and, if_true]
      rw [while_chk f P n c B h he m (i + 1) (acc ++ f i) (by omega) (by rw [List.length_append]; omega), List.append_assoc]
noncomputable def cCode (a : TLibrary) (k : Int) : Int := if okLib a = false then 1 else if wB k 0 ((a.fCells.length : Int) - 1) = false then 5 else 0
/-- all occurrences' places are valid -/
noncomputable def okOccs (l : List TOccurrence) : Bool := (List.range' 0 l.length).all fun i => okTr (gd l i).fPlace
noncomputable def oCode (a : TLibrary) (k : Int) : Int := if cCode a k = 0 then (if 200 < cnt a.fCells k.toNat then 3 else if okOccs (allL a k.toNat 65) then 0 else 2) else cCode a k
noncomputable def flatS (a : TLibrary) (o : TOccurrence) : List TShape := (gd a.fCells o.fCell.toNat).fShapes.map fun s => ⟨s.fLayer, mvR o.fPlace s.fBox⟩
noncomputable def okFlat (a : TLibrary) (o : TOccurrence) : Bool := (List.range' 0 (gd a.fCells o.fCell.toNat).fShapes.length).all fun j => okRect (mvR o.fPlace (gd (gd a.fCells o.fCell.toNat).fShapes j).fBox)
noncomputable def fCode (a : TLibrary) (k : Int) : Int := if oCode a k = 0 then (if (List.range' 0 (allL a k.toNat 65).length).all (fun i => okFlat a (gd (allL a k.toNat 65) i)) then 0 else 2) else oCode a k
end Go.Proofs.YtpobpihakgegbaaGreat.AM
