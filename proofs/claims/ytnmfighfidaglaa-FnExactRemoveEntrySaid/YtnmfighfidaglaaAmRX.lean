/-
  What the functions that the law reaches compute, and that they do. No condition.
-/
import Derived.Test.YtnmfighfidaglaaAmRW
import Derived.Test.YtnmfighfidaglaaAmP
import Derived.Test.YtnmfighfidaglaaAmE
namespace Go.Proofs.Ytnmfighfidaglaa.AM
open Go Go.Proofs Go.RowKit
set_option linter.unusedVariables false
set_option linter.unusedSimpArgs false
set_option maxRecDepth 100000

/- the spatial index: the buckets that a rectangle lies in -/
noncomputable def wX (a b c : Int) : Bool := std.le b a && std.le a c
theorem spec_l09In_okX (a b c : Int) : F_spec_l09In a b c = some (wX a b c) := by
  unfold F_spec_l09In wX
  cases std.le b a <;> rfl
theorem impl_within_okX (a b c : Int) : F_impl_within a b c = some (wX a b c) := by
  unfold F_impl_within wX
  cases std.le b a <;> rfl
noncomputable def okBox (a : TRect) : Bool := std.le (-40) a.fX0 && (std.lt a.fX0 a.fX1 && (std.le a.fX1 40 && (std.le (-40) a.fY0 && (std.lt a.fY0 a.fY1 && std.le a.fY1 40))))
theorem spec_l09Rect_okX (a : TRect) : F_spec_l09Rect a = some (okBox a) := by
  unfold F_spec_l09Rect okBox
  cases std.le (-40) a.fX0 <;> cases std.lt a.fX0 a.fX1 <;> cases std.le a.fX1 40 <;> cases std.le (-40) a.fY0 <;> cases std.lt a.fY0 a.fY1 <;> rfl
theorem impl_IsValidRect_okX (a : TRect) : F_impl_IsValidRect a = some (okBox a) := by
  unfold F_impl_IsValidRect okBox
  cases std.le (-40) a.fX0 <;> cases std.lt a.fX0 a.fX1 <;> cases std.le a.fX1 40 <;> cases std.le (-40) a.fY0 <;> cases std.lt a.fY0 a.fY1 <;> rfl
theorem okBox_iff {a : TRect} : okBox a = true ↔ (-40 ≤ a.fX0 ∧ a.fX0 < a.fX1 ∧ a.fX1 ≤ 40 ∧ -40 ≤ a.fY0 ∧ a.fY0 < a.fY1 ∧ a.fY1 ≤ 40) := by
  unfold okBox
  simp only [s_le, s_lt, Bool.and_eq_true, decide_eq_true_eq]
noncomputable def ovl (a b : TRect) : Bool := std.lt a.fX0 b.fX1 && (std.lt b.fX0 a.fX1 && (std.lt a.fY0 b.fY1 && std.lt b.fY0 a.fY1))
theorem ovl_iff {a b : TRect} : ovl a b = true ↔ (a.fX0 < b.fX1 ∧ b.fX0 < a.fX1 ∧ a.fY0 < b.fY1 ∧ b.fY0 < a.fY1) := by
  unfold ovl
  simp only [s_lt, Bool.and_eq_true, decide_eq_true_eq]
theorem spec_l11Overlap_ok (a b : TRect) : F_spec_l11Overlap a b = some (ovl a b) := by
  unfold F_spec_l11Overlap ovl
  cases std.lt a.fX0 b.fX1 <;> cases std.lt b.fX0 a.fX1 <;> cases std.lt a.fY0 b.fY1 <;> rfl
def bk (k : Nat) : TRect := ⟨-40 + 16 * ((k % 5 : Nat) : Int), -40 + 16 * ((k / 5 : Nat) : Int), -24 + 16 * ((k % 5 : Nat) : Int), -24 + 16 * ((k / 5 : Nat) : Int)⟩
theorem rem_nat (k : Nat) : std.rem (k : Int) 5 = ((k % 5 : Nat) : Int) := rfl
theorem quo_nat (k m : Nat) (h : k < 1000000) : std.quo .i64 (k : Int) ((m : Nat) : Int) = ((k / m : Nat) : Int) := by
  show IntKind.i64.wrap ((k : Int).tdiv (m : Int)) = _
  have e : (k : Int).tdiv (m : Int) = ((k / m : Nat) : Int) := rfl
  have h1 : k / m ≤ k := Nat.div_le_self _ _
  rw [e]
  generalize k / m = q at h1 ⊢
  rw [wrap_id (by omega) (by omega)]
theorem spec_l11Bucket_ok (k : Nat) (h : k < 25) : F_spec_l11Bucket (k : Int) = some (bk k) := by
  unfold F_spec_l11Bucket bk
  rw [req_of (by rw [s_nz]; decide), req_of (by rw [s_nz]; decide), rem_nat, show (5 : Int) = ((5 : Nat) : Int) from rfl, quo_nat k 5 (by omega)]
  have h1 : k % 5 < 5 := Nat.mod_lt _ (by omega)
  have h2 : k / 5 < 5 := by omega
  rw [mul_id (by omega) (by omega), mul_id (by omega) (by omega), add_id (x := -40) (by omega) (by omega), add_id (x := -40) (by omega) (by omega), add_id (y := 16) (by omega) (by omega), add_id (y := 16) (by omega) (by omega)]
  congr 2 <;> omega
/-- the ids of the entries that lie in the bucket k -/
noncomputable def idsF (a : List TSpatialEntry) (k : Nat) : List Int := (a.filter fun e => ovl e.fBox (bk k)).map fun e => e.fId
theorem idsF_len (a : List TSpatialEntry) (k : Nat) : (idsF a k).length ≤ a.length := by
  unfold idsF
  rw [List.length_map]
  exact List.length_filter_le _ _
theorem idsF_succ (a : List TSpatialEntry) (k i : Nat) (h : i < a.length) : idsF (a.take (i + 1)) k = idsF (a.take i) k ++ if ovl (gd a i).fBox (bk k) then [(gd a i).fId] else [] := by
  unfold idsF
  rw [List.take_succ_eq_append_getElem h, List.filter_append, List.map_append, gd_lt h]
  congr 1
  cases hb : ovl a[i].fBox (bk k) <;> simp [hb]
noncomputable def made (a : List TSpatialEntry) : TSpatialIndex := ⟨a, (List.range 25).map (idsF a)⟩
theorem roomN {n b : Nat} (hn : n ≤ 10000000) (hb : b ≤ 1000) : std.room n b := by
  rw [s_room]
  exact Nat.le_trans (Nat.mul_le_mul hn hb) (by omega)
theorem spec_l11Made_ok (a : List TSpatialEntry) (h : a.length ≤ 1048576) : F_spec_l11Made a = some (made a) := by
  unfold F_spec_l11Made
  have hw : whileP (L_spec_l11Made_x3 a) ((0 : Int), ([] : List (List Int))) = some ((List.range 25).map (idsF a)) := by
    refine while_from (fun k => ((k : Int), (List.range k).map (idsF a))) 25 rfl (fun k hk => ?_) ?_
    · have hi : whileP (L_spec_l11Made_x19 a (k : Int)) ((0 : Int), ([] : List Int)) = some (idsF a k) := by
        refine while_from (fun i => ((i : Int), idsF (a.take i) k)) a.length rfl (fun i hi => ?_) ?_
        · have hl := idsF_len (a.take i) k
          rw [List.length_take] at hl
          simp only [L_spec_l11Made_x19, letO_eq]
          rw [ltl_t hi, br_t, req_of (inRl hi), spec_l11Bucket_ok k hk, Option.bind_some, s_toNn, spec_l11Overlap_ok, Option.bind_some, inc_nat (by omega), idsF_succ a k i hi]
          cases ovl (gd a i).fBox (bk k) with
          | true => rw [br_t, req_of (inRl hi), req_of (roomN (by rw [s_nadd, len_eq, len_eq]; simp only [List.length_singleton]; omega) (by omega))]; rfl
          | false => rw [br_f]; simp
        · simp only [L_spec_l11Made_x19, letO_eq]
          rw [ltl_f, br_f, List.take_length]
      simp only [L_spec_l11Made_x3, letO_eq]
      rw [lt_true (by omega), br_t, hi, Option.bind_some, req_of (roomN (by rw [s_nadd, len_eq, len_eq]; simp; omega) (by omega)), inc_nat (by omega), List.range_succ, List.map_append]
      rfl
    · simp only [L_spec_l11Made_x3, letO_eq]
      rfl
  rw [hw]
  rfl
theorem spec_l11Made_mo_ok (a : List TSpatialEntry) (h : a.length ≤ 1048576) : F_spec_l11Made_mo a = some (made a) := by
  unfold F_spec_l11Made_mo
  have hw : whileP (L_spec_l11Made_mo_x3 a) ((0 : Int), ([] : List (List Int))) = some ((List.range 25).map (idsF a)) := by
    refine while_from (fun k => ((k : Int), (List.range k).map (idsF a))) 25 rfl (fun k hk => ?_) ?_
    · have hi : whileP (L_spec_l11Made_mo_x19 a (k : Int)) ((0 : Int), ([] : List Int)) = some (idsF a k) := by
        refine while_from (fun i => ((i : Int), idsF (a.take i) k)) a.length rfl (fun i hi => ?_) ?_
        · have hl := idsF_len (a.take i) k
          rw [List.length_take] at hl
          simp only [L_spec_l11Made_mo_x19, letO_eq]
          rw [ltl_t hi, br_t, req_of (inRl hi), spec_l11Bucket_ok k hk, Option.bind_some, s_toNn, s_nadd, Nat.zero_add, spec_l11Overlap_ok, Option.bind_some, inc_nat (by omega), idsF_succ a k i hi]
          cases ovl (gd a i).fBox (bk k) with
          | true => rw [br_t, req_of (inRl hi), req_of (roomN (by rw [s_nadd, len_eq, len_eq]; simp only [List.length_singleton]; omega) (by omega))]; rfl
          | false => rw [br_f]; simp
        · simp only [L_spec_l11Made_mo_x19, letO_eq]
          rw [ltl_f, br_f, List.take_length]
      simp only [L_spec_l11Made_mo_x3, letO_eq]
      rw [lt_true (by omega), br_t, hi, Option.bind_some, req_of (roomN (by rw [s_nadd, len_eq, len_eq]; simp; omega) (by omega)), inc_nat (by omega), List.range_succ, List.map_append]
      rfl
    · simp only [L_spec_l11Made_mo_x3, letO_eq]
      rfl
  rw [hw]
  rfl
def rowL (xa n y : Nat) : List Int := (List.range' xa n).map fun x => ((5 * y + x : Nat) : Int)
def bkL (xa nx ya ny : Nat) : List Int := (List.range' ya ny).flatMap (rowL xa nx)
theorem rowL_len (xa n y : Nat) : (rowL xa n y).length = n := by simp [rowL]
theorem rowL_succ (xa n y : Nat) : rowL xa (n + 1) y = rowL xa n y ++ [((5 * y + (xa + n) : Nat) : Int)] := by
  unfold rowL
  rw [List.range'_1_concat, List.map_append]; rfl
theorem bkL_succ (xa nx ya n : Nat) : bkL xa nx ya (n + 1) = bkL xa nx ya n ++ rowL xa nx (ya + n) := by
  unfold bkL
  rw [List.range'_1_concat, List.flatMap_append]; simp
theorem bkL_len (xa nx ya : Nat) : ∀ n, (bkL xa nx ya n).length = n * nx
  | 0 => by simp [bkL]
  | n + 1 => by rw [bkL_succ, List.length_append, bkL_len xa nx ya n, rowL_len, Nat.add_mul, Nat.one_mul]
/-- the columns (or rows) of a side -/
def ca (x : Int) : Nat := ((x + 40).toNat) / 16
def cb (x : Int) : Nat := ((x + 39).toNat) / 16
theorem quo_ca {x : Int} (h : -40 ≤ x) (h' : x ≤ 40) : std.quo .i64 (std.add .i64 x 40) 16 = ((ca x : Nat) : Int) := by
  rw [add_id (by omega) (by omega)]
  obtain ⟨p, hp⟩ : ∃ p : Nat, x + 40 = (p : Int) := ⟨(x + 40).toNat, by omega⟩
  unfold ca
  rw [hp, Int.toNat_natCast]
  exact quo_nat p 16 (by omega)
theorem quo_cb {x : Int} (h : -40 < x) (h' : x ≤ 40) : std.quo .i64 (std.add .i64 (std.sub .i64 x 1) 40) 16 = ((cb x : Nat) : Int) := by
  rw [sub_id (by omega) (by omega), add_id (by omega) (by omega)]
  obtain ⟨p, hp⟩ : ∃ p : Nat, x + 39 = (p : Int) := ⟨(x + 39).toNat, by omega⟩
  unfold cb
  rw [show x - 1 + 40 = x + 39 by omega, hp, Int.toNat_natCast]
  exact quo_nat p 16 (by omega)
def bkOf (r : TRect) : List Int := bkL (ca r.fX0) (cb r.fX1 + 1 - ca r.fX0) (ca r.fY0) (cb r.fY1 + 1 - ca r.fY0)
theorem side_lt {x y : Int} (h1 : -40 ≤ x) (h2 : x < y) (h3 : y ≤ 40) : ca x ≤ cb y ∧ cb y < 5 := by
  unfold ca cb; omega
theorem impl_buckets_ok (r : TRect) (h : okBox r = true) : F_impl_buckets r = some (bkOf r) := by
  obtain ⟨h1, h2, h3, h4, h5, h6⟩ := okBox_iff.1 h
  obtain ⟨sx1, sx2⟩ := side_lt h1 h2 h3
  obtain ⟨sy1, sy2⟩ := side_lt h4 h5 h6
  unfold F_impl_buckets
  have nz : std.nz 16 := by rw [s_nz]; decide
  have hout : whileP (L_impl_buckets_x6 r) (((ca r.fY0 : Nat) : Int), ([] : List Int)) = some (bkOf r) := by
    refine while_from (fun j => (((ca r.fY0 + j : Nat) : Int), bkL (ca r.fX0) (cb r.fX1 + 1 - ca r.fX0) (ca r.fY0) j)) (cb r.fY1 + 1 - ca r.fY0) rfl (fun j hj => ?_) ?_
    · have hlen := bkL_len (ca r.fX0) (cb r.fX1 + 1 - ca r.fX0) (ca r.fY0) j
      have hb : j * (cb r.fX1 + 1 - ca r.fX0) ≤ 5 * 5 := Nat.mul_le_mul (by omega) (by omega)
      have hin : whileP (L_impl_buckets_x22 r ((ca r.fY0 + j : Nat) : Int)) (((ca r.fX0 : Nat) : Int), bkL (ca r.fX0) (cb r.fX1 + 1 - ca r.fX0) (ca r.fY0) j) = some (bkL (ca r.fX0) (cb r.fX1 + 1 - ca r.fX0) (ca r.fY0) (j + 1)) := by
        refine while_from (fun i => (((ca r.fX0 + i : Nat) : Int), bkL (ca r.fX0) (cb r.fX1 + 1 - ca r.fX0) (ca r.fY0) j ++ rowL (ca r.fX0) i (ca r.fY0 + j))) (cb r.fX1 + 1 - ca r.fX0) ?_ (fun i hi => ?_) ?_
        · simp [rowL]
        · simp only [L_impl_buckets_x22, letO_eq]
          rw [req_of nz, quo_cb (by omega) h3, le_true (by omega), br_t, req_of (roomN (by rw [s_nadd, len_eq, len_eq, List.length_append, hlen, rowL_len]; simp only [List.length_singleton]; omega) (by omega)), inc_nat (by omega), rowL_succ, List.append_assoc]
          rw [mul_id (by omega) (by omega), add_id (by omega) (by omega)]
          have e5 : (5 : Int) * ((ca r.fY0 + j : Nat) : Int) + ((ca r.fX0 + i : Nat) : Int) = ((5 * (ca r.fY0 + j) + (ca r.fX0 + i) : Nat) : Int) := by omega
          rw [e5]
          rfl
        · simp only [L_impl_buckets_x22, letO_eq]
          rw [req_of nz, quo_cb (by omega) h3, le_false (by omega), br_f, bkL_succ]
      simp only [L_impl_buckets_x6, letO_eq]
      rw [req_of nz, quo_cb (by omega) h6, le_true (by omega), br_t, req_of nz, quo_ca h1 (by omega), hin, Option.bind_some, inc_nat (by omega)]
      rfl
    · simp only [L_impl_buckets_x6, letO_eq]
      rw [req_of nz, quo_cb (by omega) h6, le_false (by omega), br_f]
      rfl
  simp only [letO_eq]
  rw [req_of nz, quo_ca h4 (by omega), hout]
  rfl
theorem bkOf_mem (r : TRect) (h : okBox r = true) (k : Nat) (hk : k < 25) : ((k : Int) ∈ bkOf r) ↔ ovl r (bk k) = true := by
  obtain ⟨h1, h2, h3, h4, h5, h6⟩ := okBox_iff.1 h
  obtain ⟨sx1, sx2⟩ := side_lt h1 h2 h3
  obtain ⟨sy1, sy2⟩ := side_lt h4 h5 h6
  rw [ovl_iff]
  have e : ((k : Int) ∈ bkOf r) ↔ (ca r.fX0 ≤ k % 5 ∧ k % 5 ≤ cb r.fX1 ∧ ca r.fY0 ≤ k / 5 ∧ k / 5 ≤ cb r.fY1) := by
    unfold bkOf bkL rowL
    simp only [List.mem_flatMap, List.mem_map, List.mem_range'_1]
    constructor
    · rintro ⟨y, hy, x, hx, he⟩
      omega
    · rintro ⟨a1, a2, a3, a4⟩
      exact ⟨k / 5, by omega, k % 5, by omega, by omega⟩
  rw [e]
  unfold ca cb
  simp only [bk]
  omega
theorem bkOf_lt (r : TRect) (h : okBox r = true) : ∀ b ∈ bkOf r, ∃ k : Nat, k < 25 ∧ b = (k : Int) := by
  obtain ⟨h1, h2, h3, h4, h5, h6⟩ := okBox_iff.1 h
  obtain ⟨sx1, sx2⟩ := side_lt h1 h2 h3
  obtain ⟨sy1, sy2⟩ := side_lt h4 h5 h6
  intro b hb
  unfold bkOf bkL rowL at hb
  simp only [List.mem_flatMap, List.mem_map, List.mem_range'_1] at hb
  obtain ⟨y, hy, x, hx, rfl⟩ := hb
  exact ⟨5 * y + x, by omega, rfl⟩
theorem bkOf_nodup (r : TRect) (h : okBox r = true) : (bkOf r).Nodup := by
  obtain ⟨h1, h2, h3, h4, h5, h6⟩ := okBox_iff.1 h
  obtain ⟨sx1, sx2⟩ := side_lt h1 h2 h3
  unfold bkOf
  generalize ca r.fX0 = xa at *
  generalize cb r.fX1 = xb at *
  generalize ca r.fY0 = ya at *
  generalize cb r.fY1 + 1 - ya = n
  induction n with
  | zero => simp [bkL]
  | succ n ih =>
    rw [bkL_succ, List.nodup_append]
    refine ⟨ih, ?_, ?_⟩
    · unfold rowL
      refine List.Pairwise.map _ (fun a b hab he => hab ?_) List.nodup_range'
      have he' : ((5 * (ya + n) + a : Nat) : Int) = ((5 * (ya + n) + b : Nat) : Int) := he
      omega
    · intro p hp q hq
      unfold bkL rowL at hp
      unfold rowL at hq
      simp only [List.mem_flatMap, List.mem_map, List.mem_range'_1] at hp hq
      obtain ⟨y, hy, x, hx, rfl⟩ := hp
      obtain ⟨x', hx', rfl⟩ := hq
      omega
theorem bkOf_len (r : TRect) (h : okBox r = true) : (bkOf r).length ≤ 25 := by
  obtain ⟨h1, h2, h3, h4, h5, h6⟩ := okBox_iff.1 h
  obtain ⟨sx1, sx2⟩ := side_lt h1 h2 h3
  obtain ⟨sy1, sy2⟩ := side_lt h4 h5 h6
  unfold bkOf
  rw [bkL_len]
  exact Nat.le_trans (Nat.mul_le_mul (show _ ≤ 5 by omega) (show _ ≤ 5 by omega)) (by omega)
/-- the lists after t of the buckets of an entry -/
noncomputable def bump (old : Nat → List Int) (bs : List Int) (x : Int) (k : Nat) : List Int := old k ++ if (k : Int) ∈ bs then [x] else []
theorem bump_set (old : Nat → List Int) (bs : List Int) (x : Int) (k : Nat) (hk : k < 25) (hn : (k : Int) ∉ bs) :
    ((List.range 25).map (bump old bs x)).set k (old k ++ [x]) = (List.range 25).map (bump old (bs ++ [(k : Int)]) x) := by
  apply List.ext_getElem
  · simp
  · intro i h1 h2
    simp only [List.length_set, List.length_map, List.length_range] at h1
    rw [List.getElem_set, List.getElem_map, List.getElem_range]
    split
    · rename_i h; subst h; simp [bump]
    · rename_i h
      rw [List.getElem_map, List.getElem_range]
      have : ¬ ((i : Int) = (k : Int)) := by omega
      simp [bump, this]
theorem impl_indexOf_ok (a : List TSpatialEntry) (h : a.length ≤ 1048576) (hb : ∀ e ∈ a, okBox e.fBox = true) : F_impl_indexOf a = some (made a) := by
  unfold F_impl_indexOf F_impl_EmptyIndex
  simp only [letO_eq]
  rw [req_of (by rw [s_nneg]; omega), req_of (show std.room (std.toN 25) 24 from roomN (by rw [s_toN]; decide) (by omega)), Option.bind_some, Option.bind_some]
  obtain ⟨E, hE⟩ : ∃ E : TSpatialIndex, E = TSpatialIndex.mk ([] : List TSpatialEntry) (List.replicate (std.toN 25) ([] : List Int)) := ⟨_, rfl⟩
  have hEl : len E.fBuckets = 25 := by rw [hE]; simp [len_eq, s_toN]
  have hE0 : E.fBuckets = (List.range 25).map (idsF (a.take 0)) := by rw [hE]; rfl
  rw [← hE]
  have hw : whileP (L_impl_indexOf_x6 a E) ((0 : Int), ([] : List TSpatialEntry), E.fBuckets) = some (a, (List.range 25).map (idsF a)) := by
    refine while_from (fun i => ((i : Int), a.take i, (List.range 25).map (idsF (a.take i)))) a.length (by rw [hE0]; rfl) (fun i hi => ?_) ?_
    · have hbx := hb _ (gd_mem hi)
      have hin : whileP (L_impl_indexOf_x28 a E (i : Int) (bkOf (gd a i).fBox)) ((0 : Int), (List.range 25).map (idsF (a.take i))) = some ((List.range 25).map (idsF (a.take (i + 1)))) := by
        have hlen := bkOf_len _ hbx
        refine while_from (fun t => ((t : Int), (List.range 25).map (bump (idsF (a.take i)) ((bkOf (gd a i).fBox).take t) (gd a i).fId))) (bkOf (gd a i).fBox).length ?_ (fun t ht => ?_) ?_
        · simp [bump]
        · obtain ⟨k, hk, hkb⟩ := bkOf_lt _ hbx _ (gd_mem ht)
          have hnot : (k : Int) ∉ (bkOf (gd a i).fBox).take t := by
            have hnd := bkOf_nodup _ hbx
            rw [← hkb, gd_lt ht]
            intro hm
            obtain ⟨q, hq, he⟩ := List.mem_iff_getElem.1 hm
            rw [List.getElem_take] at he
            rw [List.length_take] at hq
            have := (List.getElem_inj hnd).1 he
            omega
          have hl := idsF_len (a.take i) k
          rw [List.length_take] at hl
          have hg : gd ((List.range 25).map (bump (idsF (a.take i)) ((bkOf (gd a i).fBox).take t) (gd a i).fId)) k = idsF (a.take i) k := by
            rw [range_gd _ 25 k hk]
            simp [bump, hnot]
          simp only [L_impl_indexOf_x28, letO_eq]
          rw [ltl_t ht, br_t, req_of (inRl ht)]
          simp only [s_nadd, Nat.zero_add, s_toNn, hkb, hg, hEl]
          rw [req_of (show std.inR (k : Int) 25 from inRn hk), req_of (roomN (by rw [len_eq, len_eq]; simp only [List.length_singleton]; omega) (by omega)), req_of (show std.inR (k : Int) 25 from inRn hk), req_of (by simp [len_eq]), Option.bind_some, inc_nat (by omega), bump_set _ _ _ k hk hnot, List.take_succ_eq_append_getElem ht, ← gd_lt ht, hkb]
        · simp only [L_impl_indexOf_x28, letO_eq]
          rw [ltl_f, br_f, List.take_length]
          congr 2
          apply List.map_congr_left
          intro k hk
          rw [idsF_succ a k i hi]
          unfold bump
          congr 1
          have := bkOf_mem (gd a i).fBox hbx k (List.mem_range.1 hk)
          by_cases h1 : ovl (gd a i).fBox (bk k) = true
          · rw [if_pos (this.2 h1), if_pos h1]
          · rw [if_neg (fun h2 => h1 (this.1 h2)), if_neg h1]
      simp only [L_impl_indexOf_x6, letO_eq]
      rw [ltl_t hi, br_t, req_of (inRl hi), s_toNn, req_of (roomN (by rw [s_nadd, len_eq, len_eq, List.length_take]; simp only [List.length_singleton]; omega) (by omega)), impl_buckets_ok _ hbx, Option.bind_some, hin, Option.bind_some, inc_nat (by omega), List.take_succ_eq_append_getElem hi, gd_lt hi]
    · simp only [L_impl_indexOf_x6, letO_eq]
      rw [ltl_f, br_f, List.take_length]
  rw [hw]
  simp only [Option.bind_some]
  rw [req_of (by rw [hEl]; simp [len_eq])]
  rfl
noncomputable def eqI (a b : List Int) : Bool := decide (a.length = b.length) && (List.range a.length).all fun i => std.eq (gd a i) (gd b i)
theorem eqlen (a b : Nat) : std.eq (std.ofN a) (std.ofN b) = decide (a = b) := by
  rw [s_eq, s_ofN, s_ofN]
  congr 1
  simp; omega
theorem sameInts_ok (a b : List Int) (h : a.length ≤ 10000000) : F_spec_l11SameInts a b = some (eqI a b) := by
  unfold F_spec_l11SameInts eqI
  rw [len_eq, len_eq, eqlen, s_not]
  by_cases hl : a.length = b.length
  · rw [decide_eq_true hl, Bool.not_true, br_f]
    refine Eq.trans (bind_of (scan (ok := fun i => std.eq (gd a i) (gd b i)) (no := .inl ()) (yes := .inr ()) (n := a.length) (fun i hi => ?_) ?_)) ?_
    · simp only [L_spec_l11SameInts_x2, letO_eq, s_toNn]
      rw [ltl_t hi, br_t, req_of (inRl hi), req_of (inRl (by omega)), inc_nat (by omega)]
      cases std.eq (gd a i) (gd b i) <;> rfl
    · simp only [L_spec_l11SameInts_x2, letO_eq]
      rw [ltl_f]; rfl
    · cases (List.range a.length).all fun i => std.eq (gd a i) (gd b i) <;> rfl
  · rw [decide_eq_false hl, Bool.not_false, br_t]; rfl
theorem sEqual_ok (a b : List Int) (h : a.length ≤ 10000000) : F_slices_Equal_Lint64_int64 a b = some (eqI a b) := by
  unfold F_slices_Equal_Lint64_int64 eqI
  rw [len_eq, len_eq, eqlen, s_not]
  by_cases hl : a.length = b.length
  · rw [decide_eq_true hl, Bool.not_true, br_f]
    refine Eq.trans (bind_of (scan (ok := fun i => std.eq (gd a i) (gd b i)) (no := .inl ()) (yes := .inr ()) (n := a.length) (fun i hi => ?_) ?_)) ?_
    · simp only [L_slices_Equal_Lint64_int64_x2, letO_eq, s_toNn]
      rw [ltl_t hi, br_t, req_of (inRl hi), req_of (inRl (by omega)), inc_nat (by omega)]
      cases std.eq (gd a i) (gd b i) <;> rfl
    · simp only [L_slices_Equal_Lint64_int64_x2, letO_eq]
      rw [ltl_f]; rfl
    · cases (List.range a.length).all fun i => std.eq (gd a i) (gd b i) <;> rfl
  · rw [decide_eq_false hl, Bool.not_false, br_t]; rfl
theorem eqFunc_ok (a b : List (List Int)) (h : a.length ≤ 10000000) (ha : ∀ x ∈ a, x.length ≤ 10000000) : F_slices_EqualFunc_LLint64_LLint64_Lint64_Lint64_mbbFimpl_IsValidIndex_1 a b = some (decide (a.length = b.length) && (List.range a.length).all fun i => eqI (gd a i) (gd b i)) := by
  unfold F_slices_EqualFunc_LLint64_LLint64_Lint64_Lint64_mbbFimpl_IsValidIndex_1
  rw [len_eq, len_eq, eqlen, s_not]
  by_cases hl : a.length = b.length
  · rw [decide_eq_true hl, Bool.not_true, br_f]
    refine Eq.trans (bind_of (scan (ok := fun i => eqI (gd a i) (gd b i)) (no := .inl ()) (yes := .inr ()) (n := a.length) (fun i hi => ?_) ?_)) ?_
    · simp only [L_slices_EqualFunc_LLint64_LLint64_Lint64_Lint64_mbbFimpl_IsValidIndex_1_x2, letO_eq, s_toNn, F_impl_IsValidIndex_1]
      rw [ltl_t hi, br_t, req_of (inRl hi), req_of (inRl (by omega)), inc_nat (by omega), sEqual_ok _ _ (ha _ (gd_mem hi))]
      cases eqI (gd a i) (gd b i) <;> rfl
    · simp only [L_slices_EqualFunc_LLint64_LLint64_Lint64_Lint64_mbbFimpl_IsValidIndex_1_x2, letO_eq]
      rw [ltl_f]; rfl
    · cases (List.range a.length).all fun i => eqI (gd a i) (gd b i) <;> rfl
  · rw [decide_eq_false hl, Bool.not_false, br_t]; rfl
/-- nothing is great -/
structure SmallX (a : TSpatialIndex) : Prop where
  entries : a.fEntries.length ≤ 1048576
  buckets : a.fBuckets.length ≤ 1048576
  bucket : ∀ b ∈ a.fBuckets, b.length ≤ 1048576
noncomputable def okE (a : List TSpatialEntry) (i : Nat) : Bool := wX (gd a i).fId 1 9999 && (okBox (gd a i).fBox && !(std.lt 0 (i : Int) && std.le (gd a i).fId (gd a (i - 1)).fId))
noncomputable def okIx (a : TSpatialIndex) : Bool :=
  decide (a.fEntries.length ≤ 40) && ((List.range a.fEntries.length).all (okE a.fEntries) && (decide (a.fBuckets.length = 25) && (List.range 25).all fun k => eqI (gd a.fBuckets k) (idsF a.fEntries k)))
theorem okE_box {a : List TSpatialEntry} (h : (List.range a.length).all (okE a) = true) : ∀ e ∈ a, okBox e.fBox = true := by
  intro e he
  obtain ⟨i, hi, rfl⟩ := List.getElem_of_mem he
  have := List.all_eq_true.1 h i (by simpa using hi)
  unfold okE at this
  simp only [Bool.and_eq_true] at this
  rw [← gd_lt hi]; exact this.2.1
theorem prevTest (a : List TSpatialEntry) (i : Nat) (hi : i < a.length) (h : a.length ≤ 10000000) : ((br (std.lt 0 (i : Int)) (req (std.inR (std.sub .i64 (i : Int) 1) (len a)) <| some (std.le (gd a i).fId (gd a (std.toN (std.sub .i64 (i : Int) 1))).fId)) (some false)) : Option Bool) = some (std.lt 0 (i : Int) && std.le (gd a i).fId (gd a (i - 1)).fId) := by
  cases i with
  | zero => rfl
  | succ i =>
    have e : std.sub .i64 ((i + 1 : Nat) : Int) 1 = (i : Int) := by rw [sub_id (by omega) (by omega)]; omega
    rw [lt_true (by omega), br_t, e, req_of (inRl (by omega)), s_toNn]; rfl
theorem lt40 (n : Nat) : std.lt 40 (std.ofN n) = !decide (n ≤ 40) := by
  rw [s_lt, s_ofN]
  by_cases h : n ≤ 40
  · rw [decide_eq_true h]; simp; omega
  · rw [decide_eq_false h]; simp; omega
theorem impl_IsValidIndex_ok (a : TSpatialIndex) (h : SmallX a) : F_impl_IsValidIndex a = some (okIx a) := by
  have h1 := h.entries
  unfold F_impl_IsValidIndex okIx
  rw [len_eq, lt40]
  by_cases hn : a.fEntries.length ≤ 40
  · rw [decide_eq_true hn, Bool.not_true, br_f, bind_of (scan (ok := okE a.fEntries) (no := .inl ()) (yes := .inr ()) (n := a.fEntries.length) (fun i hi => ?_) ?_)]
    · cases hv : (List.range a.fEntries.length).all (okE a.fEntries) with
      | false => rfl
      | true =>
        simp only [if_true, Bool.true_and]
        rw [impl_indexOf_ok _ h1 (okE_box hv), Option.bind_some, eqFunc_ok _ _ (by have := h.buckets; omega) (fun x hx => by have := h.bucket x hx; omega), Option.bind_some]
        congr 1
        have e : (made a.fEntries).fBuckets.length = 25 := by simp [made]
        rw [e]
        by_cases hb : a.fBuckets.length = 25
        · rw [hb, decide_eq_true rfl, Bool.true_and, Bool.true_and, Bool.eq_iff_iff, List.all_eq_true, List.all_eq_true]
          have e2 : ∀ k ∈ List.range 25, gd (made a.fEntries).fBuckets k = idsF a.fEntries k := fun k hk => range_gd _ 25 k (List.mem_range.1 hk)
          exact ⟨fun hh k hk => by rw [← e2 k hk]; exact hh k hk, fun hh k hk => by rw [e2 k hk]; exact hh k hk⟩
        · rw [decide_eq_false hb]; rfl
    · simp only [L_impl_IsValidIndex_x2, letO_eq]
      rw [ltl_f]; rfl
    · simp only [L_impl_IsValidIndex_x2, letO_eq, s_toNn]
      rw [ltl_t hi, br_t, req_of (inRl hi), impl_within_okX, Option.bind_some, impl_IsValidRect_okX, Option.bind_some, prevTest _ i hi (by omega), inc_nat (by omega)]
      unfold okE
      cases wX (gd a.fEntries i).fId 1 9999 <;> cases okBox (gd a.fEntries i).fBox <;> cases (std.lt 0 (i : Int) && std.le (gd a.fEntries i).fId (gd a.fEntries (i - 1)).fId) <;> rfl
  · rw [decide_eq_false hn, Bool.not_false, br_t]; rfl
theorem spec_IsValidIndex_ok (a : TSpatialIndex) (h : SmallX a) : F_spec_IsValidIndex a = some (okIx a) := by
  have h1 := h.entries
  unfold F_spec_IsValidIndex okIx
  have e25 : std.eq (std.ofN (len a.fBuckets)) 25 = decide (a.fBuckets.length = 25) := eqlen _ 25
  rw [len_eq, lt40, e25, s_not]
  by_cases hn : a.fEntries.length ≤ 40
  · rw [decide_eq_true hn, Bool.not_true, br_f, Option.bind_some]
    simp only [letO_eq, Bool.true_and]
    by_cases hb : a.fBuckets.length = 25
    · rw [decide_eq_true hb, Bool.not_true, br_f, bind_of (scan (ok := okE a.fEntries) (no := .inl false) (yes := .inr ()) (n := a.fEntries.length) (fun i hi => ?_) ?_)]
      · cases hv : (List.range a.fEntries.length).all (okE a.fEntries) with
        | false => rfl
        | true =>
          simp only [if_true, Bool.true_and]
          rw [spec_l11Made_ok _ h1, Option.bind_some, bind_of (scan (ok := fun k => eqI (gd a.fBuckets k) (idsF a.fEntries k)) (no := .inl false) (yes := .inr ()) (n := 25) (fun k hk => ?_) ?_)]
          · cases (List.range 25).all fun k => eqI (gd a.fBuckets k) (idsF a.fEntries k) <;> rfl
          · simp only [L_spec_IsValidIndex_x44, letO_eq]
            rfl
          · simp only [L_spec_IsValidIndex_x44, letO_eq, s_toNn, s_nadd, Nat.zero_add]
            rw [lt_true (by omega), br_t, req_of (inRl (by omega)), req_of (inRl (by simp [made]; omega)), sameInts_ok _ _ (by have := h.bucket _ (gd_mem (show k < a.fBuckets.length by omega)); omega), show gd (made a.fEntries).fBuckets k = idsF a.fEntries k from range_gd _ 25 k hk, inc_nat (by omega)]
            cases eqI (gd a.fBuckets k) (idsF a.fEntries k) <;> rfl
      · simp only [L_spec_IsValidIndex_x10, letO_eq]
        rw [ltl_f]; rfl
      · simp only [L_spec_IsValidIndex_x10, letO_eq, s_toNn]
        rw [ltl_t hi, br_t, req_of (inRl hi), spec_l09In_okX, Option.bind_some, spec_l09Rect_okX, Option.bind_some, prevTest _ i hi (by omega), inc_nat (by omega)]
        unfold okE
        cases wX (gd a.fEntries i).fId 1 9999 <;> cases okBox (gd a.fEntries i).fBox <;> cases (std.lt 0 (i : Int) && std.le (gd a.fEntries i).fId (gd a.fEntries (i - 1)).fId) <;> rfl
    · rw [decide_eq_false hb, Bool.not_false, br_t]
      simp
  · rw [decide_eq_false hn, Bool.not_false, br_t]; rfl
/-- the place of an id -/
theorem at_eq (a : TSpatialIndex) (k : Int) : F_impl_knownEntry a k = F_spec_l11At a k := by
  unfold F_impl_knownEntry F_spec_l11At F_slices_IndexFunc_Limpl_SpatialEntry_impl_SpatialEntry_mbFimpl_knownEntry_1p
  have e : L_slices_IndexFunc_Limpl_SpatialEntry_impl_SpatialEntry_mbFimpl_knownEntry_1p_x2 a.fEntries k = L_spec_l11At_x2 a k := by
    funext x
    simp only [L_slices_IndexFunc_Limpl_SpatialEntry_impl_SpatialEntry_mbFimpl_knownEntry_1p_x2, L_spec_l11At_x2, F_impl_knownEntry_1_mbp, Option.bind_some]
  rw [e]
  cases whileP (L_spec_l11At_x2 a k) 0 with
  | none => rfl
  | some r => cases r <;> rfl
theorem at_ex (a : TSpatialIndex) (k : Int) (h : a.fEntries.length ≤ 10000000) : ∃ r, F_spec_l11At a k = some r ∧ (r = -1 ∨ ∃ i : Nat, i < a.fEntries.length ∧ r = (i : Int)) := by
  obtain ⟨r, h1, h2⟩ := while_ex (step := L_spec_l11At_x2 a k) (x0 := 0) (fun x => ∃ i : Nat, i ≤ a.fEntries.length ∧ x = (i : Int)) (fun r => match r with | .inl y => ∃ i : Nat, i < a.fEntries.length ∧ y = (i : Int) | .inr _ => True) (fun x => a.fEntries.length + 1 - x.toNat) ⟨0, by omega, rfl⟩ (by
    rintro _ ⟨i, hi, rfl⟩
    by_cases hlt : i < a.fEntries.length
    · simp only [L_spec_l11At_x2, letO_eq, s_toNn]
      rw [ltl_t hlt, br_t, req_of (inRl hlt), inc_nat (by omega)]
      cases std.eq (gd a.fEntries i).fId k with
      | true => exact .inr ⟨_, rfl, i, hlt, rfl⟩
      | false => exact .inl ⟨_, rfl, ⟨i + 1, by omega, rfl⟩, by simp only [Int.toNat_natCast]; omega⟩
    · have : i = a.fEntries.length := by omega
      subst this
      simp only [L_spec_l11At_x2, letO_eq]
      rw [ltl_f]
      exact .inr ⟨_, rfl, trivial⟩)
  unfold F_spec_l11At
  rw [h1]
  cases r with
  | inl y => exact ⟨y, rfl, .inr h2⟩
  | inr u => exact ⟨-1, rfl, .inl rfl⟩
noncomputable def remX (a : TSpatialIndex) (k : Int) : TSpatialIndex × Int :=
  if okIx a then (match F_spec_l11At a k with
    | some r => if r < 0 then (⟨[], []⟩, 5) else (made (a.fEntries.take r.toNat ++ a.fEntries.drop (r.toNat + 1)), 0)
    | none => (⟨[], []⟩, 0)) else (⟨[], []⟩, 1)
theorem spec_RemoveEntry_ok (a : TSpatialIndex) (k : Int) (h : SmallX a) : F_spec_RemoveEntry a k = some (remX a k) := by
  unfold F_spec_RemoveEntry remX
  rw [spec_IsValidIndex_ok a h, Option.bind_some]
  cases hv : okIx a with
  | false => rfl
  | true =>
    have hn : a.fEntries.length ≤ 40 := by
      unfold okIx at hv
      simp only [Bool.and_eq_true, decide_eq_true_eq] at hv
      exact hv.1
    obtain ⟨r, hr, h2⟩ := at_ex a k (by omega)
    rw [Bool.not_true, br_f, hr, Option.bind_some]
    rcases h2 with rfl | ⟨i, hi, rfl⟩
    · rfl
    · have e0 : std.lt (i : Int) 0 = false := lt_false (by omega)
      have e1 : ¬ ((i : Int) < 0) := by omega
      simp only [if_true, if_neg e1, Int.toNat_natCast, letO_eq]
      rw [e0, br_f, req_of (show std.upTo (i : Int) (len a.fEntries) from ⟨by omega, by rw [len_eq]; omega⟩), req_of (show std.upTo 0 (std.toN (i : Int)) from ⟨by omega, by omega⟩), inc_nat (by omega)]
      simp only [s_toNn, s_ofN, s_toN, Int.toNat_zero, Int.toNat_natCast, len_eq]
      have e2 : subL a.fEntries 0 i = a.fEntries.take i := by simp [subL]
      have e3 : subL a.fEntries (i + 1) a.fEntries.length = a.fEntries.drop (i + 1) := by
        unfold subL
        rw [List.take_of_length_le (by rw [List.length_drop]; omega)]
      rw [e2, e3, req_of (roomN (by rw [s_nadd, List.length_take]; simp; omega) (by omega)), req_of (show std.upTo _ _ from ⟨by omega, by omega⟩), req_of (show std.upTo _ _ from ⟨by omega, by omega⟩), req_of (roomN (by rw [s_nadd, List.nil_append, List.length_take, List.length_drop]; omega) (by omega)), List.nil_append, spec_l11Made_mo_ok _ (by rw [List.length_append, List.length_take, List.length_drop]; omega)]
      rfl
theorem impl_RemoveEntry_ok (a : TSpatialIndex) (k : Int) (h : SmallX a) : F_impl_RemoveEntry a k = some (remX a k) := by
  unfold F_impl_RemoveEntry remX
  rw [show TSpatialIndex.mk a.fEntries a.fBuckets = a from rfl, impl_IsValidIndex_ok a h, Option.bind_some]
  cases hv : okIx a with
  | false => rfl
  | true =>
    have hv2 := hv
    unfold okIx at hv2
    simp only [Bool.and_eq_true, decide_eq_true_eq] at hv2
    have hn := hv2.1
    have hbx := okE_box hv2.2.1
    obtain ⟨r, hr, h2⟩ := at_ex a k (by omega)
    rw [Bool.not_true, br_f, at_eq, hr, Option.bind_some]
    rcases h2 with rfl | ⟨i, hi, rfl⟩
    · rfl
    · have e0 : std.lt (i : Int) 0 = false := lt_false (by omega)
      have e1 : ¬ ((i : Int) < 0) := by omega
      simp only [if_true, if_neg e1, Int.toNat_natCast]
      have ec : F_slices_Clone_Limpl_SpatialEntry_impl_SpatialEntry a.fEntries = some a.fEntries := by
        unfold F_slices_Clone_Limpl_SpatialEntry_impl_SpatialEntry nilB
        rw [if_neg (by rw [len_eq]; omega)]
        simp only [letO_eq]
        rw [req_of (roomN (by rw [s_nadd, len_eq, len_eq]; simp; omega) (by omega)), List.nil_append]
      rw [e0, br_f, ec, Option.bind_some, inc_nat (by omega)]
      unfold F_slices_Delete_Limpl_SpatialEntry_impl_SpatialEntry_mobb
      rw [if_pos ⟨by omega, by omega, by omega⟩, Option.bind_some, Int.toNat_natCast, Int.toNat_natCast, impl_indexOf_ok _ (by rw [List.length_append, List.length_take, List.length_drop]; omega) (fun e he => by
        rcases List.mem_append.1 he with h | h
        · exact hbx e (List.mem_of_mem_take h)
        · exact hbx e (List.mem_of_mem_drop h))]
      rfl
theorem op_2 (d : Nat) : Opens T (d + 1) 2 (clI .i64) (wfI .i64) := op_int .i64 (show T 2 = some d2 from rfl) rfl
def clRect (e : TRect) : List AC := clI .i64 e.fX0 ++ (clI .i64 e.fY0 ++ (clI .i64 e.fX1 ++ (clI .i64 e.fY1 ++ ([]))))
def wfRect (e : TRect) : Prop := wfI .i64 e.fX0 ∧ wfI .i64 e.fY0 ∧ wfI .i64 e.fX1 ∧ wfI .i64 e.fY1
theorem op_35 (d : Nat) : Opens T (d + 2) 35 (clRect) (wfRect) := by
  intro cs hs
  obtain ⟨a0, b0, rfl, h0, a1, b1, rfl, h1, a2, b2, rfl, h2, a3, b3, rfl, h3, rfl⟩ := hs
  obtain ⟨e0, w0, r0⟩ := op_2 (d + 0) a0 h0
  obtain ⟨e1, w1, r1⟩ := op_2 (d + 0) a1 h1
  obtain ⟨e2, w2, r2⟩ := op_2 (d + 0) a2 h2
  obtain ⟨e3, w3, r3⟩ := op_2 (d + 0) a3 h3
  exact ⟨TRect.mk e0 e1 e2 e3, ⟨w0, w1, w2, w3⟩, rlist_app r0 (rlist_app r1 (rlist_app r2 (rlist_app r3 (trivial))))⟩
def clSpatialEntry (e : TSpatialEntry) : List AC := clI .i64 e.fId ++ (clRect e.fBox ++ ([]))
def wfSpatialEntry (e : TSpatialEntry) : Prop := wfI .i64 e.fId ∧ wfRect e.fBox
theorem op_191 (d : Nat) : Opens T (d + 3) 191 (clSpatialEntry) (wfSpatialEntry) := by
  intro cs hs
  obtain ⟨a0, b0, rfl, h0, a1, b1, rfl, h1, rfl⟩ := hs
  obtain ⟨e0, w0, r0⟩ := op_2 (d + 1) a0 h0
  obtain ⟨e1, w1, r1⟩ := op_35 (d + 0) a1 h1
  exact ⟨TSpatialEntry.mk e0 e1, ⟨w0, w1⟩, rlist_app r0 (rlist_app r1 (trivial))⟩
theorem op_70 (d : Nat) : Opens T (d + 4) 70 (clL 5 (encSpatialEntry)) (wfL wfSpatialEntry) := op_slice (e := 191) (sz := 5) (show T 70 = some d70 from rfl) rfl (show T 191 = some d191 from rfl) rfl (fun x j hj => by match j, hj with | 0, _ => rfl | 1, _ => rfl | 2, _ => rfl | 3, _ => rfl | 4, _ => rfl | (j_ + 5), h_ => exact absurd h_ (by omega)) (op_191 d)
theorem op_23 (d : Nat) : Opens T (d + 2) 23 (clL 1 (encI .i64)) (wfL (wfI .i64)) := op_slice (e := 2) (sz := 1) (show T 23 = some d23 from rfl) rfl (show T 2 = some d2 from rfl) rfl (fun x j hj => by match j, hj with | 0, _ => rfl | (j_ + 1), h_ => exact absurd h_ (by omega)) (op_2 d)
theorem op_71 (d : Nat) : Opens T (d + 3) 71 (clL 1 (encL len gd 1 (encI .i64))) (wfL (wfL (wfI .i64))) := op_slice (e := 23) (sz := 1) (show T 71 = some d71 from rfl) rfl (show T 23 = some d23 from rfl) rfl (fun x j hj => by match j, hj with | 0, _ => rfl | (j_ + 1), h_ => exact absurd h_ (by omega)) (op_23 d)
def clSpatialIndex (e : TSpatialIndex) : List AC := clL 5 (encSpatialEntry) e.fEntries ++ (clL 1 (encL len gd 1 (encI .i64)) e.fBuckets ++ ([]))
def wfSpatialIndex (e : TSpatialIndex) : Prop := wfL wfSpatialEntry e.fEntries ∧ wfL (wfL (wfI .i64)) e.fBuckets
theorem op_73 (d : Nat) : Opens T (d + 5) 73 (clSpatialIndex) (wfSpatialIndex) := by
  intro cs hs
  obtain ⟨a0, b0, rfl, h0, a1, b1, rfl, h1, rfl⟩ := hs
  obtain ⟨e0, w0, r0⟩ := op_70 (d + 0) a0 h0
  obtain ⟨e1, w1, r1⟩ := op_71 (d + 1) a1 h1
  exact ⟨TSpatialIndex.mk e0 e1, ⟨w0, w1⟩, rlist_app r0 (rlist_app r1 (trivial))⟩
theorem open_73 {H : Type} {enc : TypeId × Value → H} {W : World} {spare : Nat → Bool} {held : Bool} {r : Reach} {base : Nat} {v : Value} {x : DataW H} {ps : List MemPlace}
    (hv : Value.okWide Try.prog W r base 73 v) (h : DataW.Trod enc Try.prog W 0 spare held 73 v x ps) : ∃ e : TSpatialIndex, wfSpatialIndex e ∧ RelV (RelI (fun b => b < W.heap.size) W) (.agg [.bs (len e.fEntries) 5 (row gd (encSpatialEntry) e.fEntries), .bs (len e.fBuckets) 1 (row gd (encL len gd 1 (encI .i64)) e.fBuckets)]) v :=
  opened_agg tok (op_73 0) (by kernel_rfl) (tok 73 d73 rfl).1 hv h
end Go.Proofs.Ytnmfighfidaglaa.AM
