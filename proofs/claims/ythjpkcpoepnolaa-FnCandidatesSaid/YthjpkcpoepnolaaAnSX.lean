/-
  What the functions that the law reaches compute, and that they do. No condition.
-/
import Derived.Test.YthjpkcpoepnolaaAnSW
import Derived.Test.YthjpkcpoepnolaaAnP
namespace Go.Proofs.Ythjpkcpoepnolaa.AM
open Go Go.Proofs Go.RowKit
set_option linter.unusedVariables false
set_option linter.unusedSimpArgs false
set_option maxRecDepth 100000

/- the spatial index: the buckets that a rectangle lies in -/
noncomputable def wX (a b c : Int) : Bool := std.le b a && std.le a c
theorem impl_within_okX (a b c : Int) : F_impl_within a b c = some (wX a b c) := by
  unfold F_impl_within wX
  cases std.le b a <;> rfl
noncomputable def okBox (a : TRect) : Bool := std.le (-40) a.fX0 && (std.lt a.fX0 a.fX1 && (std.le a.fX1 40 && (std.le (-40) a.fY0 && (std.lt a.fY0 a.fY1 && std.le a.fY1 40))))
theorem impl_IsValidRect_okX (a : TRect) : F_impl_IsValidRect a = some (okBox a) := by
  unfold F_impl_IsValidRect okBox
  cases std.le (-40) a.fX0 <;> cases std.lt a.fX0 a.fX1 <;> cases std.le a.fX1 40 <;> cases std.le (-40) a.fY0 <;> cases std.lt a.fY0 a.fY1 <;> rfl
theorem okBox_iff {a : TRect} : okBox a = true ↔ (-40 ≤ a.fX0 ∧ a.fX0 < a.fX1 ∧ a.fX1 ≤ 40 ∧ -40 ≤ a.fY0 ∧ a.fY0 < a.fY1 ∧ a.fY1 ≤ 40) := by
  unfold okBox
  simp only [s_le, s_lt, Bool.and_eq_true, decide_eq_true_eq]
noncomputable def ovl (a b : TRect) : Bool := std.lt a.fX0 b.fX1 && (std.lt b.fX0 a.fX1 && (std.lt a.fY0 b.fY1 && std.lt b.fY0 a.fY1))
theorem ovl_iff {a b : TRect} : ovl a b = true ↔ (a.fX0 < b.fX1 ∧ b.fX0 < a.fX1 ∧ a.fY0 < b.fY1 ∧ b.fY0 < a.fY1) := by
  unfold ovl
  simp only [s_lt, Bool.and_eq_true, decide_eq_true_eq]
theorem spec_l11Overlap_ok (a b : TRect) : F_spec_l11Overlap a b = some (ovl a b) := by
  unfold F_spec_l11Overlap ovl
  cases std.lt a.fX0 b.fX1 <;> cases std.lt b.fX0 a.fX1 <;> cases std.lt a.fY0 b.fY1 <;> rfl
def bk (k : Nat) : TRect := ⟨-40 + 16 * ((k % 5 : Nat) : Int), -40 + 16 * ((k / 5 : Nat) : Int), -24 + 16 * ((k % 5 : Nat) : Int), -24 + 16 * ((k / 5 : Nat) : Int)⟩
theorem rem_nat (k : Nat) : std.rem (k : Int) 5 = ((k % 5 : Nat) : Int) := rfl
theorem quo_nat (k m : Nat) (h : k < 1000000) : std.quo .i64 (k : Int) ((m : Nat) : Int) = ((k / m : Nat) : Int) := by
  show IntKind.i64.wrap ((k : Int).tdiv (m : Int)) = _
  have e : (k : Int).tdiv (m : Int) = ((k / m : Nat) : Int) := rfl
  have h1 : k / m ≤ k := Nat.div_le_self _ _
  rw [e]
  generalize k / m = q at h1 ⊢
  rw [wrap_id (by omega) (by omega)]
theorem spec_l11Bucket_ok (k : Nat) (h : k < 25) : F_spec_l11Bucket (k : Int) = some (bk k) := by
  unfold F_spec_l11Bucket bk
  rw [req_of (by rw [s_nz]; decide), req_of (by rw [s_nz]; decide), rem_nat, show (5 : Int) = ((5 : Nat) : Int) from rfl, quo_nat k 5 (by omega)]
  have h1 : k % 5 < 5 := Nat.mod_lt _ (by omega)
  have h2 : k / 5 < 5 := by omega
  rw [mul_id (by omega) (by omega), mul_id (by omega) (by omega), add_id (x := -40) (by omega) (by omega), add_id (x := -40) (by omega) (by omega), add_id (y := 16) (by omega) (by omega), add_id (y := 16) (by omega) (by omega)]
  congr 2 <;> omega
/-- the ids of the entries that lie in the bucket k -/
noncomputable def idsF (a : List TSpatialEntry) (k : Nat) : List Int := (a.filter fun e => ovl e.fBox (bk k)).map fun e => e.fId
theorem idsF_len (a : List TSpatialEntry) (k : Nat) : (idsF a k).length ≤ a.length := by
  unfold idsF
  rw [List.length_map]
  exact List.length_filter_le _ _
theorem idsF_succ (a : List TSpatialEntry) (k i : Nat) (h : i < a.length) : idsF (a.take (i + 1)) k = idsF (a.take i) k ++ if ovl (gd a i).fBox (bk k) then [(gd a i).fId] else [] := by
  unfold idsF
  rw [List.take_succ_eq_append_getElem h, List.filter_append, List.map_append, gd_lt h]
  congr 1
  cases hb : ovl a[i].fBox (bk k) <;> simp [hb]
noncomputable def made (a : List TSpatialEntry) : TSpatialIndex := ⟨a, (List.range 25).map (idsF a)⟩
theorem roomN {n b : Nat} (hn : n ≤ 10000000) (hb : b ≤ 1000) : std.room n b := by
  rw [s_room]
  exact Nat.le_trans (Nat.mul_le_mul hn hb) (by omega)
theorem spec_l11Made_mo_ok (a : List TSpatialEntry) (h : a.length ≤ 1048576) : F_spec_l11Made_mo a = some (made a) := by
  unfold F_spec_l11Made_mo
  have hw : whileP (L_spec_l11Made_mo_x3 a) ((0 : Int), ([] : List (List Int))) = some ((List.range 25).map (idsF a)) := by
    refine while_from (fun k => ((k : Int), (List.range k).map (idsF a))) 25 rfl (fun k hk => ?_) ?_
    · have hi : whileP (L_spec_l11Made_mo_x19 a (k : Int)) ((0 : Int), ([] : List Int)) = some (idsF a k) := by
        refine while_from (fun i => ((i : Int), idsF (a.take i) k)) a.length rfl (fun i hi => ?_) ?_
        · have hl := idsF_len (a.take i) k
          rw [List.length_take] at hl
          simp only [L_spec_l11Made_mo_x19, letO_eq]
          rw [ltl_t hi, br_t, req_of (inRl hi), spec_l11Bucket_ok k hk, Option.bind_some, s_toNn, s_nadd, Nat.zero_add, spec_l11Overlap_ok, Option.bind_some, inc_nat (by omega), idsF_succ a k i hi]
          cases ovl (gd a i).fBox (bk k) with
          | true => rw [br_t, req_of (inRl hi), req_of (roomN (by rw [s_nadd, len_eq, len_eq]; simp only [List.length_singleton]; omega) (by omega))]; rfl
          | false => rw [br_f]; simp
        · simp only [L_spec_l11Made_mo_x19, letO_eq]
          rw [ltl_f, br_f, List.take_length]
      simp only [L_spec_l11Made_mo_x3, letO_eq]
      rw [lt_true (by omega), br_t, hi, Option.bind_some, req_of (roomN (by rw [s_nadd, len_eq, len_eq]; simp; omega) (by omega)), inc_nat (by omega), List.range_succ, List.map_append]
      rfl
    · simp only [L_spec_l11Made_mo_x3, letO_eq]
      rfl
  rw [hw]
  rfl
def rowL (xa n y : Nat) : List Int := (List.range' xa n).map fun x => ((5 * y + x : Nat) : Int)
def bkL (xa nx ya ny : Nat) : List Int := (List.range' ya ny).flatMap (rowL xa nx)
theorem rowL_len (xa n y : Nat) : (rowL xa n y).length = n := by simp [rowL]
theorem rowL_succ (xa n y : Nat) : rowL xa (n + 1) y = rowL xa n y ++ [((5 * y + (xa + n) : Nat) : Int)] := by
  unfold rowL
  rw [List.range'_1_concat, List.map_append]; rfl
theorem bkL_succ (xa nx ya n : Nat) : bkL xa nx ya (n + 1) = bkL xa nx ya n ++ rowL xa nx (ya + n) := by
  unfold bkL
  rw [List.range'_1_concat, List.flatMap_append]; simp
theorem bkL_len (xa nx ya : Nat) : ∀ n, (bkL xa nx ya n).length = n * nx
  | 0 => by simp [bkL]
  | n + 1 => by rw [bkL_succ, List.length_append, bkL_len xa nx ya n, rowL_len, Nat.add_mul, Nat.one_mul]
/-- the columns (or rows) of a side -/
def ca (x : Int) : Nat := ((x + 40).toNat) / 16
def cb (x : Int) : Nat := ((x + 39).toNat) / 16
theorem quo_ca {x : Int} (h : -40 ≤ x) (h' : x ≤ 40) : std.quo .i64 (std.add .i64 x 40) 16 = ((ca x : Nat) : Int) := by
  rw [add_id (by omega) (by omega)]
  obtain ⟨p, hp⟩ : ∃ p : Nat, x + 40 = (p : Int) := ⟨(x + 40).toNat, by omega⟩
  unfold ca
  rw [hp, Int.toNat_natCast]
  exact quo_nat p 16 (by omega)
theorem quo_cb {x : Int} (h : -40 < x) (h' : x ≤ 40) : std.quo .i64 (std.add .i64 (std.sub .i64 x 1) 40) 16 = ((cb x : Nat) : Int) := by
  rw [sub_id (by omega) (by omega), add_id (by omega) (by omega)]
  obtain ⟨p, hp⟩ : ∃ p : Nat, x + 39 = (p : Int) := ⟨(x + 39).toNat, by omega⟩
  unfold cb
  rw [show x - 1 + 40 = x + 39 by omega, hp, Int.toNat_natCast]
  exact quo_nat p 16 (by omega)
def bkOf (r : TRect) : List Int := bkL (ca r.fX0) (cb r.fX1 + 1 - ca r.fX0) (ca r.fY0) (cb r.fY1 + 1 - ca r.fY0)
theorem side_lt {x y : Int} (h1 : -40 ≤ x) (h2 : x < y) (h3 : y ≤ 40) : ca x ≤ cb y ∧ cb y < 5 := by
  unfold ca cb; omega
theorem impl_buckets_ok (r : TRect) (h : okBox r = true) : F_impl_buckets r = some (bkOf r) := by
  obtain ⟨h1, h2, h3, h4, h5, h6⟩ := okBox_iff.1 h
  obtain ⟨sx1, sx2⟩ := side_lt h1 h2 h3
  obtain ⟨sy1, sy2⟩ := side_lt h4 h5 h6
  unfold F_impl_buckets
  have nz : std.nz 16 := by rw [s_nz]; decide
  have hout : whileP (L_impl_buckets_x6 r) (((ca r.fY0 : Nat) : Int), ([] : List Int)) = some (bkOf r) := by
    refine while_from (fun j => (((ca r.fY0 + j : Nat) : Int), bkL (ca r.fX0) (cb r.fX1 + 1 - ca r.fX0) (ca r.fY0) j)) (cb r.fY1 + 1 - ca r.fY0) rfl (fun j hj => ?_) ?_
    · have hlen := bkL_len (ca r.fX0) (cb r.fX1 + 1 - ca r.fX0) (ca r.fY0) j
      have hb : j * (cb r.fX1 + 1 - ca r.fX0) ≤ 5 * 5 := Nat.mul_le_mul (by omega) (by omega)
      have hin : whileP (L_impl_buckets_x22 r ((ca r.fY0 + j : Nat) : Int)) (((ca r.fX0 : Nat) : Int), bkL (ca r.fX0) (cb r.fX1 + 1 - ca r.fX0) (ca r.fY0) j) = some (bkL (ca r.fX0) (cb r.fX1 + 1 - ca r.fX0) (ca r.fY0) (j + 1)) := by
        refine while_from (fun i => (((ca r.fX0 + i : Nat) : Int), bkL (ca r.fX0) (cb r.fX1 + 1 - ca r.fX0) (ca r.fY0) j ++ rowL (ca r.fX0) i (ca r.fY0 + j))) (cb r.fX1 + 1 - ca r.fX0) ?_ (fun i hi => ?_) ?_
        · simp [rowL]
        · simp only [L_impl_buckets_x22, letO_eq]
          rw [req_of nz, quo_cb (by omega) h3, le_true (by omega), br_t, req_of (roomN (by rw [s_nadd, len_eq, len_eq, List.length_append, hlen, rowL_len]; simp only [List.length_singleton]; omega) (by omega)), inc_nat (by omega), rowL_succ, List.append_assoc]
          rw [mul_id (by omega) (by omega), add_id (by omega) (by omega)]
          have e5 : (5 : Int) * ((ca r.fY0 + j : Nat) : Int) + ((ca r.fX0 + i : Nat) : Int) = ((5 * (ca r.fY0 + j) + (ca r.fX0 + i) : Nat) : Int) := by omega
          rw [e5]
          rfl
        · simp only [L_impl_buckets_x22, letO_eq]
          rw [req_of nz, quo_cb (by omega) h3, le_false (by omega), br_f, bkL_succ]
      simp only [L_impl_buckets_x6, letO_eq]
      rw [req_of nz, quo_cb (by omega) h6, le_true (by omega), br_t, req_of nz, quo_ca h1 (by omega), hin, Option.bind_some, inc_nat (by omega)]
      rfl
    · simp only [L_impl_buckets_x6, letO_eq]
      rw [req_of nz, quo_cb (by omega) h6, le_false (by omega), br_f]
      rfl
  simp only [letO_eq]
  rw [req_of nz, quo_ca h4 (by omega), hout]
  rfl
theorem bkOf_mem (r : TRect) (h : okBox r = true) (k : Nat) (hk : k < 25) : ((k : Int) ∈ bkOf r) ↔ ovl r (bk k) = true := by
  obtain ⟨h1, h2, h3, h4, h5, h6⟩ := okBox_iff.1 h
  obtain ⟨sx1, sx2⟩ := side_lt h1 h2 h3
  obtain ⟨sy1, sy2⟩ := side_lt h4 h5 h6
  rw [ovl_iff]
  have e : ((k : Int) ∈ bkOf r) ↔ (ca r.fX0 ≤ k % 5 ∧ k % 5 ≤ cb r.fX1 ∧ ca r.fY0 ≤ k / 5 ∧ k / 5 ≤ cb r.fY1) := by
    unfold bkOf bkL rowL
    simp only [List.mem_flatMap, List.mem_map, List.mem_range'_1]
    constructor
    · rintro ⟨y, hy, x, hx, he⟩
      omega
    · rintro ⟨a1, a2, a3, a4⟩
      exact ⟨k / 5, by omega, k % 5, by omega, by omega⟩
  rw [e]
  unfold ca cb
  simp only [bk]
  omega
theorem bkOf_lt (r : TRect) (h : okBox r = true) : ∀ b ∈ bkOf r, ∃ k : Nat, k < 25 ∧ b = (k : Int) := by
  obtain ⟨h1, h2, h3, h4, h5, h6⟩ := okBox_iff.1 h
  obtain ⟨sx1, sx2⟩ := side_lt h1 h2 h3
  obtain ⟨sy1, sy2⟩ := side_lt h4 h5 h6
  intro b hb
  unfold bkOf bkL rowL at hb
  simp only [List.mem_flatMap, List.mem_map, List.mem_range'_1] at hb
  obtain ⟨y, hy, x, hx, rfl⟩ := hb
  exact ⟨5 * y + x, by omega, rfl⟩
theorem bkOf_nodup (r : TRect) (h : okBox r = true) : (bkOf r).Nodup := by
  obtain ⟨h1, h2, h3, h4, h5, h6⟩ := okBox_iff.1 h
  obtain ⟨sx1, sx2⟩ := side_lt h1 h2 h3
  unfold bkOf
  generalize ca r.fX0 = xa at *
  generalize cb r.fX1 = xb at *
  generalize ca r.fY0 = ya at *
  generalize cb r.fY1 + 1 - ya = n
  induction n with
  | zero => simp [bkL]
  | succ n ih =>
    rw [bkL_succ, List.nodup_append]
    refine ⟨ih, ?_, ?_⟩
    · unfold rowL
      refine List.Pairwise.map _ (fun a b hab he => hab ?_) List.nodup_range'
      have he' : ((5 * (ya + n) + a : Nat) : Int) = ((5 * (ya + n) + b : Nat) : Int) := he
      omega
    · intro p hp q hq
      unfold bkL rowL at hp
      unfold rowL at hq
      simp only [List.mem_flatMap, List.mem_map, List.mem_range'_1] at hp hq
      obtain ⟨y, hy, x, hx, rfl⟩ := hp
      obtain ⟨x', hx', rfl⟩ := hq
      omega
theorem bkOf_len (r : TRect) (h : okBox r = true) : (bkOf r).length ≤ 25 := by
  obtain ⟨h1, h2, h3, h4, h5, h6⟩ := okBox_iff.1 h
  obtain ⟨sx1, sx2⟩ := side_lt h1 h2 h3
  obtain ⟨sy1, sy2⟩ := side_lt h4 h5 h6
  unfold bkOf
  rw [bkL_len]
  exact Nat.le_trans (Nat.mul_le_mul (show _ ≤ 5 by omega) (show _ ≤ 5 by omega)) (by omega)
/-- the lists after t of the buckets of an entry -/
noncomputable def bump (old : Nat → List Int) (bs : List Int) (x : Int) (k : Nat) : List Int := old k ++ if (k : Int) ∈ bs then [x] else []
theorem bump_set (old : Nat → List Int) (bs : List Int) (x : Int) (k : Nat) (hk : k < 25) (hn : (k : Int) ∉ bs) :
    ((List.range 25).map (bump old bs x)).set k (old k ++ [x]) = (List.range 25).map (bump old (bs ++ [(k : Int)]) x) := by
  apply List.ext_getElem
  · simp
  · intro i h1 h2
    simp only [List.length_set, List.length_map, List.length_range] at h1
    rw [List.getElem_set, List.getElem_map, List.getElem_range]
    split
    · rename_i h; subst h; simp [bump]
    · rename_i h
      rw [List.getElem_map, List.getElem_range]
      have : ¬ ((i : Int) = (k : Int)) := by omega
      simp [bump, this]
theorem impl_indexOf_ok (a : List TSpatialEntry) (h : a.length ≤ 1048576) (hb : ∀ e ∈ a, okBox e.fBox = true) : F_impl_indexOf a = some (made a) := by
  unfold F_impl_indexOf F_impl_EmptyIndex
  simp only [letO_eq]
  rw [req_of (by rw [s_nneg]; omega), req_of (show std.room (std.toN 25) 24 from roomN (by rw [s_toN]; decide) (by omega)), Option.bind_some, Option.bind_some]
  obtain ⟨E, hE⟩ : ∃ E : TSpatialIndex, E = TSpatialIndex.mk ([] : List TSpatialEntry) (List.replicate (std.toN 25) ([] : List Int)) := ⟨_, rfl⟩
  have hEl : len E.fBuckets = 25 := by rw [hE]; simp [len_eq, s_toN]
  have hE0 : E.fBuckets = (List.range 25).map (idsF (a.take 0)) := by rw [hE]; rfl
  rw [← hE]
  have hw : whileP (L_impl_indexOf_x6 a E) ((0 : Int), ([] : List TSpatialEntry), E.fBuckets) = some (a, (List.range 25).map (idsF a)) := by
    refine while_from (fun i => ((i : Int), a.take i, (List.range 25).map (idsF (a.take i)))) a.length (by rw [hE0]; rfl) (fun i hi => ?_) ?_
    · have hbx := hb _ (gd_mem hi)
      have hin : whileP (L_impl_indexOf_x28 a E (i : Int) (bkOf (gd a i).fBox)) ((0 : Int), (List.range 25).map (idsF (a.take i))) = some ((List.range 25).map (idsF (a.take (i + 1)))) := by
        have hlen := bkOf_len _ hbx
        refine while_from (fun t => ((t : Int), (List.range 25).map (bump (idsF (a.take i)) ((bkOf (gd a i).fBox).take t) (gd a i).fId))) (bkOf (gd a i).fBox).length ?_ (fun t ht => ?_) ?_
        · simp [bump]
        · obtain ⟨k, hk, hkb⟩ := bkOf_lt _ hbx _ (gd_mem ht)
          have hnot : (k : Int) ∉ (bkOf (gd a i).fBox).take t := by
            have hnd := bkOf_nodup _ hbx
            rw [← hkb, gd_lt ht]
            intro hm
            obtain ⟨q, hq, he⟩ := List.mem_iff_getElem.1 hm
            rw [List.getElem_take] at he
            rw [List.length_take] at hq
            have := (List.getElem_inj hnd).1 he
            omega
          have hl := idsF_len (a.take i) k
          rw [List.length_take] at hl
          have hg : gd ((List.range 25).map (bump (idsF (a.take i)) ((bkOf (gd a i).fBox).take t) (gd a i).fId)) k = idsF (a.take i) k := by
            rw [range_gd _ 25 k hk]
            simp [bump, hnot]
          simp only [L_impl_indexOf_x28, letO_eq]
          rw [ltl_t ht, br_t, req_of (inRl ht)]
          simp only [s_nadd, Nat.zero_add, s_toNn, hkb, hg, hEl]
          rw [req_of (show std.inR (k : Int) 25 from inRn hk), req_of (roomN (by rw [len_eq, len_eq]; simp only [List.length_singleton]; omega) (by omega)), req_of (show std.inR (k : Int) 25 from inRn hk), req_of (by simp [len_eq]), Option.bind_some, inc_nat (by omega), bump_set _ _ _ k hk hnot, List.take_succ_eq_append_getElem ht, ← gd_lt ht, hkb]
        · simp only [L_impl_indexOf_x28, letO_eq]
          rw [ltl_f, br_f, List.take_length]
          congr 2
          apply List.map_congr_left
          intro k hk
          rw [idsF_succ a k i hi]
          unfold bump
          congr 1
          have := bkOf_mem (gd a i).fBox hbx k (List.mem_range.1 hk)
          by_cases h1 : ovl (gd a i).fBox (bk k) = true
          · rw [if_pos (this.2 h1), if_pos h1]
          · rw [if_neg (fun h2 => h1 (this.1 h2)), if_neg h1]
      simp only [L_impl_indexOf_x6, letO_eq]
      rw [ltl_t hi, br_t, req_of (inRl hi), s_toNn, req_of (roomN (by rw [s_nadd, len_eq, len_eq, List.length_take]; simp only [List.length_singleton]; omega) (by omega)), impl_buckets_ok _ hbx, Option.bind_some, hin, Option.bind_some, inc_nat (by omega), List.take_succ_eq_append_getElem hi, gd_lt hi]
    · simp only [L_impl_indexOf_x6, letO_eq]
      rw [ltl_f, br_f, List.take_length]
  rw [hw]
  simp only [Option.bind_some]
  rw [req_of (by rw [hEl]; simp [len_eq])]
  rfl
noncomputable def eqI (a b : List Int) : Bool := decide (a.length = b.length) && (List.range a.length).all fun i => std.eq (gd a i) (gd b i)
theorem eqlen (a b : Nat) : std.eq (std.ofN a) (std.ofN b) = decide (a = b) := by
  rw [s_eq, s_ofN, s_ofN]
  congr 1
  simp; omega
theorem sEqual_ok (a b : List Int) (h : a.length ≤ 10000000) : F_slices_Equal_Lint64_int64 a b = some (eqI a b) := by
  unfold F_slices_Equal_Lint64_int64 eqI
  rw [len_eq, len_eq, eqlen, s_not]
  by_cases hl : a.length = b.length
  · rw [decide_eq_true hl, Bool.not_true, br_f]
    refine Eq.trans (bind_of (scan (ok := fun i => std.eq (gd a i) (gd b i)) (no := .inl ()) (yes := .inr ()) (n := a.length) (fun i hi => ?_) ?_)) ?_
    · simp only [L_slices_Equal_Lint64_int64_x2, letO_eq, s_toNn]
      rw [ltl_t hi, br_t, req_of (inRl hi), req_of (inRl (by omega)), inc_nat (by omega)]
      cases std.eq (gd a i) (gd b i) <;> rfl
    · simp only [L_slices_Equal_Lint64_int64_x2, letO_eq]
      rw [ltl_f]; rfl
    · cases (List.range a.length).all fun i => std.eq (gd a i) (gd b i) <;> rfl
  · rw [decide_eq_false hl, Bool.not_false, br_t]; rfl
theorem eqFunc_ok (a b : List (List Int)) (h : a.length ≤ 10000000) (ha : ∀ x ∈ a, x.length ≤ 10000000) : F_slices_EqualFunc_LLint64_LLint64_Lint64_Lint64_mbbFimpl_IsValidIndex_1 a b = some (decide (a.length = b.length) && (List.range a.length).all fun i => eqI (gd a i) (gd b i)) := by
  unfold F_slices_EqualFunc_LLint64_LLint64_Lint64_Lint64_mbbFimpl_IsValidIndex_1
  rw [len_eq, len_eq, eqlen, s_not]
  by_cases hl : a.length = b.length
  · rw [decide_eq_true hl, Bool.not_true, br_f]
    refine Eq.trans (bind_of (scan (ok := fun i => eqI (gd a i) (gd b i)) (no := .inl ()) (yes := .inr ()) (n := a.length) (fun i hi => ?_) ?_)) ?_
    · simp only [L_slices_EqualFunc_LLint64_LLint64_Lint64_Lint64_mbbFimpl_IsValidIndex_1_x2, letO_eq, s_toNn, F_impl_IsValidIndex_1]
      rw [ltl_t hi, br_t, req_of (inRl hi), req_of (inRl (by omega)), inc_nat (by omega), sEqual_ok _ _ (ha _ (gd_mem hi))]
      cases eqI (gd a i) (gd b i) <;> rfl
    · simp only [L_slices_EqualFunc_LLint64_LLint64_Lint64_Lint64_mbbFimpl_IsValidIndex_1_x2, letO_eq]
      rw [ltl_f]; rfl
    · cases (List.range a.length).all fun i => eqI (gd a i) (gd b i) <;> rfl
  · rw [decide_eq_false hl, Bool.not_false, br_t]; rfl
/-- nothing is great -/
structure SmallX (a : TSpatialIndex) : Prop where
  entries : a.fEntries.length ≤ 1048576
  buckets : a.fBuckets.length ≤ 1048576
  bucket : ∀ b ∈ a.fBuckets, b.length ≤ 1048576
noncomputable def okE (a : List TSpatialEntry) (i : Nat) : Bool := wX (gd a i).fId 1 9999 && (okBox (gd a i).fBox && !(std.lt 0 (i : Int) && std.le (gd a i).fId (gd a (i - 1)).fId))
noncomputable def okIx (a : TSpatialIndex) : Bool :=
  decide (a.fEntries.length ≤ 40) && ((List.range a.fEntries.length).all (okE a.fEntries) && (decide (a.fBuckets.length = 25) && (List.range 25).all fun k => eqI (gd a.fBuckets k) (idsF a.fEntries k)))
theorem okE_box {a : List TSpatialEntry} (h : (List.range a.length).all (okE a) = true) : ∀ e ∈ a, okBox e.fBox = true := by
  intro e he
  obtain ⟨i, hi, rfl⟩ := List.getElem_of_mem he
  have := List.all_eq_true.1 h i (by simpa using hi)
  unfold okE at this
  simp only [Bool.and_eq_true] at this
  rw [← gd_lt hi]; exact this.2.1
theorem prevTest (a : List TSpatialEntry) (i : Nat) (hi : i < a.length) (h : a.length ≤ 10000000) : ((br (std.lt 0 (i : Int)) (req (std.inR (std.sub .i64 (i : Int) 1) (len a)) <| some (std.le (gd a i).fId (gd a (std.toN (std.sub .i64 (i : Int) 1))).fId)) (some false)) : Option Bool) = some (std.lt 0 (i : Int) && std.le (gd a i).fId (gd a (i - 1)).fId) := by
  cases i with
  | zero => rfl
  | succ i =>
    have e : std.sub .i64 ((i + 1 : Nat) : Int) 1 = (i : Int) := by rw [sub_id (by omega) (by omega)]; omega
    rw [lt_true (by omega), br_t, e, req_of (inRl (by omega)), s_toNn]; rfl
theorem lt40 (n : Nat) : std.lt 40 (std.ofN n) = !decide (n ≤ 40) := by
  rw [s_lt, s_ofN]
  by_cases h : n ≤ 40
  · rw [decide_eq_true h]; simp; omega
  · rw [decide_eq_false h]; simp; omega
theorem impl_IsValidIndex_ok (a : TSpatialIndex) (h : SmallX a) : F_impl_IsValidIndex a = some (okIx a) := by
  have h1 := h.entries
  unfold F_impl_IsValidIndex okIx
  rw [len_eq, lt40]
  by_cases hn : a.fEntries.length ≤ 40
  · rw [decide_eq_true hn, Bool.not_true, br_f, bind_of (scan (ok := okE a.fEntries) (no := .inl ()) (yes := .inr ()) (n := a.fEntries.length) (fun i hi => ?_) ?_)]
    · cases hv : (List.range a.fEntries.length).all (okE a.fEntries) with
      | false => rfl
      | true =>
        simp only [if_true, Bool.true_and]
        rw [impl_indexOf_ok _ h1 (okE_box hv), Option.bind_some, eqFunc_ok _ _ (by have := h.buckets; omega) (fun x hx => by have := h.bucket x hx; omega), Option.bind_some]
        congr 1
        have e : (made a.fEntries).fBuckets.length = 25 := by simp [made]
        rw [e]
        by_cases hb : a.fBuckets.length = 25
        · rw [hb, decide_eq_true rfl, Bool.true_and, Bool.true_and, Bool.eq_iff_iff, List.all_eq_true, List.all_eq_true]
          have e2 : ∀ k ∈ List.range 25, gd (made a.fEntries).fBuckets k = idsF a.fEntries k := fun k hk => range_gd _ 25 k (List.mem_range.1 hk)
          exact ⟨fun hh k hk => by rw [← e2 k hk]; exact hh k hk, fun hh k hk => by rw [e2 k hk]; exact hh k hk⟩
        · rw [decide_eq_false hb]; rfl
    · simp only [L_impl_IsValidIndex_x2, letO_eq]
      rw [ltl_f]; rfl
    · simp only [L_impl_IsValidIndex_x2, letO_eq, s_toNn]
      rw [ltl_t hi, br_t, req_of (inRl hi), impl_within_okX, Option.bind_some, impl_IsValidRect_okX, Option.bind_some, prevTest _ i hi (by omega), inc_nat (by omega)]
      unfold okE
      cases wX (gd a.fEntries i).fId 1 9999 <;> cases okBox (gd a.fEntries i).fBox <;> cases (std.lt 0 (i : Int) && std.le (gd a.fEntries i).fId (gd a.fEntries (i - 1)).fId) <;> rfl
  · rw [decide_eq_false hn, Bool.not_false, br_t]; rfl
end Go.Proofs.Ythjpkcpoepnolaa.AM
