/-
  Contracts of the functions that the law reaches. No condition.
-/
import Derived.Test.YtcfmllknnfoghaaAmU
namespace Go.Proofs.Ytcfmllknnfoghaa.AM
open Go Go.RowKit
set_option linter.unusedVariables false
set_option linter.unusedSimpArgs false
set_option maxRecDepth 100000

theorem mixed : Try.prog.follows .mixedOrders = true := by kernel_rfl
def chOk (x : Int) : Prop := (97 ≤ x ∧ x ≤ 122) ∨ (48 ≤ x ∧ x ≤ 57)
def nameOk (s : ByteArray) : Prop := (1 ≤ s.size ∧ s.size ≤ 8) ∧ ∀ i, i < s.size → chOk (std.sat s i)
open Classical in
theorem f42 (s : ByteArray) (hs : s.size < 2 ^ 63) : Fun Try.prog 42 [sv s] (bv (decide (nameOk s))) := by
  refine Fun.of_wp tok mixed Try.func42 (by kernel_rfl) rfl Try.ntmps42 rfl ?_
  generalize hr : bv _ = q
  generalize hA : std = A
  generalize hP : Try.prog = P
  cbv
  refine loop_at (fun k => sparse 41 [(0, sv s), (2, bv false), (3, iv (A.ofN k))] []) (fun k => s.size - k) (fun k => k ≤ s.size ∧ ∀ i, i < k → chOk (std.sat s i)) 0
    (le_sparse (by rfl) (by subst hA; exact ⟨rfl, rfl, rfl, trivial⟩) trivial (by rfl)) ⟨Nat.zero_le _, fun i hi => absurd hi (by omega)⟩ ?_
  intro k hk Kn hKn
  cbv
  repeat' (first
    | (refine And.intro (fun h => ?_) (fun h => ?_) <;> first | (cases h; done) | cbv)
    | (refine And.intro ?_ ?_))
  all_goals subst hr hA
  all_goals first
    | (clear hKn; simp [std] at * <;> omega)
    | (have hk' : k < s.size := by (clear hKn; simp [std] at * <;> omega)
       have hc : chOk (std.sat s k) := by (clear hKn hk; simp [std, chOk] at * <;> omega)
       refine hKn (k + 1) _ ⟨by omega, fun i hi => ?_⟩ (by omega) (le_sparse (by rfl) ⟨rfl, rfl, by simp [iv, std, wrap_succ hk' hs], trivial⟩ trivial (by rfl))
       by_cases hik : i = k
       · subst hik; exact hc
       · exact hk.2 i (by omega))
    | (have hk' : k < s.size := by (clear hKn; simp [std] at * <;> omega)
       have hc : ¬ chOk (std.sat s k) := by (clear hKn hk; simp [std, chOk] at * <;> omega)
       refine bvp_le ?_
       simp only [Bool.false_eq_true, false_iff]
       exact fun hn => hc (hn.2 k hk'))
    | (have hk' : k = s.size := by (clear hKn; simp [std] at * <;> omega)
       subst hk'
       refine bvp_le ?_
       have h2 := hk.2
       clear hKn hk
       simp only [nameOk]
       constructor
       · intro hh; refine ⟨?_, h2⟩; clear h2; simp [std] at * <;> omega
       · intro hh; have hh := hh.1; clear h2; simp [std] at * <;> omega)
open Classical in
theorem f56 (s : ByteArray) (hs : s.size < 2 ^ 63) : Fun Try.prog 56 [sv s] (bv (decide (nameOk s))) := by
  refine Fun.of_wp tok mixed Try.func56 (by kernel_rfl) rfl Try.ntmps56 rfl ?_
  generalize hr : bv _ = q
  generalize hA : std = A
  generalize hP : Try.prog = P
  cbv
  refine loop_at (fun k => sparse 40 [(0, sv s), (2, bv false), (3, iv (A.ofN k))] []) (fun k => s.size - k) (fun k => k ≤ s.size ∧ ∀ i, i < k → chOk (std.sat s i)) 0
    (le_sparse (by rfl) (by subst hA; exact ⟨rfl, rfl, rfl, trivial⟩) trivial (by rfl)) ⟨Nat.zero_le _, fun i hi => absurd hi (by omega)⟩ ?_
  intro k hk Kn hKn
  cbv
  repeat' (first
    | (refine And.intro (fun h => ?_) (fun h => ?_) <;> first | (cases h; done) | cbv)
    | (refine And.intro ?_ ?_))
  all_goals subst hr hA
  all_goals first
    | (clear hKn; simp [std] at * <;> omega)
    | (have hk' : k < s.size := by (clear hKn; simp [std] at * <;> omega)
       have hc : chOk (std.sat s k) := by (clear hKn hk; simp [std, chOk] at * <;> omega)
       refine hKn (k + 1) _ ⟨by omega, fun i hi => ?_⟩ (by omega) (le_sparse (by rfl) ⟨rfl, rfl, by simp [iv, std, wrap_succ hk' hs], trivial⟩ trivial (by rfl))
       by_cases hik : i = k
       · subst hik; exact hc
       · exact hk.2 i (by omega))
    | (have hk' : k < s.size := by (clear hKn; simp [std] at * <;> omega)
       have hc : ¬ chOk (std.sat s k) := by (clear hKn hk; simp [std, chOk] at * <;> omega)
       refine bvp_le ?_
       simp only [Bool.false_eq_true, false_iff]
       exact fun hn => hc (hn.2 k hk'))
    | (have hk' : k = s.size := by (clear hKn; simp [std] at * <;> omega)
       subst hk'
       refine bvp_le ?_
       have h2 := hk.2
       clear hKn hk
       simp only [nameOk]
       constructor
       · intro hh; refine ⟨?_, h2⟩; clear h2; simp [std] at * <;> omega
       · intro hh; have hh := hh.1; clear h2; simp [std] at * <;> omega)
def ic (x : Int) : AC := .v (.int .i64 x)
def sc (s : ByteArray) : AC := .v (.string s)
open Classical in
noncomputable def nameB (s : ByteArray) : Bool := decide (nameOk s)
theorem g42 (s : ByteArray) (hs : s.size < 2 ^ 63) : Fun Try.prog 42 [sv s] (bv (nameB s)) := f42 s hs
theorem g56 (s : ByteArray) (hs : s.size < 2 ^ 63) : Fun Try.prog 56 [sv s] (bv (nameB s)) := f56 s hs
def within (n lo hi : Int) : Bool := decide (lo ≤ n) && decide (n ≤ hi)
def rectOk (a b c d : Int) : Bool := decide (-40 ≤ a) && decide (a < c) && decide (c ≤ 40) && decide (-40 ≤ b) && decide (b < d) && decide (d ≤ 40)
def unitOk (x y : Int) : Bool := within x (-40) 39 && within y (-40) 39
def transOk (t x y : Int) : Bool := within t 0 7 && within x (-80) 80 && within y (-80) 80
def shapeOk (l a b c d : Int) : Bool := within l 0 7 && rectOk a b c d
noncomputable def labelOk (l x y : Int) (s : ByteArray) : Bool := within l 0 7 && unitOk x y && nameB s
def instOk (c t x y co ro sx sy k : Int) : Bool := within c 0 (IntKind.i64.wrap (k - 1)) && transOk t x y && within co 1 4 && within ro 1 4 && within sx (-80) 80 && within sy (-80) 80 && (decide (1 < co) || decide (sx = 0)) && (decide (1 < ro) || decide (sy = 0))
def noShape (l a b c d : Int) : Bool := decide (l = 0) && decide (a = 0) && decide (b = 0) && decide (c = 0) && decide (d = 0)
def noLabel (l x y : Int) (s : ByteArray) : Bool := decide (l = 0) && decide (x = 0) && decide (y = 0) && decide (s.toList = [])
def noInst (c t x y co ro sx sy : Int) : Bool := decide (c = 0) && decide (t = 0) && decide (x = 0) && decide (y = 0) && decide (co = 0) && decide (ro = 0) && decide (sx = 0) && decide (sy = 0)
theorem f41 (n lo hi : Int) : Fun Try.prog 41 [iv n, iv lo, iv hi] (bv (within n lo hi)) := by
  refine Fun.of_wp tok mixed Try.func41 (by kernel_rfl) rfl Try.ntmps41 rfl ?_
  generalize hr : bv _ = q
  generalize hA : std = A
  generalize hP : Try.prog = P
  cbv
  repeat' (first
    | (refine And.intro (fun h => ?_) (fun h => ?_) <;> first | (cases h; done) | cbv))
  all_goals (subst hr hA; refine bv_le ?_; simp [std] at *; simp [within]; try omega)
theorem f52 (n lo hi : Int) : Fun Try.prog 52 [iv n, iv lo, iv hi] (bv (within n lo hi)) := by
  refine Fun.of_wp tok mixed Try.func52 (by kernel_rfl) rfl Try.ntmps52 rfl ?_
  generalize hr : bv _ = q
  generalize hA : std = A
  generalize hP : Try.prog = P
  cbv
  repeat' (first
    | (refine And.intro (fun h => ?_) (fun h => ?_) <;> first | (cases h; done) | cbv))
  all_goals (subst hr hA; refine bv_le ?_; simp [std] at *; simp [within]; try omega)
theorem f106 (n : Int) : Fun Try.prog 106 [iv n] (bv (within n 0 7)) := by
  refine Fun.of_wp tok mixed Try.func106 (by kernel_rfl) rfl Try.ntmps106 rfl ?_
  generalize hr : bv _ = q
  generalize hA : std = A
  generalize hP : Try.prog = P
  have h41 := f41; rw [hP] at h41
  generalize hs0 : within = s0 at h41
  cbv
  repeat' (first
    | (refine And.intro (fun h => ?_) (fun h => ?_) <;> first | (cases h; done) | cbv)
    | (refine ⟨_, _, les_refl _, h41 _ _ _, ?_⟩; cbv))
  all_goals (subst hr hA hs0; exact fun I w v h => h)
theorem f93 (a b c d : Int) : Fun Try.prog 93 [.agg [ic a, ic b, ic c, ic d]] (bv (rectOk a b c d)) := by
  refine Fun.of_wp tok mixed Try.func93 (by kernel_rfl) rfl Try.ntmps93 rfl ?_
  generalize hr : bv _ = q
  generalize hA : std = A
  generalize hP : Try.prog = P
  cbv
  repeat' (first
    | (refine And.intro (fun h => ?_) (fun h => ?_) <;> first | (cases h; done) | cbv))
  all_goals (subst hr hA; refine bv_le ?_; simp [std] at *; clear hP; first | (simp [rectOk, *]; done) | grind [rectOk])
theorem f94 (a b c d : Int) : Fun Try.prog 94 [.agg [ic a, ic b, ic c, ic d]] (bv (rectOk a b c d)) := by
  refine Fun.of_wp tok mixed Try.func94 (by kernel_rfl) rfl Try.ntmps94 rfl ?_
  generalize hr : bv _ = q
  generalize hA : std = A
  generalize hP : Try.prog = P
  cbv
  repeat' (first
    | (refine And.intro (fun h => ?_) (fun h => ?_) <;> first | (cases h; done) | cbv))
  all_goals (subst hr hA; refine bv_le ?_; simp [std] at *; clear hP; first | (simp [rectOk, *]; done) | grind [rectOk])
theorem f107 (x y : Int) : Fun Try.prog 107 [.agg [ic x, ic y]] (bv (unitOk x y)) := by
  refine Fun.of_wp tok mixed Try.func107 (by kernel_rfl) rfl Try.ntmps107 rfl ?_
  generalize hr : bv _ = q
  generalize hA : std = A
  generalize hP : Try.prog = P
  have h41 := f41; rw [hP] at h41
  generalize hs0 : within = s0 at h41
  cbv
  repeat' (first
    | (refine And.intro (fun h => ?_) (fun h => ?_) <;> first | (cases h; done) | cbv)
    | (refine ⟨_, _, les_refl _, h41 _ _ _, ?_⟩; cbv))
  all_goals (subst hr hA hs0; refine bv_le ?_; simp [std] at *; clear h41; first | (simp [unitOk, *]; done) | grind [unitOk])
theorem f111 (x y : Int) : Fun Try.prog 111 [.agg [ic x, ic y]] (bv (unitOk x y)) := by
  refine Fun.of_wp tok mixed Try.func111 (by kernel_rfl) rfl Try.ntmps111 rfl ?_
  generalize hr : bv _ = q
  generalize hA : std = A
  generalize hP : Try.prog = P
  have h52 := f52; rw [hP] at h52
  generalize hs0 : within = s0 at h52
  cbv
  repeat' (first
    | (refine And.intro (fun h => ?_) (fun h => ?_) <;> first | (cases h; done) | cbv)
    | (refine ⟨_, _, les_refl _, h52 _ _ _, ?_⟩; cbv))
  all_goals (subst hr hA hs0; refine bv_le ?_; simp [std] at *; clear h52; first | (simp [unitOk, *]; done) | grind [unitOk])
theorem f108 (t x y : Int) : Fun Try.prog 108 [.agg [ic t, ic x, ic y]] (bv (transOk t x y)) := by
  refine Fun.of_wp tok mixed Try.func108 (by kernel_rfl) rfl Try.ntmps108 rfl ?_
  generalize hr : bv _ = q
  generalize hA : std = A
  generalize hP : Try.prog = P
  have h41 := f41; rw [hP] at h41
  generalize hs0 : within = s0 at h41
  cbv
  repeat' (first
    | (refine And.intro (fun h => ?_) (fun h => ?_) <;> first | (cases h; done) | cbv)
    | (refine ⟨_, _, les_refl _, h41 _ _ _, ?_⟩; cbv))
  all_goals (subst hr hA hs0; refine bv_le ?_; simp [std] at *; clear h41; first | (simp [transOk, *]; done) | grind [transOk])
theorem f112 (t x y : Int) : Fun Try.prog 112 [.agg [ic t, ic x, ic y]] (bv (transOk t x y)) := by
  refine Fun.of_wp tok mixed Try.func112 (by kernel_rfl) rfl Try.ntmps112 rfl ?_
  generalize hr : bv _ = q
  generalize hA : std = A
  generalize hP : Try.prog = P
  have h52 := f52; rw [hP] at h52
  generalize hs0 : within = s0 at h52
  cbv
  repeat' (first
    | (refine And.intro (fun h => ?_) (fun h => ?_) <;> first | (cases h; done) | cbv)
    | (refine ⟨_, _, les_refl _, h52 _ _ _, ?_⟩; cbv))
  all_goals (subst hr hA hs0; refine bv_le ?_; simp [std] at *; clear h52; first | (simp [transOk, *]; done) | grind [transOk])
theorem f43 (l a b c d : Int) : Fun Try.prog 43 [.agg [ic l, ic a, ic b, ic c, ic d]] (bv (shapeOk l a b c d)) := by
  refine Fun.of_wp tok mixed Try.func43 (by kernel_rfl) rfl Try.ntmps43 rfl ?_
  generalize hr : bv _ = q
  generalize hA : std = A
  generalize hP : Try.prog = P
  have h106 := f106; rw [hP] at h106
  have h93 := f93; rw [hP] at h93
  generalize hs0 : within = s0 at h106 h93
  generalize hs1 : rectOk = s1 at h106 h93
  cbv
  repeat' (first
    | (refine And.intro (fun h => ?_) (fun h => ?_) <;> first | (cases h; done) | cbv)
    | (refine ⟨_, _, les_refl _, h106 _, ?_⟩; cbv)
    | (refine ⟨_, _, les_refl _, h93 _ _ _ _, ?_⟩; cbv))
  all_goals (subst hr hA hs0 hs1; refine bv_le ?_; simp [std] at *; clear h106 h93; first | (simp [shapeOk, *]; done) | grind [shapeOk])
theorem f53 (l a b c d : Int) : Fun Try.prog 53 [.agg [ic l, ic a, ic b, ic c, ic d]] (bv (shapeOk l a b c d)) := by
  refine Fun.of_wp tok mixed Try.func53 (by kernel_rfl) rfl Try.ntmps53 rfl ?_
  generalize hr : bv _ = q
  generalize hA : std = A
  generalize hP : Try.prog = P
  have h52 := f52; rw [hP] at h52
  have h94 := f94; rw [hP] at h94
  generalize hs0 : within = s0 at h52 h94
  generalize hs1 : rectOk = s1 at h52 h94
  cbv
  repeat' (first
    | (refine And.intro (fun h => ?_) (fun h => ?_) <;> first | (cases h; done) | cbv)
    | (refine ⟨_, _, les_refl _, h52 _ _ _, ?_⟩; cbv)
    | (refine ⟨_, _, les_refl _, h94 _ _ _ _, ?_⟩; cbv))
  all_goals (subst hr hA hs0 hs1; refine bv_le ?_; simp [std] at *; clear h52 h94; first | (simp [shapeOk, *]; done) | grind [shapeOk])
theorem f44 (l a b c d : Int) : Fun Try.prog 44 [.agg [ic l, ic a, ic b, ic c, ic d]] (bv (noShape l a b c d)) := by
  refine Fun.of_wp tok mixed Try.func44 (by kernel_rfl) rfl Try.ntmps44 rfl ?_
  generalize hr : bv _ = q
  generalize hA : std = A
  generalize hP : Try.prog = P
  cbv
  repeat' (first
    | (refine And.intro (fun h => ?_) (fun h => ?_) <;> first | (cases h; done) | cbv))
  all_goals (subst hr hA; refine bv_le ?_; simp [std] at *; clear hP; first | (simp [noShape, *]; done) | grind [noShape])
theorem f47 (c t x y co ro sx sy k : Int) : Fun Try.prog 47 [.agg [ic c, ic t, ic x, ic y, ic co, ic ro, ic sx, ic sy], iv k] (bv (instOk c t x y co ro sx sy k)) := by
  refine Fun.of_wp tok mixed Try.func47 (by kernel_rfl) rfl Try.ntmps47 rfl ?_
  generalize hr : bv _ = q
  generalize hA : std = A
  generalize hP : Try.prog = P
  have h41 := f41; rw [hP] at h41
  have h108 := f108; rw [hP] at h108
  generalize hs0 : within = s0 at h41 h108
  generalize hs1 : transOk = s1 at h41 h108
  cbv
  repeat' (first
    | (refine And.intro (fun h => ?_) (fun h => ?_) <;> first | (cases h; done) | cbv)
    | (refine ⟨_, _, les_refl _, h41 _ _ _, ?_⟩; cbv)
    | (refine ⟨_, _, les_refl _, h108 _ _ _, ?_⟩; cbv))
  all_goals (subst hr hA hs0 hs1; refine bv_le ?_; simp [std] at *; clear h41 h108; first | (simp [instOk, *]; done) | grind [instOk])
theorem f55 (c t x y co ro sx sy k : Int) : Fun Try.prog 55 [.agg [ic c, ic t, ic x, ic y, ic co, ic ro, ic sx, ic sy], iv k] (bv (instOk c t x y co ro sx sy k)) := by
  refine Fun.of_wp tok mixed Try.func55 (by kernel_rfl) rfl Try.ntmps55 rfl ?_
  generalize hr : bv _ = q
  generalize hA : std = A
  generalize hP : Try.prog = P
  have h52 := f52; rw [hP] at h52
  have h112 := f112; rw [hP] at h112
  generalize hs0 : within = s0 at h52 h112
  generalize hs1 : transOk = s1 at h52 h112
  cbv
  repeat' (first
    | (refine And.intro (fun h => ?_) (fun h => ?_) <;> first | (cases h; done) | cbv)
    | (refine ⟨_, _, les_refl _, h52 _ _ _, ?_⟩; cbv)
    | (refine ⟨_, _, les_refl _, h112 _ _ _, ?_⟩; cbv))
  all_goals (subst hr hA hs0 hs1; refine bv_le ?_; simp [std] at *; clear h52 h112; first | (simp [instOk, *]; done) | grind [instOk])
theorem f48 (c t x y co ro sx sy : Int) : Fun Try.prog 48 [.agg [ic c, ic t, ic x, ic y, ic co, ic ro, ic sx, ic sy]] (bv (noInst c t x y co ro sx sy)) := by
  refine Fun.of_wp tok mixed Try.func48 (by kernel_rfl) rfl Try.ntmps48 rfl ?_
  generalize hr : bv _ = q
  generalize hA : std = A
  generalize hP : Try.prog = P
  cbv
  repeat' (first
    | (refine And.intro (fun h => ?_) (fun h => ?_) <;> first | (cases h; done) | cbv))
  all_goals (subst hr hA; refine bv_le ?_; simp [std] at *; clear hP; first | (simp [noInst, *]; done) | grind [noInst])
theorem f45 (l x y : Int) (s : ByteArray) (hs : s.size < 2 ^ 63) : Fun Try.prog 45 [.agg [ic l, ic x, ic y, sc s]] (bv (labelOk l x y s)) := by
  refine Fun.of_wp tok mixed Try.func45 (by kernel_rfl) rfl Try.ntmps45 rfl ?_
  generalize hr : bv _ = q
  generalize hA : std = A
  generalize hP : Try.prog = P
  have h106 := f106; rw [hP] at h106
  have h107 := f107; rw [hP] at h107
  generalize hs0 : within = s0 at h106 h107
  generalize hs1 : unitOk = s1 at h106 h107
  have hg42 := g42 s hs; rw [hP] at hg42
  generalize hsN : nameB s = N at hg42
  cbv
  repeat' (first
    | (refine And.intro (fun h => ?_) (fun h => ?_) <;> first | (cases h; done) | cbv)
    | (refine ⟨_, _, les_refl _, h106 _, ?_⟩; cbv)
    | (refine ⟨_, _, les_refl _, h107 _ _, ?_⟩; cbv)
    | (refine ⟨_, _, les_refl _, hg42, ?_⟩; cbv))
  all_goals (subst hr hA hsN hs0 hs1; refine bv_le ?_; simp [std] at *; clear h106 h107 hg42; first | (simp [labelOk, *]; done) | grind [labelOk])
theorem f54 (l x y : Int) (s : ByteArray) (hs : s.size < 2 ^ 63) : Fun Try.prog 54 [.agg [ic l, ic x, ic y, sc s]] (bv (labelOk l x y s)) := by
  refine Fun.of_wp tok mixed Try.func54 (by kernel_rfl) rfl Try.ntmps54 rfl ?_
  generalize hr : bv _ = q
  generalize hA : std = A
  generalize hP : Try.prog = P
  have h52 := f52; rw [hP] at h52
  have h111 := f111; rw [hP] at h111
  generalize hs0 : within = s0 at h52 h111
  generalize hs1 : unitOk = s1 at h52 h111
  have hg56 := g56 s hs; rw [hP] at hg56
  generalize hsN : nameB s = N at hg56
  cbv
  repeat' (first
    | (refine And.intro (fun h => ?_) (fun h => ?_) <;> first | (cases h; done) | cbv)
    | (refine ⟨_, _, les_refl _, h52 _ _ _, ?_⟩; cbv)
    | (refine ⟨_, _, les_refl _, h111 _ _, ?_⟩; cbv)
    | (refine ⟨_, _, les_refl _, hg56, ?_⟩; cbv))
  all_goals (subst hr hA hsN hs0 hs1; refine bv_le ?_; simp [std] at *; clear h52 h111 hg56; first | (simp [labelOk, *]; done) | grind [labelOk])
theorem f46 (l x y : Int) (s : ByteArray) : Fun Try.prog 46 [.agg [ic l, ic x, ic y, sc s]] (bv (noLabel l x y s)) := by
  refine Fun.of_wp tok mixed Try.func46 (by kernel_rfl) rfl Try.ntmps46 rfl ?_
  generalize hr : bv _ = q
  generalize hA : std = A
  generalize hP : Try.prog = P
  cbv
  repeat' (first
    | (refine And.intro (fun h => ?_) (fun h => ?_) <;> first | (cases h; done) | cbv))
  all_goals (subst hr hA; refine bv_le ?_; simp [std] at *; clear hP; first | (simp [noLabel, *]; done) | grind [noLabel])
theorem f32 (a b c d : Int) : Fun Try.prog 32 [.agg [ic a, ic b, ic c, ic d]] (.agg [ic a, ic b, ic c, ic d]) := by
  refine Fun.of_wp tok mixed Try.func32 (by kernel_rfl) rfl Try.ntmps32 rfl ?_
  generalize hA : std = A
  generalize hP : Try.prog = P
  cbv
  repeat' (first
    | (refine And.intro (fun h => ?_) (fun h => ?_) <;> first | (cases h; done) | cbv))
  all_goals (subst hA; exact fun I w v h => h)
theorem f109 (x y : Int) : Fun Try.prog 109 [.agg [ic x, ic y]] (.agg [ic x, ic y]) := by
  refine Fun.of_wp tok mixed Try.func109 (by kernel_rfl) rfl Try.ntmps109 rfl ?_
  generalize hA : std = A
  generalize hP : Try.prog = P
  cbv
  repeat' (first
    | (refine And.intro (fun h => ?_) (fun h => ?_) <;> first | (cases h; done) | cbv))
  all_goals (subst hA; exact fun I w v h => h)
theorem f110 (t x y : Int) : Fun Try.prog 110 [.agg [ic t, ic x, ic y]] (.agg [ic t, ic x, ic y]) := by
  refine Fun.of_wp tok mixed Try.func110 (by kernel_rfl) rfl Try.ntmps110 rfl ?_
  generalize hA : std = A
  generalize hP : Try.prog = P
  cbv
  repeat' (first
    | (refine And.intro (fun h => ?_) (fun h => ?_) <;> first | (cases h; done) | cbv))
  all_goals (subst hA; exact fun I w v h => h)
theorem f49 (l a b c d : Int) : Fun Try.prog 49 [.agg [ic l, ic a, ic b, ic c, ic d]] (.agg [ic l, ic a, ic b, ic c, ic d]) := by
  refine Fun.of_wp tok mixed Try.func49 (by kernel_rfl) rfl Try.ntmps49 rfl ?_
  generalize hA : std = A
  generalize hP : Try.prog = P
  have h32 := f32; rw [hP] at h32
  cbv
  repeat' (first
    | (refine And.intro (fun h => ?_) (fun h => ?_) <;> first | (cases h; done) | cbv)
    | (refine ⟨_, _, les_refl _, h32 _ _ _ _, ?_⟩; cbv))
  all_goals (subst hA; exact fun I w v h => h)
theorem f50 (l x y : Int) (s : ByteArray) : Fun Try.prog 50 [.agg [ic l, ic x, ic y, sc s]] (.agg [ic l, ic x, ic y, sc s]) := by
  refine Fun.of_wp tok mixed Try.func50 (by kernel_rfl) rfl Try.ntmps50 rfl ?_
  generalize hA : std = A
  generalize hP : Try.prog = P
  have h109 := f109; rw [hP] at h109
  cbv
  repeat' (first
    | (refine And.intro (fun h => ?_) (fun h => ?_) <;> first | (cases h; done) | cbv)
    | (refine ⟨_, _, les_refl _, h109 _ _, ?_⟩; cbv))
  all_goals (subst hA; exact fun I w v h => h)
theorem f51 (c t x y co ro sx sy : Int) : Fun Try.prog 51 [.agg [ic c, ic t, ic x, ic y, ic co, ic ro, ic sx, ic sy]] (.agg [ic c, ic t, ic x, ic y, ic co, ic ro, ic sx, ic sy]) := by
  refine Fun.of_wp tok mixed Try.func51 (by kernel_rfl) rfl Try.ntmps51 rfl ?_
  generalize hA : std = A
  generalize hP : Try.prog = P
  have h110 := f110; rw [hP] at h110
  cbv
  repeat' (first
    | (refine And.intro (fun h => ?_) (fun h => ?_) <;> first | (cases h; done) | cbv)
    | (refine ⟨_, _, les_refl _, h110 _ _ _, ?_⟩; cbv))
  all_goals (subst hA; exact fun I w v h => h)
structure Edt where
  k : Int
  c : Int
  i : Int
  nm : ByteArray
  sl : Int
  sa : Int
  sb : Int
  sp : Int
  sq : Int
  ll : Int
  lx : Int
  ly : Int
  ln : ByteArray
  jc : Int
  jt : Int
  jx : Int
  jy : Int
  jco : Int
  jro : Int
  jsx : Int
  jsy : Int
def edL (e : Edt) : List AC := [ic e.k, ic e.c, ic e.i, sc e.nm, ic e.sl, ic e.sa, ic e.sb, ic e.sp, ic e.sq, ic e.ll, ic e.lx, ic e.ly, sc e.ln, ic e.jc, ic e.jt, ic e.jx, ic e.jy, ic e.jco, ic e.jro, ic e.jsx, ic e.jsy]
def named (k : Int) : Bool := decide (k = 7) || decide (k = 8)
noncomputable def nmOk (e : Edt) : Bool := if named e.k = true then nameB e.nm else decide (e.nm.toList = [])
def shOk (e : Edt) : Bool := if e.k = 1 then shapeOk e.sl e.sa e.sb e.sp e.sq else noShape e.sl e.sa e.sb e.sp e.sq
noncomputable def lbOk (e : Edt) : Bool := if e.k = 3 then labelOk e.ll e.lx e.ly e.ln else noLabel e.ll e.lx e.ly e.ln
def inOk (e : Edt) : Bool := if e.k = 5 then instOk e.jc e.jt e.jx e.jy e.jco e.jro e.jsx e.jsy 8 else noInst e.jc e.jt e.jx e.jy e.jco e.jro e.jsx e.jsy
def hdOk (e : Edt) : Bool := within e.k 1 9 && within e.c 0 8 && within e.i 0 24
def ixOk (e : Edt) : Bool := decide (e.k < 7) || decide (e.i = 0)
noncomputable def editOk (e : Edt) : Bool := hdOk e && ixOk e && nmOk e && shOk e && lbOk e && inOk e
/-- spec.IsValidEdit -/
theorem f12 (e : Edt) (h1 : e.nm.size < 2 ^ 63) (h2 : e.ln.size < 2 ^ 63) : Fun Try.prog 12 [.agg (edL e)] (bv (editOk e)) := by
  refine Fun.of_Wp tok Try.func12 (by kernel_rfl) rfl Try.ntmps12 rfl ?_
  obtain ⟨q, hq⟩ : ∃ q, q = editOk e := ⟨_, rfl⟩
  rw [← hq]
  refine Wp.seq (fun _ : Unit => sparse 101 [(1, .c (.ptr 8 0)), (2, bv false)] [(8, .var (edL e))]) (fun _ => True) (Wp.of tok mixed ?_) (fun _ _ => ?_)
  · generalize hA : std = A
    generalize hP : Try.prog = P
    cbv
    exact ⟨(), trivial, le_sparse (by rfl) ⟨rfl, rfl, trivial⟩ ⟨rfl, trivial⟩ (by rfl)⟩
  refine Wp.seq (fun _ : Unit => sparse 101 [(1, .c (.ptr 8 0)), (2, bv false)] [(8, .var (edL e))]) (fun _ => hdOk e = true) (Wp.of tok mixed ?_) (fun _ fa => ?_)
  · obtain ⟨F, hF⟩ : ∃ F, F = (hdOk e = true) := ⟨_, rfl⟩
    rw [← hF]
    generalize hA : std = A
    generalize hP : Try.prog = P
    have c41 := f41; rw [hP] at c41
    generalize hs0 : within = s0 at *
    cbv
    repeat' (first
      | (refine And.intro (fun h => ?_) (fun h => ?_) <;> first | (cases h; done) | cbv)
      | (refine ⟨_, _, les_refl _, c41 _ _ _, ?_⟩; cbv))
    all_goals (clear c41; subst hA hs0)
    all_goals first
      | (refine bv_le ?_; subst hq hF; simp [std] at * <;> first | (simp [editOk, hdOk, *]; done) | grind [editOk, hdOk])
      | (refine ⟨(), ?_, le_sparse (by rfl) ⟨rfl, rfl, trivial⟩ ⟨rfl, trivial⟩ (by rfl)⟩; subst hF; simp [std] at * <;> first | (simp [hdOk, *]; done) | grind [hdOk])
  refine Wp.seq (fun _ : Unit => sparse 101 [(1, .c (.ptr 8 0)), (2, bv false)] [(8, .var (edL e))]) (fun _ => ixOk e = true) (Wp.of tok mixed ?_) (fun _ fb => ?_)
  · obtain ⟨F, hF⟩ : ∃ F, F = (ixOk e = true) := ⟨_, rfl⟩
    rw [← hF]
    generalize hA : std = A
    generalize hP : Try.prog = P
    cbv
    repeat' (first
      | (refine And.intro (fun h => ?_) (fun h => ?_) <;> first | (cases h; done) | cbv))
    all_goals (clear hP; subst hA)
    all_goals first
      | (refine bv_le ?_; subst hq hF; simp [std] at * <;> first | (simp [editOk, ixOk, *]; done) | grind [editOk, ixOk])
      | (refine ⟨(), ?_, le_sparse (by rfl) ⟨rfl, rfl, trivial⟩ ⟨rfl, trivial⟩ (by rfl)⟩; subst hF; simp [std] at * <;> first | (simp [ixOk, *]; done) | grind [ixOk])
  refine Wp.seq (fun _ : Unit => sparse 101 [(1, .c (.ptr 8 0)), (2, bv false), (3, bv (named e.k))] [(8, .var (edL e))]) (fun _ => True) (Wp.of tok mixed ?_) (fun _ fc => ?_)
  · obtain ⟨F, hF⟩ : ∃ F, F = (True) := ⟨_, rfl⟩
    rw [← hF]
    generalize hA : std = A
    generalize hP : Try.prog = P
    cbv
    repeat' (first
      | (refine And.intro (fun h => ?_) (fun h => ?_) <;> first | (cases h; done) | cbv))
    all_goals (clear hP; subst hA)
    all_goals first
      | (refine bv_le ?_; subst hq hF; simp [std] at * <;> first | (simp [editOk, named, *]; done) | grind [editOk, named])
      | (refine ⟨(), ?_, le_sparse (by rfl) ⟨rfl, rfl, by (simp [std] at * <;> first | (simp [named, bv, *]; done) | grind [named, bv]), trivial⟩ ⟨rfl, trivial⟩ (by rfl)⟩; subst hF; simp [std] at * <;> first | (simp [named, *]; done) | grind [named])
  refine Wp.seq (fun _ : Unit => sparse 101 [(1, .c (.ptr 8 0)), (2, bv false)] [(8, .var (edL e))]) (fun _ => nmOk e = true) (Wp.of tok mixed ?_) (fun _ fd => ?_)
  · obtain ⟨F, hF⟩ : ∃ F, F = (nmOk e = true) := ⟨_, rfl⟩
    rw [← hF]
    generalize hA : std = A
    generalize hP : Try.prog = P
    have c42 := g42 e.nm h1; rw [hP] at c42
    generalize hs0 : nameB = s0 at *
    generalize hs1 : named e.k = s1 at *
    cbv
    repeat' (first
      | (refine And.intro (fun h => ?_) (fun h => ?_) <;> first | (cases h; done) | cbv)
      | (refine ⟨_, _, les_refl _, c42, ?_⟩; cbv))
    all_goals (clear c42; subst hA hs0 hs1)
    all_goals first
      | (refine bv_le ?_; subst hq hF; simp [std] at * <;> first | (simp [editOk, nmOk, *]; done) | grind [editOk, nmOk])
      | (refine ⟨(), ?_, le_sparse (by rfl) ⟨rfl, rfl, trivial⟩ ⟨rfl, trivial⟩ (by rfl)⟩; subst hF; simp [std] at * <;> first | (simp [nmOk, *]; done) | grind [nmOk])
  refine Wp.seq (fun _ : Unit => sparse 101 [(1, .c (.ptr 8 0)), (2, bv false)] [(8, .var (edL e))]) (fun _ => shOk e = true) (Wp.of tok mixed ?_) (fun _ fe => ?_)
  · obtain ⟨F, hF⟩ : ∃ F, F = (shOk e = true) := ⟨_, rfl⟩
    rw [← hF]
    generalize hA : std = A
    generalize hP : Try.prog = P
    have c43 := f43; rw [hP] at c43
    have c44 := f44; rw [hP] at c44
    generalize hs0 : shapeOk = s0 at *
    generalize hs1 : noShape = s1 at *
    cbv
    repeat' (first
      | (refine And.intro (fun h => ?_) (fun h => ?_) <;> first | (cases h; done) | cbv)
      | (refine ⟨_, _, les_refl _, c43 _ _ _ _ _, ?_⟩; cbv)
      | (refine ⟨_, _, les_refl _, c44 _ _ _ _ _, ?_⟩; cbv))
    all_goals (clear c43 c44; subst hA hs0 hs1)
    all_goals first
      | (refine bv_le ?_; subst hq hF; simp [std] at * <;> first | (simp [editOk, shOk, *]; done) | grind [editOk, shOk])
      | (refine ⟨(), ?_, le_sparse (by rfl) ⟨rfl, rfl, trivial⟩ ⟨rfl, trivial⟩ (by rfl)⟩; subst hF; simp [std] at * <;> first | (simp [shOk, *]; done) | grind [shOk])
  refine Wp.seq (fun _ : Unit => sparse 101 [(1, .c (.ptr 8 0)), (2, bv false)] [(8, .var (edL e))]) (fun _ => lbOk e = true) (Wp.of tok mixed ?_) (fun _ ff => ?_)
  · obtain ⟨F, hF⟩ : ∃ F, F = (lbOk e = true) := ⟨_, rfl⟩
    rw [← hF]
    generalize hA : std = A
    generalize hP : Try.prog = P
    have c45 := f45 e.ll e.lx e.ly e.ln h2; rw [hP] at c45
    have c46 := f46; rw [hP] at c46
    generalize hs0 : labelOk = s0 at *
    generalize hs1 : noLabel = s1 at *
    cbv
    repeat' (first
      | (refine And.intro (fun h => ?_) (fun h => ?_) <;> first | (cases h; done) | cbv)
      | (refine ⟨_, _, les_refl _, c45, ?_⟩; cbv)
      | (refine ⟨_, _, les_refl _, c46 _ _ _ _, ?_⟩; cbv))
    all_goals (clear c45 c46; subst hA hs0 hs1)
    all_goals first
      | (refine bv_le ?_; subst hq hF; simp [std] at * <;> first | (simp [editOk, lbOk, *]; done) | grind [editOk, lbOk])
      | (refine ⟨(), ?_, le_sparse (by rfl) ⟨rfl, rfl, trivial⟩ ⟨rfl, trivial⟩ (by rfl)⟩; subst hF; simp [std] at * <;> first | (simp [lbOk, *]; done) | grind [lbOk])
  refine Wp.of tok mixed ?_
  generalize hA : std = A
  generalize hP : Try.prog = P
  have c47 := f47; rw [hP] at c47
  have c48 := f48; rw [hP] at c48
  generalize hs0 : instOk = s0 at *
  generalize hs1 : noInst = s1 at *
  cbv
  repeat' (first
    | (refine And.intro (fun h => ?_) (fun h => ?_) <;> first | (cases h; done) | cbv)
    | (refine ⟨_, _, les_refl _, c47 _ _ _ _ _ _ _ _ _, ?_⟩; cbv)
    | (refine ⟨_, _, les_refl _, c48 _ _ _ _ _ _ _ _, ?_⟩; cbv))
  all_goals (clear c47 c48; subst hA hs0 hs1)
  all_goals first
    | (refine bv_le ?_; subst hq; simp [std] at * <;> first | (simp [editOk, inOk, *]; done) | grind [editOk, inOk])
end Go.Proofs.Ytcfmllknnfoghaa.AM
