/-
  Contracts of the functions that the law reaches. No condition.
-/
import Derived.Test.YtidiiodcpfdnfaaAmT
import Derived.Test.YtidiiodcpfdnfaaAmD
import Derived.WideShapes
namespace Go.Proofs.Ytidiiodcpfdnfaa.AM
open Go Go.RowKit
set_option linter.unusedVariables false
set_option linter.unusedSimpArgs false
set_option maxRecDepth 100000

def bv (b : Bool) : AV := .c (.v (.bool b))
def iv (x : Int) : AV := .c (.v (.int .i64 x))
structure Rule where
  kind : Int
  layer : Int
  other : Int
  value : Int
  percent : Int
  deriving DecidableEq
attribute [ext] Rule
def ruleC (r : Rule) (j : Nat) : AC := match j with
  | 0 => .v (.int .i64 r.kind)
  | 1 => .v (.int .i64 r.layer)
  | 2 => .v (.int .i64 r.other)
  | 3 => .v (.int .i64 r.value)
  | 4 => .v (.int .i64 r.percent)
  | _ => .junk
def rule (r : Rule) : AV := .agg [ruleC r 0, ruleC r 1, ruleC r 2, ruleC r 3, ruleC r 4]
def within (n lo hi : Int) : Bool := decide (lo ≤ n) && decide (n ≤ hi)
def paired (k : Int) : Bool := decide (k = 2) || decide (k = 3)
def valueOk (r : Rule) : Bool := if r.kind = 4 then within r.value 1 6400 else if r.kind = 5 then within r.value 4 40 else within r.value 1 8
def otherOk (r : Rule) : Bool := if paired r.kind then within r.other 0 7 && !decide (r.other = r.layer) else decide (r.other = 0)
def percentOk (r : Rule) : Bool := if r.kind = 5 then within r.percent 1 100 else decide (r.percent = 0)
def validRule (r : Rule) : Bool := within r.kind 0 5 && within r.layer 0 7 && valueOk r && otherOk r && percentOk r
theorem bv_le {b c : Bool} (h : b = true ↔ c = true) : (AV.c (.v (.bool b))).le (bv c) := AV.le_of_eq (by rw [Bool.eq_iff_iff.2 h]; rfl)
theorem mixed : Try.prog.follows .mixedOrders = true := by kernel_rfl
theorem f41 (n lo hi : Int) : Fun Try.prog 41 [iv n, iv lo, iv hi] (bv (within n lo hi)) := by
  refine Fun.of_wp tok mixed Try.func41 (by kernel_rfl) rfl Try.ntmps41 rfl ?_
  generalize hr : bv _ = q
  generalize hA : std = A
  generalize hP : Try.prog = P
  cbv
  repeat' (first
    | (refine And.intro (fun h => ?_) (fun h => ?_) <;> first | (cases h; done) | cbv))
  all_goals (subst hr hA; refine bv_le ?_; simp [std] at *; simp [within]; try omega)
theorem f39 (n lo hi : Int) : Fun Try.prog 39 [iv n, iv lo, iv hi] (bv (within n lo hi)) := by
  refine Fun.of_wp tok mixed Try.func39 (by kernel_rfl) rfl Try.ntmps39 rfl ?_
  generalize hr : bv _ = q
  generalize hA : std = A
  generalize hP : Try.prog = P
  cbv
  repeat' (first
    | (refine And.intro (fun h => ?_) (fun h => ?_) <;> first | (cases h; done) | cbv))
  all_goals (subst hr hA; refine bv_le ?_; simp [std] at *; simp [within]; try omega)
theorem f43 (n : Int) : Fun Try.prog 43 [iv n] (bv (paired n)) := by
  refine Fun.of_wp tok mixed Try.func43 (by kernel_rfl) rfl Try.ntmps43 rfl ?_
  generalize hr : bv _ = q
  generalize hA : std = A
  generalize hP : Try.prog = P
  cbv
  repeat' (first
    | (refine And.intro (fun h => ?_) (fun h => ?_) <;> first | (cases h; done) | cbv))
  all_goals (subst hr hA; refine bv_le ?_; simp [std] at *; simp [paired]; try omega)
theorem f44 (n : Int) : Fun Try.prog 44 [iv n] (bv (paired n)) := by
  refine Fun.of_wp tok mixed Try.func44 (by kernel_rfl) rfl Try.ntmps44 rfl ?_
  generalize hr : bv _ = q
  generalize hA : std = A
  generalize hP : Try.prog = P
  cbv
  repeat' (first
    | (refine And.intro (fun h => ?_) (fun h => ?_) <;> first | (cases h; done) | cbv))
  all_goals (subst hr hA; refine bv_le ?_; simp [std] at *; simp [paired]; try omega)
theorem f42 (r : Rule) : Fun Try.prog 42 [rule r] (bv (valueOk r)) := by
  refine Fun.of_wp tok mixed Try.func42 (by kernel_rfl) rfl Try.ntmps42 rfl ?_
  generalize hr : bv _ = q
  generalize hA : std = A
  generalize hP : Try.prog = P
  have h41 := f41; rw [hP] at h41
  generalize hs0 : within = s0 at h41
  cbv
  repeat' (first
    | (refine And.intro (fun h => ?_) (fun h => ?_) <;> first | (cases h; done) | cbv)
    | (refine ⟨_, _, les_refl _, h41 _ _ _, ?_⟩; cbv))
  all_goals (subst hr hA hs0; refine bv_le ?_; simp [std] at *; clear h41; first | grind [valueOk] | (simp_all [valueOk]; done) | (simp_all; done))
theorem f15 (r : Rule) : Fun Try.prog 15 [rule r] (bv (validRule r)) := by
  refine Fun.of_wp tok mixed Try.func15 (by kernel_rfl) rfl Try.ntmps15 rfl ?_
  generalize hr : bv _ = q
  generalize hA : std = A
  generalize hP : Try.prog = P
  have h41 := f41; rw [hP] at h41
  have h42 := f42; rw [hP] at h42
  have h43 := f43; rw [hP] at h43
  generalize hs0 : within = s0 at h41 h42 h43
  generalize hs1 : valueOk = s1 at h41 h42 h43
  generalize hs2 : paired = s2 at h41 h42 h43
  cbv
  repeat' (first
    | (refine And.intro (fun h => ?_) (fun h => ?_) <;> first | (cases h; done) | cbv)
    | (refine ⟨_, _, les_refl _, h41 _ _ _, ?_⟩; cbv)
    | (refine ⟨_, _, les_refl _, h42 _, ?_⟩; cbv)
    | (refine ⟨_, _, les_refl _, h43 _, ?_⟩; cbv))
  all_goals (subst hr hA hs0 hs1 hs2; refine bv_le ?_; simp [std] at *; clear h41 h42 h43; first | grind [validRule, otherOk, percentOk] | (simp_all [validRule, otherOk, percentOk]; done) | (simp_all; done))
theorem f17 (r : Rule) : Fun Try.prog 17 [rule r] (bv (validRule r)) := by
  refine Fun.of_wp tok mixed Try.func17 (by kernel_rfl) rfl Try.ntmps17 rfl ?_
  generalize hr : bv _ = q
  generalize hA : std = A
  generalize hP : Try.prog = P
  have h39 := f39; rw [hP] at h39
  have h44 := f44; rw [hP] at h44
  generalize hs0 : within = s0 at h39 h44
  generalize hs1 : paired = s1 at h39 h44
  cbv
  repeat' (first
    | (refine And.intro (fun h => ?_) (fun h => ?_) <;> first | (cases h; done) | cbv)
    | (refine ⟨_, _, les_refl _, h39 _ _ _, ?_⟩; cbv)
    | (refine ⟨_, _, les_refl _, h44 _, ?_⟩; cbv))
  all_goals (subst hr hA hs0 hs1; refine bv_le ?_; simp [std] at *; clear h39 h44; first | grind [validRule, otherOk, percentOk, valueOk] | (simp_all [validRule, otherOk, percentOk, valueOk]; done) | (simp_all; done))
def rulesC (n : Nat) (f : Nat → Rule) : AC := .bs n 5 fun i => ruleC (f i)
def eqRs (n : Nat) (f : Nat → Rule) (m : Nat) (g : Nat → Rule) : Prop := n = m ∧ ∀ i, i < n → f i = g i
theorem wrap_succ {k n : Nat} (hk : k < n) (hn : n < 2 ^ 62) : IntKind.i64.wrap ((k : Int) + 1) = (k : Int) + 1 := by
  simp [IntKind.wrap, IntKind.bits, IntKind.signed]; try omega
theorem bvp_le {b : Bool} {p : Prop} [Decidable p] (h : b = true ↔ p) : (AV.c (.v (.bool b))).le (bv (decide p)) := bv_le (by rw [h, decide_eq_true_iff])
theorem f54 (r r' : Rule) : Fun Try.prog 54 [rule r, rule r'] (bv (decide (r = r'))) := by
  refine Fun.of_wp tok mixed Try.func54 (by kernel_rfl) rfl Try.ntmps54 rfl ?_
  generalize hr : bv _ = q
  generalize hA : std = A
  generalize hP : Try.prog = P
  cbv
  repeat' (refine And.intro (fun h => ?_) (fun h => ?_) <;> first | (cases h; done) | cbv)
  all_goals (subst hr hA; refine bv_le ?_; simp [std, Rule.ext_iff] at *; try simp [*])
open Classical in
theorem f51 (n m : Nat) (f g : Nat → Rule) (hn : n < 2 ^ 62) : Fun Try.prog 51 [.c (rulesC n f), .c (rulesC m g)] (bv (decide (eqRs n f m g))) := by
  refine Fun.of_wp tok mixed Try.func51 (by kernel_rfl) rfl Try.ntmps51 rfl ?_
  generalize hr : bv _ = q
  generalize hA : std = A
  generalize hP : Try.prog = P
  have h54 := f54; rw [hP] at h54
  cbv
  refine And.intro (fun h => ?_) (fun h => ?_) <;> first | (cases h; done) | cbv
  · subst hr hA; refine bvp_le ?_; simp [std, eqRs] at *; intro hh; omega
  · refine loop_at (fun k => sparse 27 [(0, .c (rulesC n f)), (1, .c (rulesC m g)), (4, bv false), (5, iv (A.ofN k))] []) (fun k => n - k) (fun k => k ≤ n ∧ ∀ i, i < k → f i = g i) 0
      (le_sparse (by rfl) (by subst hA; exact ⟨rfl, rfl, rfl, rfl, trivial⟩) trivial (by rfl)) ⟨Nat.zero_le _, fun i hi => absurd hi (by omega)⟩ ?_
    intro k hk Kn hKn
    cbv
    repeat' (first
      | (refine And.intro (fun h => ?_) (fun h => ?_) <;> first | (cases h; done) | cbv)
      | (refine And.intro ?_ ?_)
      | (refine ⟨_, _, les_refl _, h54 _ _, ?_⟩; cbv))
    all_goals (clear h54; subst hr hA)
    · simp [std] at *; omega
    · trivial
    · simp [std] at *; omega
    · trivial
    · refine bvp_le ?_; simp [std, eqRs] at *; intro hh; exact ⟨k, by omega, by assumption⟩
    · revert hKn; simp [std] at *; intro hKn
      refine hKn (k + 1) _ (by omega) (fun i hi => ?_) (by omega) (le_sparse (by rfl) ⟨rfl, rfl, rfl, ?_, trivial⟩ trivial (by rfl))
      · by_cases hik : i = k
        · subst hik; assumption
        · exact hk.2 i (by omega)
      · simp [iv, wrap_succ (k := k) (n := n) (by omega) hn]
    · refine bvp_le ?_; simp [std, eqRs] at *; exact ⟨by omega, fun i hi => hk.2 i (by omega)⟩
def zeroRule : Rule := ⟨0, 0, 0, 0, 0⟩
/-- a row whose first k elements are those of f, and the rest of g -/
def upTo' (g f : Nat → Rule) (k : Nat) (i : Nat) : Nat → AC := if i < k then ruleC (f i) else ruleC (g i)
theorem upd_row (g f : Nat → Rule) (k i j : Nat) {x : AC} (hx : x = ruleC (f k) j) : (if i = k then x else upTo' g f k i j) = upTo' g f (k + 1) i j := by
  unfold upTo'
  by_cases h : i = k
  · subst h; simp [hx]
  · by_cases h' : i < k
    · simp [h, h', Nat.lt_succ_of_lt h']
    · simp [h, h', show ¬ i < k + 1 by omega]
theorem lt5 {P : Nat → Prop} (h0 : P 0) (h1 : P 1) (h2 : P 2) (h3 : P 3) (h4 : P 4) : ∀ j, j < 5 → P j := by
  intro j hj
  match j, hj with
  | 0, _ => exact h0
  | 1, _ => exact h1
  | 2, _ => exact h2
  | 3, _ => exact h3
  | 4, _ => exact h4
/-- toRule -/
theorem f16 (r : Rule) : Fun Try.prog 16 [rule r] (rule r) := by
  refine Fun.of_wp tok mixed Try.func16 (by kernel_rfl) rfl Try.ntmps16 rfl ?_
  generalize hA : std = A
  generalize hP : Try.prog = P
  cbv
  exact fun I w v h => h
/-- toRuleS -/
theorem f49 (n : Nat) (f : Nat → Rule) (hn : n < 2 ^ 30) : Fun Try.prog 49 [.c (rulesC n f)] (.c (rulesC n f)) := by
  refine Fun.of_wp tok mixed Try.func49 (by kernel_rfl) rfl Try.ntmps49 rfl ?_
  generalize hA : std = A
  generalize hP : Try.prog = P
  have h16 := f16; rw [hP] at h16
  cbv
  obtain ⟨G, hG⟩ : ∃ G, G = upTo' (fun _ => zeroRule) f := ⟨_, rfl⟩
  refine And.intro ⟨?_, ?_⟩ ?_
  · subst hA; simp [std]
  · subst hA; simp [std]; omega
  · refine loop_at (fun k => sparse 23 [(0, .c (rulesC n f)), (3, .c (.os 56 0 (A.toN (A.ofN n)))), (4, iv (A.ofN k))] [(56, .arr true (A.toN (A.ofN n)) 5 (G k))]) (fun k => n - k) (fun k => k ≤ n) 0
      (le_sparse (by rfl) (by subst hA; exact ⟨rfl, rfl, rfl, trivial⟩) ⟨⟨fun _ => rfl, rfl, rfl, fun i hi => lt5 ?_ ?_ ?_ ?_ ?_⟩, trivial⟩ (by rfl)) (Nat.zero_le _) ?_
    any_goals (subst hG; rfl)
    intro k hk Kn hKn
    cbv
    repeat' (first
      | (refine And.intro (fun h => ?_) (fun h => ?_) <;> first | (cases h; done) | cbv)
      | (refine And.intro ?_ ?_)
      | (refine ⟨_, _, les_refl _, h16 _, ?_⟩; cbv))
    all_goals (clear h16; subst hA hG)
    · simp [std] at *; omega
    · trivial
    · simp [std] at *; omega
    · trivial
    · simp [std] at *; omega
    · trivial
    · have hk' : k < n := by simpa [std] using h
      refine hKn (k + 1) _ (by omega) (by omega) (le_sparse (by rfl) ⟨rfl, rfl, ?_, trivial⟩ ⟨⟨fun _ => rfl, rfl, rfl, fun i hi => lt5 ?_ ?_ ?_ ?_ ?_⟩, trivial⟩ (by rfl))
      · simp [iv, std, wrap_succ hk' (by omega : n < 2 ^ 62)]
      all_goals (simp [std]; exact upd_row _ _ _ _ _ rfl)
    · have e : std.toN (std.ofN n) = n := by simp [std]
      have hk' : k = n := by simp [std] at h; omega
      subst hk'
      show AV.le (.c (.bs (std.toN (std.ofN k)) 5 fun i => upTo' (fun x => zeroRule) f k (0 + i))) (.c (.bs k 5 fun i => ruleC (f i)))
      rw [e]
      refine AV.le_bs fun i hi j hj => ?_
      simp [upTo', hi]
def ruleL (r : Rule) : List AC := [ruleC r 0, ruleC r 1, ruleC r 2, ruleC r 3, ruleC r 4]
def deck (n : Nat) (f : Nat → Rule) : AV := .agg [rulesC n f]
/-- toDeck -/
theorem f34 (n : Nat) (f : Nat → Rule) (hn : n < 2 ^ 30) : Fun Try.prog 34 [deck n f] (deck n f) := by
  refine Fun.of_wp tok mixed Try.func34 (by kernel_rfl) rfl Try.ntmps34 rfl ?_
  generalize hA : std = A
  generalize hP : Try.prog = P
  have h49 := f49 n f hn; rw [hP] at h49
  cbv
  refine ⟨_, _, les_refl _, h49, ?_⟩
  cbv
  exact fun I w v h => h
def szR (x : Int) (n : Nat) : Int := if x - n < 0 then -1 else x - n
theorem wrap_in {x : Int} (h : -9223372036854775808 ≤ x) (h' : x < 9223372036854775808) : IntKind.i64.wrap x = x := by
  simp [IntKind.wrap, IntKind.bits, IntKind.signed]; omega
/-- szRuleS -/
theorem f47 (n : Nat) (f : Nat → Rule) (x : Int) (hn : n < 2 ^ 63) (hx : 0 ≤ x) (hx' : x < 2 ^ 62) : Fun Try.prog 47 [.c (rulesC n f), iv x] (iv (szR x n)) := by
  refine Fun.of_wp tok mixed Try.func47 (by kernel_rfl) rfl Try.ntmps47 rfl ?_
  generalize hr : iv (szR x n) = q
  generalize hA : std = A
  generalize hP : Try.prog = P
  cbv
  repeat' (refine And.intro (fun h => ?_) (fun h => ?_) <;> first | (cases h; done) | cbv)
  all_goals (subst hr hA; refine AV.le_of_eq ?_; simp [std, iv, szR] at *; rw [wrap_in (by omega) (by omega)] at *; omega)
/-- szDeck -/
theorem f32 (n : Nat) (f : Nat → Rule) (x : Int) (hn : n < 2 ^ 63) (hx : 0 ≤ x) (hx' : x < 2 ^ 62) : Fun Try.prog 32 [deck n f, iv x] (iv (szR x n)) := by
  refine Fun.of_wp tok mixed Try.func32 (by kernel_rfl) rfl Try.ntmps32 rfl ?_
  have h47 := f47 n f x hn hx hx'
  generalize hs : szR = S at *
  generalize hr : iv (S x n) = q
  generalize hA : std = A
  generalize hP : Try.prog = P at *
  cbv
  refine ⟨_, _, les_refl _, h47, ?_⟩
  subst hr
  cbv
  repeat' (refine And.intro (fun h => ?_) (fun h => ?_) <;> first | (cases h; done) | cbv)
  all_goals (subst hA hs; refine AV.le_of_eq ?_; simp [std, iv, szR] at *; try omega)
/-- eqDeck -/
theorem f36 (n m : Nat) (f g : Nat → Rule) (e : Bool) (he : Fun Try.prog 51 [.c (rulesC n f), .c (rulesC m g)] (bv e)) : Fun Try.prog 36 [deck n f, deck m g] (bv e) := by
  refine Fun.of_wp tok mixed Try.func36 (by kernel_rfl) rfl Try.ntmps36 rfl ?_
  generalize hA : std = A
  generalize hP : Try.prog = P at *
  cbv
  refine ⟨_, _, les_refl _, he, ?_⟩
  cbv
  repeat' (refine And.intro (fun h => ?_) (fun h => ?_) <;> first | (cases h; done) | cbv)
  all_goals (subst hA; refine bv_le ?_; simp [std] at *; try simp [*])
def hasR (n : Nat) (f : Nat → Rule) (r : Rule) : Prop := ∃ i, i < n ∧ f i = r
open Classical in
/-- l16Has -/
theorem f48 (n : Nat) (f : Nat → Rule) (r : Rule) (hn : n < 2 ^ 62) : Fun Try.prog 48 [.c (rulesC n f), rule r] (bv (decide (hasR n f r))) := by
  refine Fun.of_wp tok mixed Try.func48 (by kernel_rfl) rfl Try.ntmps48 rfl ?_
  generalize hr : bv _ = q
  generalize hA : std = A
  generalize hP : Try.prog = P
  cbv
  refine loop_at (fun k => sparse 18 [(0, .c (rulesC n f)), (3, .c (.ptr 24 0)), (4, bv false), (5, iv (A.ofN k))] [(24, .var (ruleL r))]) (fun k => n - k) (fun k => k ≤ n ∧ ∀ i, i < k → f i ≠ r) 0
    (le_sparse (by rfl) (by subst hA; exact ⟨rfl, rfl, rfl, rfl, trivial⟩) ⟨rfl, trivial⟩ (by rfl)) ⟨Nat.zero_le _, fun i hi => absurd hi (by omega)⟩ ?_
  intro k hk Kn hKn
  cbv
  repeat' (first
    | (refine And.intro (fun h => ?_) (fun h => ?_) <;> first | (cases h; done) | cbv)
    | (refine And.intro ?_ ?_))
  all_goals (subst hr hA)
  · simp [std] at *; omega
  · trivial
  · refine bvp_le ?_; simp [std, hasR] at *; exact ⟨k, by omega, Rule.ext_iff.2 (by simp [*])⟩
  · rename_i h'
    have hk' : k < n := by simpa [std] using h'
    have hne : f k ≠ r := by
      intro hh; subst hh; simp [std] at h
    refine hKn (k + 1) _ ⟨by omega, fun i hi => ?_⟩ (by omega) (le_sparse (by rfl) ⟨rfl, rfl, rfl, ?_, trivial⟩ ⟨rfl, trivial⟩ (by rfl))
    · by_cases hik : i = k
      · subst hik; exact hne
      · exact hk.2 i (by omega)
    · simp [iv, std, wrap_succ hk' hn]
  · refine bvp_le ?_; simp [std, hasR] at *; intro i hi; exact hk.2 i (by omega)
/-- slices.Index: z is the first place of r among the first n, or -1 -/
def firstR (n : Nat) (f : Nat → Rule) (r : Rule) (z : Int) : Prop := (z = -1 ∧ ∀ i, i < n → f i ≠ r) ∨ ∃ i : Nat, z = i ∧ i < n ∧ f i = r ∧ ∀ j, j < i → f j ≠ r
theorem f53 (n : Nat) (f : Nat → Rule) (r : Rule) (z : Int) (hn : n < 2 ^ 62) (hz : firstR n f r z) : Fun Try.prog 53 [.c (rulesC n f), rule r] (iv z) := by
  refine Fun.of_wp tok mixed Try.func53 (by kernel_rfl) rfl Try.ntmps53 rfl ?_
  generalize hr : iv _ = q
  generalize hA : std = A
  generalize hP : Try.prog = P
  cbv
  refine loop_at (fun k => sparse 19 [(0, .c (rulesC n f)), (3, .c (.ptr 24 0)), (7, iv (A.ofN n)), (8, iv (A.ofN k))] [(24, .var (ruleL r))]) (fun k => n - k) (fun k => k ≤ n ∧ ∀ i, i < k → f i ≠ r) 0
    (le_sparse (by rfl) (by subst hA; exact ⟨rfl, rfl, rfl, rfl, trivial⟩) ⟨rfl, trivial⟩ (by rfl)) ⟨Nat.zero_le _, fun i hi => absurd hi (by omega)⟩ ?_
  intro k hk Kn hKn
  cbv
  repeat' (first
    | (refine And.intro (fun h => ?_) (fun h => ?_) <;> first | (cases h; done) | cbv)
    | (refine And.intro ?_ ?_))
  all_goals (subst hr hA)
  · simp [std] at *; omega
  · trivial
  · rename_i h'
    refine AV.le_of_eq ?_
    have hk' : k < n := by simpa [std] using h'
    have he : f k = r := by simp [std] at h; exact Rule.ext_iff.2 (by simp [*])
    rcases hz with ⟨_, h2⟩ | ⟨i, rfl, h1, h2, h3⟩
    · exact absurd he (h2 k hk')
    · have : i = k := by
        rcases Nat.lt_trichotomy i k with g | g | g
        · exact absurd h2 (hk.2 i g)
        · exact g
        · exact absurd he (h3 k g)
      subst this
      simp [iv, std]
  · rename_i h'
    have hk' : k < n := by simpa [std] using h'
    have hne : f k ≠ r := by
      intro hh; subst hh; simp [std] at h
    refine hKn (k + 1) _ ⟨by omega, fun i hi => ?_⟩ (by omega) (le_sparse (by rfl) ⟨rfl, rfl, rfl, ?_, trivial⟩ ⟨rfl, trivial⟩ (by rfl))
    · by_cases hik : i = k
      · subst hik; exact hne
      · exact hk.2 i (by omega)
    · simp [iv, std, wrap_succ hk' hn]
  · refine AV.le_of_eq ?_
    have hk' : k = n := by simp [std] at h; omega
    subst hk'
    rcases hz with ⟨rfl, _⟩ | ⟨i, rfl, h1, h2, h3⟩
    · rfl
    · exact absurd h2 (hk.2 i h1)
theorem least {p : Nat → Prop} (h : ∃ i, p i) : ∃ i, p i ∧ ∀ j, j < i → ¬ p j := by
  obtain ⟨i, hi⟩ := h
  induction i using Nat.strongRecOn with
  | _ i ih =>
    by_cases hj : ∃ j, j < i ∧ p j
    · obtain ⟨j, h1, h2⟩ := hj; exact ih j h1 h2
    · exact ⟨i, hi, fun j h1 h2 => hj ⟨j, h1, h2⟩⟩
open Classical in
theorem firstR_ex (n : Nat) (f : Nat → Rule) (r : Rule) : ∃ z, firstR n f r z ∧ (0 ≤ z ↔ hasR n f r) := by
  by_cases h : hasR n f r
  · obtain ⟨i, ⟨h1, h2⟩, h3⟩ := least h
    exact ⟨i, .inr ⟨i, rfl, h1, h2, fun j hj hh => h3 j hj ⟨by omega, hh⟩⟩, by simp; exact ⟨i, h1, h2⟩⟩
  · exact ⟨-1, .inl ⟨rfl, fun i hi hh => h ⟨i, hi, hh⟩⟩, by simp [h]⟩
open Classical in
/-- slices.Contains -/
theorem f50 (n : Nat) (f : Nat → Rule) (r : Rule) (hn : n < 2 ^ 62) : Fun Try.prog 50 [.c (rulesC n f), rule r] (bv (decide (hasR n f r))) := by
  refine Fun.of_wp tok mixed Try.func50 (by kernel_rfl) rfl Try.ntmps50 rfl ?_
  obtain ⟨z, hz, hz2⟩ := firstR_ex n f r
  have h53 := f53 n f r z hn hz
  generalize hr : bv _ = q
  generalize hA : std = A
  generalize hP : Try.prog = P at *
  cbv
  refine ⟨_, _, les_refl _, h53, ?_⟩
  cbv
  subst hr hA
  refine bvp_le ?_
  simp [std]; exact hz2
def validDeck (n : Nat) (f : Nat → Rule) : Prop := n ≤ 12 ∧ ∀ i, i < n → validRule (f i) = true ∧ ¬ hasR i f (f i)
open Classical in
/-- spec.IsValidDeck -/
theorem f33 (n : Nat) (f : Nat → Rule) (hn : n < 2 ^ 62) : Fun Try.prog 33 [deck n f] (bv (decide (validDeck n f))) := by
  refine Fun.of_wp tok mixed Try.func33 (by kernel_rfl) rfl Try.ntmps33 rfl ?_
  have h15 := f15
  have h48 : ∀ k, k < n → Fun Try.prog 48 [.c (rulesC k f), rule (f k)] (bv (decide (hasR k f (f k)))) := fun k hk => f48 k f (f k) (by omega)
  generalize hr : bv (decide (validDeck n f)) = q
  obtain ⟨V, hV⟩ : ∃ V, V = validRule := ⟨_, rfl⟩
  obtain ⟨H, hH⟩ : ∃ H : Nat → Bool, H = fun k => decide (hasR k f (f k)) := ⟨_, rfl⟩
  have h48' : ∀ k, k < n → Fun Try.prog 48 [.c (rulesC k f), rule (f k)] (bv (H k)) := by rw [hH]; exact h48
  clear h48
  rw [← hV] at h15
  generalize hA : std = A
  generalize hP : Try.prog = P at *
  cbv
  refine And.intro (fun h => ?_) (fun h => ?_) <;> first | (cases h; done) | cbv
  · subst hr hA; refine bvp_le ?_; simp [std, validDeck] at *; intro hh; omega
  refine loop_at (fun k => sparse 34 [(1, .c (.ptr 8 0)), (2, bv false), (3, iv (A.ofN k))] [(8, .var [rulesC n f])]) (fun k => n - k) (fun k => k ≤ n ∧ ∀ i, i < k → validRule (f i) = true ∧ ¬ hasR i f (f i)) 0
    (le_sparse (by rfl) (by subst hA; exact ⟨rfl, rfl, rfl, trivial⟩) ⟨rfl, trivial⟩ (by rfl)) ⟨Nat.zero_le _, fun i hi => absurd hi (by omega)⟩ ?_
  intro k hk Kn hKn
  cbv
  refine And.intro (fun h => ?_) (fun h => ?_) <;> first | (cases h; done) | cbv
  · have hk' : k < n := by subst hA; simpa [std] using h
    refine And.intro ⟨?_, trivial⟩ ?_
    · subst hA; simp [std]; omega
    refine ⟨_, _, les_refl _, h15 _, ?_⟩
    cbv
    repeat' (first
      | (refine And.intro (fun h => ?_) (fun h => ?_) <;> first | (cases h; done) | cbv)
      | (refine And.intro ?_ ?_)
      | (refine ⟨_, _, ?_, h48' k hk', ?_⟩; rotate_left; cbv))
    all_goals (clear h15 h48'; subst hr hA hV hH)
    · simp [std]; omega
    · simp [std]
    · trivial
    · simp [std]; omega
    · trivial
    · refine bvp_le ?_; simp [std, validDeck] at *; intro _; exact ⟨k, hk', fun _ => by assumption⟩
    · rename_i hv
      refine hKn (k + 1) _ ⟨by omega, fun i hi => ?_⟩ (by omega) (le_sparse (by rfl) ⟨rfl, rfl, ?_, trivial⟩ ⟨rfl, trivial⟩ (by rfl))
      · by_cases hik : i = k
        · subst hik; simp [std] at hv h; exact ⟨hv, h⟩
        · exact hk.2 i (by omega)
      · simp [iv, std, wrap_succ hk' hn]
    · exact AV.le_of_eq (by simp [std, rulesC])
    · exact AV.le_of_eq (by simp [std]; rfl)
    · trivial
    · refine bvp_le ?_; simp [std, validDeck] at *; intro _; exact ⟨k, hk', fun hh => absurd hh (by simp [h])⟩
  · subst hr hA hV; refine bvp_le ?_; simp [std, validDeck] at *; exact ⟨by omega, fun i hi => hk.2 i (by omega)⟩
open Classical in
/-- impl.IsValidDeck -/
theorem f35 (n : Nat) (f : Nat → Rule) (hn : n < 2 ^ 62) : Fun Try.prog 35 [deck n f] (bv (decide (validDeck n f))) := by
  refine Fun.of_wp tok mixed Try.func35 (by kernel_rfl) rfl Try.ntmps35 rfl ?_
  have h17 := f17
  have h50 : ∀ k, k < n → Fun Try.prog 50 [.c (rulesC k f), rule (f k)] (bv (decide (hasR k f (f k)))) := fun k hk => f50 k f (f k) (by omega)
  generalize hr : bv (decide (validDeck n f)) = q
  obtain ⟨V, hV⟩ : ∃ V, V = validRule := ⟨_, rfl⟩
  obtain ⟨H, hH⟩ : ∃ H : Nat → Bool, H = fun k => decide (hasR k f (f k)) := ⟨_, rfl⟩
  have h50' : ∀ k, k < n → Fun Try.prog 50 [.c (rulesC k f), rule (f k)] (bv (H k)) := by rw [hH]; exact h50
  clear h50
  rw [← hV] at h17
  generalize hA : std = A
  generalize hP : Try.prog = P at *
  cbv
  refine loop_at (fun k => sparse 29 [(1, .c (.ptr 8 0)), (2, bv false), (6, .c (rulesC n f)), (7, iv (A.ofN n)), (8, iv (A.ofN k))] [(8, .var [rulesC n f])]) (fun k => n - k) (fun k => k ≤ n ∧ ∀ i, i < k → validRule (f i) = true ∧ ¬ hasR i f (f i)) 0
    (le_sparse (by rfl) (by subst hA; exact ⟨rfl, rfl, rfl, rfl, rfl, trivial⟩) ⟨rfl, trivial⟩ (by rfl)) ⟨Nat.zero_le _, fun i hi => absurd hi (by omega)⟩ ?_
  intro k hk Kn hKn
  cbv
  refine And.intro (fun h => ?_) (fun h => ?_) <;> first | (cases h; done) | cbv
  · have hk' : k < n := by subst hA; simpa [std] using h
    refine And.intro ⟨?_, trivial⟩ ?_
    · subst hA; simp [std]; omega
    refine ⟨_, _, les_refl _, h17 _, ?_⟩
    cbv
    repeat' (first
      | (refine And.intro (fun h => ?_) (fun h => ?_) <;> first | (cases h; done) | cbv)
      | (refine And.intro ?_ ?_)
      | (refine ⟨_, _, ?_, h50' k hk', ?_⟩; rotate_left; cbv))
    all_goals (clear h17 h50'; subst hr hA hV hH)
    · simp [std]; omega
    · simp [std]
    · trivial
    · refine bvp_le ?_; simp [std, validDeck] at *; intro _; exact ⟨k, hk', fun _ => by assumption⟩
    · rename_i hv
      refine hKn (k + 1) _ ⟨by omega, fun i hi => ?_⟩ (by omega) (le_sparse (by rfl) ⟨rfl, rfl, rfl, rfl, ?_, trivial⟩ ⟨rfl, trivial⟩ (by rfl))
      · by_cases hik : i = k
        · subst hik; simp [std] at hv h; exact ⟨hv, h⟩
        · exact hk.2 i (by omega)
      · simp [iv, std, wrap_succ hk' hn]
    · exact AV.le_of_eq (by simp [std, rulesC])
    · exact AV.le_of_eq (by simp [std]; rfl)
    · trivial
    · refine bvp_le ?_; simp [std, validDeck] at *; intro _; exact ⟨k, hk', fun hh => absurd hh (by simp [h])⟩
  · subst hr hA hV; refine bvp_le ?_; simp [std, validDeck] at *; exact ⟨fun h1 => ⟨by omega, fun i hi => hk.2 i (by omega)⟩, fun h1 => by omega⟩
open Classical in
/-- FnExactIsValidDeck -/
theorem f10 (n : Nat) (f : Nat → Rule) (hn : n < 2 ^ 63) : Fun Try.prog 10 [deck n f] (bv true) := by
  refine Fun.of_wp tok mixed Try.func10 (by kernel_rfl) rfl Try.ntmps10 rfl ?_
  have h32 := f32 n f 1048576 hn (by omega) (by omega)
  have h34 := f34 n f
  have h33 := f33 n f
  have h35 := f35 n f
  have h36 := fun hn => f36 n n f f (decide (eqRs n f n f)) (f51 n n f f hn)
  have he : decide (eqRs n f n f) = true := by simp [eqRs]
  rw [he] at h36
  generalize hV : decide (validDeck n f) = V at *
  generalize hS : szR 1048576 n = S at *
  generalize hA : std = A
  generalize hP : Try.prog = P at *
  cbv
  refine ⟨_, _, les_refl _, h32, ?_⟩
  cbv
  refine And.intro (fun h => ?_) (fun h => ?_) <;> first | (cases h; done) | cbv
  · exact fun I w v h => h
  have hn' : n < 2 ^ 30 := by subst hA hS; simp [std, szR] at h; omega
  have h34 := h34 hn'
  have h33 := h33 (by omega)
  have h35 := h35 (by omega)
  have h36 := h36 (by omega)
  repeat' (first
    | (refine And.intro (fun h => ?_) (fun h => ?_) <;> first | (cases h; done) | cbv)
    | (refine And.intro ?_ ?_)
    | (refine ⟨_, _, les_refl _, h34, ?_⟩; cbv)
    | (refine ⟨_, _, les_refl _, h33, ?_⟩; cbv)
    | (refine ⟨_, _, les_refl _, h35, ?_⟩; cbv)
    | (refine ⟨_, _, les_refl _, h36, ?_⟩; cbv))
  · subst hA; simp [std] at h
  · subst hA; simp [std] at h
  · exact fun I w v h => h
theorem shape_rule {l : List AC} (h : Shape T 2 27 l) : ∃ r, l = ruleL r := by
  cbv at h
  obtain ⟨_, _, rfl, ⟨a, rfl, _⟩, _, _, rfl, ⟨b, rfl, _⟩, _, _, rfl, ⟨c, rfl, _⟩, _, _, rfl, ⟨d, rfl, _⟩, _, _, rfl, ⟨e, rfl, _⟩, rfl⟩ := h
  exact ⟨⟨a, b, c, d, e⟩, rfl⟩
theorem shape_deck {l : List AC} (h : Shape T 4 48 l) : ∃ n f, n < 2 ^ 63 ∧ (AV.agg l).le (deck n f) := by
  obtain ⟨a, b, rfl, ⟨n, sz, get, rfl, hn, ⟨ed, hed, rfl⟩, hs⟩, rfl⟩ : ∃ a b, l = a ++ b ∧ Shape T 3 46 a ∧ b = [] := h
  have hsz : ed.size = 5 := by
    have : T 27 = some ed := hed
    have h2 : T 27 = some d27 := rfl
    rw [h2] at this; injection this with this; subst this; rfl
  rw [hsz] at hs ⊢
  have hr : ∀ i, i < n → ∃ r, (List.range 5).map (get i) = ruleL r := fun i hi => shape_rule (hs i hi)
  classical
  refine ⟨n, fun i => if hi : i < n then (hr i hi).choose else zeroRule, Nat.lt_of_le_of_lt hn (by decide +kernel), AV.le_agg ⟨AC.le_bs fun i hi j hj => ?_, trivial⟩⟩
  have hc := (hr i hi).choose_spec
  simp only [dif_pos hi]
  revert hc
  generalize (hr i hi).choose = r
  intro hc
  have he : get i j = ruleC r j := by
    have : ∀ j, j < 5 → get i j = ruleC r j := by
      injection hc with h0 hc; injection hc with h1 hc; injection hc with h2 hc; injection hc with h3 hc; injection hc with h4 hc
      exact lt5 h0 h1 h2 h3 h4
    exact this j hj
  rw [he]; exact AC.le_refl _
theorem okWide_agg {P : Program} {W : World} {r : Reach} {base : Nat} {t : TypeId} {v : Value} {fs : Array Field} (ht : P.underlying t = some (.struct fs)) (h : Value.okWide P W r base t v) : ∃ cs, v = .agg cs := by
  unfold Value.okWide at h
  rw [ht] at h
  obtain ⟨cs, h, _⟩ := h
  exact ⟨cs, h⟩
/-- a deck given as argument -/
theorem open_deck {H : Type} {enc : TypeId × Value → H} {W : World} {spare : Nat → Bool} {held : Bool} {r : Reach} {base : Nat} {v : Value} {x : DataW H} {ps : List MemPlace}
    (hv : Value.okWide Try.prog W r base 48 v) (h : DataW.Trod enc Try.prog W 0 spare held 48 v x ps) : ∃ n f, n < 2 ^ 63 ∧ RelV (RelI (fun b => b < W.heap.size) W) (deck n f) v := by
  obtain ⟨a, hv⟩ := okWide_agg (tok 48 d48 rfl).1 hv
  obtain ⟨cs, hs, hr⟩ := open_agg tok (d := 4) (by kernel_rfl) hv h
  obtain ⟨n, f, hn, hle⟩ := shape_deck hs
  exact ⟨n, f, hn, hle _ _ _ hr⟩
end Go.Proofs.Ytidiiodcpfdnfaa.AM
