/-
  Contracts of the functions that the law reaches. No condition.
-/
import Derived.Test.YtcfmllknnfoghaaAmEa
import Derived.WideShapes
namespace Go.Proofs.Ytcfmllknnfoghaa.AM
open Go Go.RowKit
set_option linter.unusedVariables false
set_option linter.unusedSimpArgs false
set_option maxRecDepth 100000

def hd2 (e : Edt) : Bool := within e.c 0 8 && within e.i 0 24
/-- impl.IsValidEdit -/
theorem f14 (e : Edt) (h1 : e.nm.size < 2 ^ 63) (h2 : e.ln.size < 2 ^ 63) : Fun Try.prog 14 [.agg (edL e)] (bv (editOk e)) := by
  refine Fun.of_Wp tok Try.func14 (by kernel_rfl) rfl Try.ntmps14 rfl ?_
  obtain ⟨q, hq⟩ : ∃ q, q = editOk e := ⟨_, rfl⟩
  rw [← hq]
  refine Wp.seq (fun _ : Unit => sparse 98 [(1, .c (.ptr 8 0)), (2, bv false)] [(8, .var (edL e))]) (fun _ => True) (Wp.of tok mixed ?_) (fun _ _ => ?_)
  · generalize hA : std = A
    generalize hP : Try.prog = P
    cbv
    exact ⟨(), trivial, le_sparse (by rfl) ⟨rfl, rfl, trivial⟩ ⟨rfl, trivial⟩ (by rfl)⟩
  refine Wp.seq (fun _ : Unit => sparse 98 [(1, .c (.ptr 8 0)), (2, bv false)] [(8, .var (edL e))]) (fun _ => hd2 e = true) (Wp.of tok mixed ?_) (fun _ fa => ?_)
  · obtain ⟨F, hF⟩ : ∃ F, F = (hd2 e = true) := ⟨_, rfl⟩
    rw [← hF]
    generalize hA : std = A
    generalize hP : Try.prog = P
    have c52 := f52; rw [hP] at c52
    generalize hs0 : within = s0 at *
    cbv
    repeat' (first
      | (refine And.intro (fun h => ?_) (fun h => ?_) <;> first | (cases h; done) | cbv)
      | (refine ⟨_, _, les_refl _, c52 _ _ _, ?_⟩; cbv))
    all_goals (clear c52; subst hA hs0)
    all_goals first
      | (refine bv_le ?_; subst hq hF; simp [std] at * <;> first | (simp [editOk, hdOk, *]; done) | grind [editOk, hdOk])
      | (refine ⟨(), ?_, le_sparse (by rfl) ⟨rfl, rfl, trivial⟩ ⟨rfl, trivial⟩ (by rfl)⟩; subst hF; simp [std] at * <;> first | (simp [hd2, *]; done) | grind [hd2])
  refine Wp.of tok mixed ?_
  generalize hA : std = A
  generalize hP : Try.prog = P
  have c53 := f53 e.sl e.sa e.sb e.sp e.sq; rw [hP] at c53
  have c54 := f54 e.ll e.lx e.ly e.ln h2; rw [hP] at c54
  have c55 := f55 e.jc e.jt e.jx e.jy e.jco e.jro e.jsx e.jsy 8; rw [hP] at c55
  have c56 := g56 e.nm h1; rw [hP] at c56
  generalize hs0 : shapeOk = s0 at *
  generalize hs1 : labelOk = s1 at *
  generalize hs2 : instOk = s2 at *
  generalize hs3 : nameB = s3 at *
  cbv
  repeat' (first
    | (refine And.intro (fun h => ?_) (fun h => ?_) <;> first | (cases h; done) | cbv)
    | (refine ⟨_, _, les_refl _, c53, ?_⟩; cbv)
    | (refine ⟨_, _, les_refl _, c54, ?_⟩; cbv)
    | (refine ⟨_, _, les_refl _, c55, ?_⟩; cbv)
    | (refine ⟨_, _, les_refl _, c56, ?_⟩; cbv))
  all_goals (clear c53 c54 c55 c56; subst hA hs0 hs1 hs2 hs3)
  all_goals (refine bv_le ?_; subst hq; simp [std] at * <;> first | grind [editOk, hdOk, ixOk, nmOk, shOk, lbOk, inOk, named, noShape, noLabel, noInst, hd2, within])
def szS (x : Int) (n : Nat) : Int := if x - n < 0 then -1 else x - n
/-- szLabel -/
theorem f40 (l x y : Int) (s : ByteArray) (left : Int) (hs : s.size < 2 ^ 63) (h0 : 0 ≤ left) (h1 : left < 2 ^ 62) : Fun Try.prog 40 [.agg [ic l, ic x, ic y, sc s], iv left] (iv (szS left s.size)) := by
  refine Fun.of_wp tok mixed Try.func40 (by kernel_rfl) rfl Try.ntmps40 rfl ?_
  generalize hr : iv (szS left s.size) = q
  generalize hA : std = A
  generalize hP : Try.prog = P
  cbv
  repeat' (refine And.intro (fun h => ?_) (fun h => ?_) <;> first | (cases h; done) | cbv)
  all_goals (subst hr hA; refine AV.le_of_eq ?_; simp [std, iv, szS] at *; rw [wrap_in (by omega) (by omega)] at *; omega)
/-- szEdit -/
theorem f11 (e : Edt) (left : Int) (h2 : e.nm.size < 2 ^ 63) (h3 : e.ln.size < 2 ^ 63) (h0 : 0 ≤ left) (h1 : left < 2 ^ 62) : ∃ z, Fun Try.prog 11 [.agg (edL e), iv left] (iv z) := by
  have hw : IntKind.i64.wrap (left - e.nm.size) = left - e.nm.size := wrap_in (by omega) (by omega)
  by_cases hc : left - (e.nm.size : Int) < 0
  · refine ⟨-1, ?_⟩
    refine Fun.of_wp tok mixed Try.func11 (by kernel_rfl) rfl Try.ntmps11 rfl ?_
    generalize hA : std = A
    generalize hP : Try.prog = P at *
    cbv
    refine And.intro (fun h => ?_) (fun h => ?_)
    · cbv
      exact fun I w v h => h
    · exfalso; subst hA; simp [std] at h; rw [hw] at h; omega
  · have c40 := f40 e.ll e.lx e.ly e.ln (left - e.nm.size) h3 (by omega) (by omega)
    refine ⟨szS (left - e.nm.size) e.ln.size, ?_⟩
    refine Fun.of_wp tok mixed Try.func11 (by kernel_rfl) rfl Try.ntmps11 rfl ?_
    generalize hs : szS (left - e.nm.size) e.ln.size = z at *
    have hz : z < 0 → z = -1 := by intro h; subst hs; unfold szS at *; split <;> omega
    generalize hA : std = A
    generalize hP : Try.prog = P at *
    cbv
    refine And.intro (fun h => ?_) (fun h => ?_)
    · exfalso; subst hA; simp [std] at h; rw [hw] at h; omega
    · cbv
      refine ⟨_, _, ?_, c40, ?_⟩
      · refine ⟨AV.le_refl _, AV.le_of_eq ?_, trivial⟩
        subst hA; simp [std, iv]; exact hw
      cbv
      refine And.intro (fun h => ?_) (fun h => ?_) <;> first | (cases h; done) | cbv
      · subst hA; simp [std] at h; rw [hz h]; exact fun I w v h => h
      · exact fun I w v h => h
/-- toEdit -/
theorem f13 (e : Edt) : Fun Try.prog 13 [.agg (edL e)] (.agg (edL e)) := by
  refine Fun.of_wp tok mixed Try.func13 (by kernel_rfl) rfl Try.ntmps13 rfl ?_
  generalize hA : std = A
  generalize hP : Try.prog = P
  have c49 := f49 e.sl e.sa e.sb e.sp e.sq; rw [hP] at c49
  have c50 := f50 e.ll e.lx e.ly e.ln; rw [hP] at c50
  have c51 := f51 e.jc e.jt e.jx e.jy e.jco e.jro e.jsx e.jsy; rw [hP] at c51
  cbv
  refine ⟨_, _, les_refl _, c49, ?_⟩
  cbv
  refine ⟨_, _, les_refl _, c50, ?_⟩
  cbv
  refine ⟨_, _, les_refl _, c51, ?_⟩
  cbv
  exact fun I w v h => h
/-- FnExactIsValidEdit -/
theorem f3 (e : Edt) (h1 : e.nm.size < 2 ^ 63) (h2 : e.ln.size < 2 ^ 63) : Fun Try.prog 3 [.agg (edL e)] (bv true) := by
  refine Fun.of_wp tok mixed Try.func3 (by kernel_rfl) rfl Try.ntmps3 rfl ?_
  obtain ⟨z, c11⟩ := f11 e 1048576 h1 h2 (by omega) (by omega)
  have c13 := f13 e
  have c12 := f12 e h1 h2
  have c14 := f14 e h1 h2
  generalize hV : editOk e = V at *
  generalize hA : std = A
  generalize hP : Try.prog = P at *
  cbv
  repeat' (first
    | (refine And.intro (fun h => ?_) (fun h => ?_) <;> first | (cases h; done) | cbv)
    | (refine ⟨_, _, les_refl _, c11, ?_⟩; cbv)
    | (refine ⟨_, _, les_refl _, c13, ?_⟩; cbv)
    | (refine ⟨_, _, les_refl _, c12, ?_⟩; cbv)
    | (refine ⟨_, _, les_refl _, c14, ?_⟩; cbv))
  all_goals first
    | exact fun I w v h => h
    | (subst hA; simp [std] at h)
theorem okWide_agg {P : Program} {W : World} {r : Reach} {base : Nat} {t : TypeId} {v : Value} {fs : Array Field} (ht : P.underlying t = some (.struct fs)) (h : Value.okWide P W r base t v) : ∃ cs, v = .agg cs := by
  unfold Value.okWide at h
  rw [ht] at h
  obtain ⟨cs, h, _⟩ := h
  exact ⟨cs, h⟩
theorem shape_edit {l : List AC} (h : Shape T 5 35 l) : ∃ e : Edt, l = edL e ∧ e.nm.size < 2 ^ 63 ∧ e.ln.size < 2 ^ 63 := by
  obtain ⟨_, _, rfl, ⟨k, rfl, _⟩, _, _, rfl, ⟨c, rfl, _⟩, _, _, rfl, ⟨i, rfl, _⟩, _, _, rfl, ⟨nm, rfl, hnm⟩, _, _, rfl, ⟨_, _, rfl, ⟨sl, rfl, _⟩, _, _, rfl, ⟨_, _, rfl, ⟨sa, rfl, _⟩, _, _, rfl, ⟨sb, rfl, _⟩, _, _, rfl, ⟨sp, rfl, _⟩, _, _, rfl, ⟨sq, rfl, _⟩, rfl⟩, rfl⟩, _, _, rfl, ⟨_, _, rfl, ⟨ll, rfl, _⟩, _, _, rfl, ⟨_, _, rfl, ⟨lx, rfl, _⟩, _, _, rfl, ⟨ly, rfl, _⟩, rfl⟩, _, _, rfl, ⟨ln, rfl, hln⟩, rfl⟩, _, _, rfl, ⟨_, _, rfl, ⟨jc, rfl, _⟩, _, _, rfl, ⟨_, _, rfl, ⟨jt, rfl, _⟩, _, _, rfl, ⟨jx, rfl, _⟩, _, _, rfl, ⟨jy, rfl, _⟩, rfl⟩, _, _, rfl, ⟨jco, rfl, _⟩, _, _, rfl, ⟨jro, rfl, _⟩, _, _, rfl, ⟨jsx, rfl, _⟩, _, _, rfl, ⟨jsy, rfl, _⟩, rfl⟩, rfl⟩ := h
  exact ⟨⟨k, c, i, nm, sl, sa, sb, sp, sq, ll, lx, ly, ln, jc, jt, jx, jy, jco, jro, jsx, jsy⟩, rfl, Nat.lt_of_le_of_lt hnm (by decide +kernel), Nat.lt_of_le_of_lt hln (by decide +kernel)⟩
/-- an edit given as argument -/
theorem open_edit {H : Type} {enc : TypeId × Value → H} {W : World} {spare : Nat → Bool} {held : Bool} {r : Reach} {base : Nat} {v : Value} {x : DataW H} {ps : List MemPlace}
    (hv : Value.okWide Try.prog W r base 35 v) (h : DataW.Trod enc Try.prog W 0 spare held 35 v x ps) : ∃ e : Edt, (e.nm.size < 2 ^ 63 ∧ e.ln.size < 2 ^ 63) ∧ RelV (RelI (fun b => b < W.heap.size) W) (.agg (edL e)) v := by
  obtain ⟨a, hv⟩ := okWide_agg (tok 35 d35 rfl).1 hv
  obtain ⟨cs, hs, hr⟩ := open_agg tok (d := 5) (by kernel_rfl) hv h
  obtain ⟨e, rfl, h1, h2⟩ := shape_edit hs
  exact ⟨e, ⟨h1, h2⟩, hr⟩
end Go.Proofs.Ytcfmllknnfoghaa.AM
