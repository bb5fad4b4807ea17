/-
  What the functions that the law reaches compute, and that they do. No condition.
-/
import Derived.Test.YtmdlnjeppemipaaAmVY
import Derived.Test.YtmdlnjeppemipaaAmP
import Derived.Test.YtmdlnjeppemipaaAmVZ
namespace Go.Proofs.Ytmdlnjeppemipaa.AM
open Go Go.Proofs Go.RowKit
set_option linter.unusedVariables false
set_option linter.unusedSimpArgs false
set_option maxRecDepth 100000

/- what is drawn: it is drawn, and it is small -/
def Tot {α : Type} (x : Option α) (Q : α → Prop) : Prop := ∃ r, x = some r ∧ Q r
theorem Tot.ret {α : Type} {r : α} {Q : α → Prop} (h : Q r) : Tot (some r) Q := ⟨r, rfl, h⟩
theorem Tot.bind {α β : Type} {x : Option α} {f : α → Option β} {P : α → Prop} {Q : β → Prop} (h : Tot x P) (g : ∀ r, P r → Tot (f r) Q) : Tot (x.bind f) Q := by
  obtain ⟨r, h1, h2⟩ := h
  rw [h1]
  exact g r h2
theorem Tot.req {α : Type} {p : Prop} {k : Option α} {Q : α → Prop} (h : p) (g : Tot k Q) : Tot (Go.Proofs.Ytmdlnjeppemipaa.AM.req p k) Q := by rw [req_of h]; exact g
theorem Tot.br {α : Type} {b : Bool} {x y : Option α} {Q : α → Prop} (h1 : b = true → Tot x Q) (h2 : b = false → Tot y Q) : Tot (Go.Proofs.Ytmdlnjeppemipaa.AM.br b x y) Q := by
  cases b with
  | true => exact h1 rfl
  | false => exact h2 rfl
theorem Tot.letO {α β : Type} {e : α} {f : α → Option β} {Q : β → Prop} (h : Tot (f e) Q) : Tot (Go.Proofs.Ytmdlnjeppemipaa.AM.letO e f) Q := h
theorem Tot.mono {α : Type} {x : Option α} {P Q : α → Prop} (h : Tot x P) (g : ∀ r, P r → Q r) : Tot x Q := by
  obtain ⟨r, h1, h2⟩ := h
  exact ⟨r, h1, g r h2⟩
theorem Tot.whileP {σ ρ : Type} {step : σ → Option (σ ⊕ ρ)} {x0 : σ} {Post : ρ → Prop} (Inv : σ → Prop) (μ : σ → Nat) (h0 : Inv x0)
    (h : ∀ x, Inv x → Tot (step x) fun r => match r with | .inl x' => Inv x' ∧ μ x' < μ x | .inr r => Post r) : Tot (Go.Proofs.Ytmdlnjeppemipaa.AM.whileP step x0) Post := by
  refine while_ex Inv Post μ h0 fun x hx => ?_
  obtain ⟨r, h1, h2⟩ := h x hx
  cases r with
  | inl x' => exact .inl ⟨x', h1, h2.1, h2.2⟩
  | inr r => exact .inr ⟨r, h1, h2⟩
def OKc (c : List Int) : Prop := c.length ≤ 4096 ∧ ∀ b ∈ c, 0 ≤ b ∧ b ≤ 255
structure OKs (s : Tl01Source) : Prop where
  code : OKc s.gcode
  at0 : 0 ≤ s.gat
  at1 : s.gat ≤ 4096
  seed0 : 0 ≤ s.gseed
  seed1 : s.gseed < 2147483647
theorem lt_dec {x y : Int} (h : std.lt x y = true) : x < y := of_decide_eq_true h
theorem lt_decf {x y : Int} (h : std.lt x y = false) : y ≤ x := by
  have := of_decide_eq_false (show decide (x < y) = false from h); omega
theorem le_dec {x y : Int} (h : std.le x y = true) : x ≤ y := of_decide_eq_true h
theorem le_decf {x y : Int} (h : std.le x y = false) : y < x := by
  have := of_decide_eq_false (show decide (x ≤ y) = false from h); omega
theorem remB {x m : Int} (hx : 0 ≤ x) (hm : 0 < m) : 0 ≤ std.rem x m ∧ std.rem x m < m := by
  show 0 ≤ Int.tmod x m ∧ Int.tmod x m < m
  rw [Int.tmod_eq_emod_of_nonneg hx]
  exact ⟨Int.emod_nonneg _ (by omega), Int.emod_lt_of_pos _ hm⟩
theorem quoB {x m : Int} (hx : 0 ≤ x) (hx2 : x < 4611686018427387904) (hm : 0 < m) : 0 ≤ std.quo .i64 x m := by
  show 0 ≤ IntKind.i64.wrap (Int.tdiv x m)
  have h1 : Int.tdiv x m = x / m := Int.tdiv_eq_ediv_of_nonneg hx
  have h2 : 0 ≤ x / m := Int.ediv_nonneg hx (by omega)
  have h3 : x / m ≤ x := Int.ediv_le_self _ hx
  rw [h1, wrap_id (by omega) (by omega)]
  exact h2
theorem conv_id {x : Int} (h : 0 ≤ x ∧ x ≤ 255) : std.conv .i64 x = x := wrap_id (by omega) (by omega)
theorem gd_byte {c : List Int} (h : OKc c) {i : Int} (h0 : 0 ≤ i) (h1 : i < (c.length : Int)) : 0 ≤ gd c (std.toN i) ∧ gd c (std.toN i) ≤ 255 := by
  obtain ⟨n, rfl⟩ := Int.eq_ofNat_of_zero_le h0
  rw [s_toNn]
  exact h.2 _ (gd_mem (by omega))
theorem mulS {x y : Int} (h : -9223372036854775808 ≤ x * y) (g : x * y < 9223372036854775808) : std.mul .i64 x y = x * y := wrap_id h g
/-- the next number -/
theorem next_ok {s : Tl01Source} (hs : OKs s) {n : Int} (hn : n ≤ 1000000) : Tot (F_spec_l01Next_mPbb s n) fun r => OKs r.2 ∧ 0 ≤ r.1 ∧ (r.1 < n ∨ r.1 = 0) := by
  obtain ⟨hc, h0, h1, s0, s1⟩ := hs
  unfold F_spec_l01Next_mPbb
  have hm : std.mul .i64 s.gseed 48271 = s.gseed * 48271 := mulS (by omega) (by omega)
  refine Tot.br (fun h => Tot.ret ⟨⟨hc, h0, h1, s0, s1⟩, Int.le_refl _, .inr rfl⟩) fun h => ?_
  have hn1 := le_decf h
  have hnz : std.nz n := by show n ≠ 0; omega
  refine Tot.br (fun h => ?_) fun h => ?_
  · have hlt := lt_dec h
    rw [s_ofN, len_eq] at hlt
    obtain ⟨b0, b1⟩ := gd_byte hc h0 hlt
    have hl := hc.1
    have ha : std.add .i64 s.gat 1 = s.gat + 1 := add_id (by omega) (by omega)
    refine Tot.req ⟨h0, by rw [len_eq]; exact hlt⟩ (Tot.br (fun _ => ?_) fun _ => ?_)
    · rw [hm, conv_id ⟨b0, b1⟩, add_id (x := s.gseed * 48271) (by omega) (by omega), add_id (by omega) (by omega), ha]
      obtain ⟨r0, r1⟩ := remB (x := s.gseed * 48271 + gd s.gcode (std.toN s.gat) + 1) (m := 2147483647) (by omega) (by omega)
      obtain ⟨q0, q1⟩ := remB (m := n) r0 (by omega)
      exact Tot.req (by show (2147483647 : Int) ≠ 0; omega) (Tot.req hnz (Tot.ret ⟨⟨hc, by show 0 ≤ s.gat + 1; omega, by show s.gat + 1 ≤ 4096; omega, r0, r1⟩, q0, .inl q1⟩))
    · rw [conv_id ⟨b0, b1⟩, ha]
      obtain ⟨q0, q1⟩ := remB (m := n) b0 (by omega)
      exact Tot.req hnz (Tot.ret ⟨⟨hc, by show 0 ≤ s.gat + 1; omega, by show s.gat + 1 ≤ 4096; omega, s0, s1⟩, q0, .inl q1⟩)
  · rw [hm, add_id (by omega) (by omega)]
    obtain ⟨r0, r1⟩ := remB (x := s.gseed * 48271 + 11) (m := 2147483647) (by omega) (by omega)
    have q := quoB (m := 7) r0 (by omega) (by omega)
    obtain ⟨q0, q1⟩ := remB (m := n) q (by omega)
    exact Tot.req (by show (2147483647 : Int) ≠ 0; omega) (Tot.req (by show (7 : Int) ≠ 0; omega) (Tot.req hnz (Tot.ret ⟨⟨hc, h0, h1, r0, r1⟩, q0, .inl q1⟩)))
theorem from_ok {c : List Int} (hc : OKc c) : Tot (F_spec_l01From c) OKs := by
  unfold F_spec_l01From
  have hl := hc.1
  refine Tot.bind (P := fun v : Int => 0 ≤ v ∧ v < 2147483647) (Tot.whileP (fun x : Int × Int => 0 ≤ x.1 ∧ x.1 ≤ 64 ∧ 0 ≤ x.2 ∧ x.2 < 2147483647) (fun x => (64 - x.1).toNat) (by simp) fun x hx => ?_) fun v hv => Tot.ret ⟨hc, Int.le_refl _, by simp, hv.1, hv.2⟩
  obtain ⟨v1, v2⟩ := x
  obtain ⟨x0, x1, y0, y1⟩ := hx
  simp only at x0 x1 y0 y1
  unfold L_spec_l01From_x3
  simp only [letO_eq]
  refine Tot.bind (P := fun b => b = true → v1 < (c.length : Int) ∧ v1 < 64) (Tot.br (fun h => Tot.ret fun g => ?_) fun h => Tot.ret fun g => by cases g) fun b hb => Tot.br (fun h => ?_) fun h => ?_
  · have h1 := lt_dec h
    rw [s_ofN, len_eq] at h1
    exact ⟨h1, lt_dec g⟩
  · obtain ⟨h1, h2⟩ := hb h
    obtain ⟨b0, b1⟩ := gd_byte hc x0 h1
    have hm : std.mul .i64 v2 31 = v2 * 31 := mulS (by omega) (by omega)
    rw [hm, conv_id ⟨b0, b1⟩, add_id (x := v2 * 31) (by omega) (by omega), add_id (x := v1) (by omega) (by omega)]
    obtain ⟨r0, r1⟩ := remB (x := v2 * 31 + gd c (std.toN v1)) (m := 2147483647) (by omega) (by omega)
    exact Tot.req ⟨x0, by rw [len_eq]; exact h1⟩ (Tot.req (by show (2147483647 : Int) ≠ 0; omega) (Tot.ret ⟨⟨by show 0 ≤ v1 + 1; omega, by show v1 + 1 ≤ 64; omega, r0, r1⟩, by show (64 - (v1 + 1)).toNat < (64 - v1).toNat; omega⟩))
  · exact Tot.ret ⟨y0, y1⟩
/- draws of libraries -/
theorem ofBytes_size (n : Nat) (g : Nat → Int) : (std.ofBytes n g).size = n := by
  show (((List.range n).map fun i => UInt8.ofNat (g i).toNat).toArray).size = n
  simp
theorem roomS {n b : Nat} (hn : n ≤ 1000) (hb : b ≤ 1000) : std.room n b := by
  show n * b ≤ 35184372088832
  exact Nat.le_trans (Nat.mul_le_mul hn hb) (by omega)
theorem nextS {s : Tl01Source} (hs : OKs s) {n : Int} (hn : n ≤ 1000000) {β : Type} {f : Int × Tl01Source → Option β} {Q : β → Prop} (g : ∀ v s', OKs s' → 0 ≤ v → (v < n ∨ v = 0) → Tot (f (v, s')) Q) : Tot ((F_spec_l01Next_mPbb s n).bind f) Q :=
  Tot.bind (next_ok hs hn) fun r hr => g r.1 r.2 hr.1 hr.2.1 hr.2.2
theorem box_ok {s : Tl01Source} (hs : OKs s) : Tot (F_spec_l09DrawBox_mPb s) fun r => OKs r.2 := by
  unfold F_spec_l09DrawBox_mPb
  exact nextS hs (by omega) fun _ _ h _ _ => nextS h (by omega) fun _ _ h _ _ => nextS h (by omega) fun _ _ h _ _ => nextS h (by omega) fun _ _ h _ _ => Tot.ret h
theorem shape_ok {s : Tl01Source} (hs : OKs s) : Tot (F_spec_l09DrawShape_mPb s) fun r => OKs r.2 := by
  unfold F_spec_l09DrawShape_mPb
  exact nextS hs (by omega) fun _ _ h _ _ => Tot.bind (box_ok h) fun r hr => Tot.ret hr
theorem inst_ok {s : Tl01Source} (hs : OKs s) {n : Int} (hn : n ≤ 1000000) : Tot (F_spec_l09DrawInstance_mPbb s n) fun r => OKs r.2 := by
  unfold F_spec_l09DrawInstance_mPbb
  simp only [letO_eq]
  refine nextS hs hn fun _ _ h _ _ => nextS h (by omega) fun _ _ h _ _ => nextS h (by omega) fun _ _ h _ _ => nextS h (by omega) fun _ _ h _ _ => nextS h (by omega) fun _ _ h _ _ => ?_
  refine Tot.bind (P := fun y : List Int × Int × Int × Int × Int => OKs ⟨y.1, y.2.1, y.2.2.1⟩) (Tot.br (fun _ => nextS h (by omega) fun _ _ h _ _ => nextS h (by omega) fun _ _ h _ _ => Tot.ret h) fun _ => Tot.ret h) fun y hy => ?_
  refine nextS hy (by omega) fun _ _ h _ _ => ?_
  refine Tot.bind (P := fun y : List Int × Int × Int × Int × Int => OKs ⟨y.1, y.2.1, y.2.2.1⟩) (Tot.br (fun _ => nextS h (by omega) fun _ _ h _ _ => Tot.ret h) fun _ => Tot.ret h) fun y hy => ?_
  refine nextS hy (by omega) fun _ _ h _ _ => ?_
  exact Tot.bind (P := fun _ : Int => True) (Tot.br (fun _ => Tot.ret trivial) fun _ => Tot.ret trivial) fun _ _ => Tot.ret h
theorem name_ok {s : Tl01Source} (hs : OKs s) : Tot (F_spec_l09DrawName_mPb s) fun r => OKs r.2 ∧ r.1.size ≤ 3 := by
  unfold F_spec_l09DrawName_mPb
  simp only [letO_eq]
  refine nextS hs (by omega) fun v s' h h0 h1 => ?_
  refine Tot.bind (P := fun y : List Int × List Int × Int × Int => OKs ⟨y.2.1, y.2.2.1, y.2.2.2⟩ ∧ y.1.length ≤ 3) (Tot.whileP (fun x : Int × List Int × Int × Int × List Int => OKs ⟨x.2.1, x.2.2.1, x.2.2.2.1⟩ ∧ 0 ≤ x.1 ∧ (x.2.2.2.2.length : Int) + x.1 ≤ 3) (fun x => x.1.toNat) ?_ fun x hx => ?_) fun y hy => Tot.ret ⟨hy.1, by
      rw [ofBytes_size, len_eq]; exact hy.2⟩
  · have : std.add .i64 1 v = 1 + v := add_id (by omega) (by omega)
    refine ⟨h, ?_, ?_⟩
    · simp only [this]; omega
    · simp only [this, List.length_nil]; omega
  · obtain ⟨k, c, at', sd, l⟩ := x
    obtain ⟨g1, g2, g3⟩ := hx
    simp only at g1 g2 g3
    simp only [L_spec_l09DrawName_mPb_x10, letO_eq]
    refine Tot.br (fun hk => ?_) fun hk => Tot.ret ⟨g1, by simp only; omega⟩
    have hk' := lt_dec hk
    refine nextS g1 (by omega) fun w s2 g4 g5 g6 => ?_
    have hsz : (ByteArray.mk #[97, 98, 99, 100, 120, 121, 122, 48, 49, 57]).size = 10 := rfl
    refine Tot.req ⟨g5, by rw [s_slen, hsz]; omega⟩ (Tot.req (roomS (by rw [s_nadd, len_eq, len_eq, List.length_singleton]; omega) (by omega)) (Tot.ret ⟨⟨g4, ?_, ?_⟩, ?_⟩))
    · simp only [sub_id (x := k) (y := 1) (by omega) (by omega)]; omega
    · simp only [sub_id (x := k) (y := 1) (by omega) (by omega), List.length_append, List.length_singleton]; omega
    · simp only [sub_id (x := k) (y := 1) (by omega) (by omega)]; omega
theorem label_ok {s : Tl01Source} (hs : OKs s) : Tot (F_spec_l09DrawLabel_mPb s) fun r => OKs r.2 ∧ r.1.fName.size ≤ 3 := by
  unfold F_spec_l09DrawLabel_mPb
  exact nextS hs (by omega) fun _ _ h _ _ => nextS h (by omega) fun _ _ h _ _ => nextS h (by omega) fun _ _ h _ _ => Tot.bind (name_ok h) fun r hr => Tot.ret hr
/-- what a drawn cell is -/
structure CB (n : Nat) (c : TCell) : Prop where
  name : c.fName.size ≤ 100
  shapes : c.fShapes.length ≤ n
  labels : c.fLabels.length ≤ n
  insts : c.fInstances.length ≤ n
  lnames : ∀ l ∈ c.fLabels, l.fName.size ≤ 100
theorem CB.le {n m : Nat} {c : TCell} (h : CB n c) (hn : n ≤ m) : CB m c := ⟨h.name, Nat.le_trans h.shapes hn, Nat.le_trans h.labels hn, Nat.le_trans h.insts hn, h.lnames⟩
theorem sub1 {k : Int} (h : -1000000 ≤ k ∧ k ≤ 1000000) : std.sub .i64 k 1 = k - 1 := sub_id (by omega) (by omega)
theorem add1 {k : Int} (h : -1000000 ≤ k ∧ k ≤ 1000000) : std.add .i64 k 1 = k + 1 := add_id (by omega) (by omega)
theorem and_dec {a b : Bool} {x y : Option Bool} : True := trivial
theorem library_ok {s : Tl01Source} (hs : OKs s) : Tot (F_spec_l09DrawLibrary_mPb s) fun r => OKs r.2 ∧ 1 ≤ r.1.fCells.length ∧ r.1.fCells.length ≤ 4 ∧ ∀ c ∈ r.1.fCells, CB 4 c := by
  unfold F_spec_l09DrawLibrary_mPb
  simp only [letO_eq]
  refine nextS hs (by omega) fun v s' h h0 h1 => ?_
  refine Tot.bind (P := fun y : List Int × Int × Int × List TCell => OKs ⟨y.1, y.2.1, y.2.2.1⟩ ∧ 1 ≤ y.2.2.2.length ∧ y.2.2.2.length ≤ 4 ∧ ∀ c ∈ y.2.2.2, CB 4 c)
    (Tot.whileP (fun x : Int × List Int × Int × Int × List TCell => OKs ⟨x.2.1, x.2.2.1, x.2.2.2.1⟩ ∧ (x.2.2.2.2.length : Int) = x.1 ∧ x.1 ≤ 1 + v ∧ ∀ c ∈ x.2.2.2.2, CB 4 c) (fun x => (5 - x.1).toNat) ?_ fun x hx => ?_) fun y hy => Tot.ret hy
  · exact ⟨h, rfl, by show (0 : Int) ≤ 1 + v; omega, fun c hc => by cases hc⟩
  · obtain ⟨i, c, at', sd, l⟩ := x
    obtain ⟨g1, g2, g3, g4⟩ := hx
    simp only at g1 g2 g3 g4
    have e1 : std.add .i64 1 v = 1 + v := add_id (by omega) (by omega)
    simp only [L_spec_l09DrawLibrary_mPb_x8, letO_eq, e1]
    refine Tot.br (fun hk => ?_) fun hk => ?_
    · have hk' := lt_dec hk
      refine Tot.bind (name_ok g1) fun r hr => ?_
      refine Tot.req (roomS (by rw [s_nadd, s_slen, s_slen, ofBytes_size, len_eq, List.length_singleton]; omega) (by omega)) ?_
      refine nextS hr.1 (by omega) fun v2 s2 k1 k2 k3 => ?_
      -- shapes
      refine Tot.bind (P := fun y : List Int × Int × Int × List TShape => OKs ⟨y.1, y.2.1, y.2.2.1⟩ ∧ y.2.2.2.length ≤ 4) (Tot.whileP (fun x : Int × List Int × Int × Int × List TShape => OKs ⟨x.2.1, x.2.2.1, x.2.2.2.1⟩ ∧ 0 ≤ x.1 ∧ (x.2.2.2.2.length : Int) + x.1 ≤ 4) (fun x => x.1.toNat) ⟨k1, k2, by simp only [List.length_nil]; omega⟩ fun x hx => ?_) fun y1 p1 => ?_
      · obtain ⟨k, c, at', sd, l⟩ := x
        obtain ⟨q1, q2, q3⟩ := hx
        simp only at q1 q2 q3
        simp only [L_spec_l09DrawLibrary_mPb_x32, letO_eq]
        refine Tot.br (fun hk => ?_) fun hk => Tot.ret ⟨q1, by simp only; omega⟩
        have hk' := lt_dec hk
        refine Tot.bind (shape_ok q1) fun r hr => Tot.req (roomS (by rw [s_nadd, len_eq, len_eq, List.length_singleton]; omega) (by omega)) (Tot.ret ?_)
        rw [sub1 (by omega)]
        exact ⟨⟨hr, by simp only; omega, by simp only [List.length_append, List.length_singleton]; omega⟩, by simp only; omega⟩
      refine nextS p1.1 (by omega) fun v3 s3 k4 k5 k6 => ?_
      -- labels
      refine Tot.bind (P := fun y : List Int × Int × Int × List TLabel => OKs ⟨y.1, y.2.1, y.2.2.1⟩ ∧ y.2.2.2.length ≤ 4 ∧ ∀ l ∈ y.2.2.2, l.fName.size ≤ 100) (Tot.whileP (fun x : Int × List Int × Int × Int × List TLabel => OKs ⟨x.2.1, x.2.2.1, x.2.2.2.1⟩ ∧ 0 ≤ x.1 ∧ (x.2.2.2.2.length : Int) + x.1 ≤ 4 ∧ ∀ l ∈ x.2.2.2.2, l.fName.size ≤ 100) (fun x => x.1.toNat) ⟨k4, k5, by simp only [List.length_nil]; omega, fun l hl => by cases hl⟩ fun x hx => ?_) fun y2 p2 => ?_
      · obtain ⟨k, c, at', sd, l⟩ := x
        obtain ⟨q1, q2, q3, q4⟩ := hx
        simp only at q1 q2 q3 q4
        simp only [L_spec_l09DrawLibrary_mPb_x63, letO_eq]
        refine Tot.br (fun hk => ?_) fun hk => Tot.ret ⟨q1, by simp only; omega, q4⟩
        have hk' := lt_dec hk
        refine Tot.bind (label_ok q1) fun r hr => Tot.req (roomS (by rw [s_nadd, len_eq, len_eq, List.length_singleton]; omega) (by omega)) (Tot.ret ?_)
        rw [sub1 (by omega)]
        refine ⟨⟨hr.1, by simp only; omega, by simp only [List.length_append, List.length_singleton]; omega, fun l hl => ?_⟩, by simp only; omega⟩
        rcases List.mem_append.1 hl with hl | hl
        · exact q4 l hl
        · rw [List.mem_singleton] at hl; rw [hl]; have := hr.2; omega
      refine nextS p2.1 (by omega) fun v4 s4 k7 k8 k9 => ?_
      -- instances
      refine Tot.bind (P := fun y : List Int × Int × Int × List TInstance => OKs ⟨y.1, y.2.1, y.2.2.1⟩ ∧ y.2.2.2.length ≤ 4) (Tot.whileP (fun x : Int × List Int × Int × Int × List TInstance => OKs ⟨x.2.1, x.2.2.1, x.2.2.2.1⟩ ∧ 0 ≤ x.1 ∧ (x.2.2.2.2.length : Int) + x.1 ≤ 4) (fun x => x.1.toNat) ⟨k7, k8, by simp only [List.length_nil]; omega⟩ fun x hx => ?_) fun y3 p3 => ?_
      · obtain ⟨k, c, at', sd, l⟩ := x
        obtain ⟨q1, q2, q3⟩ := hx
        simp only at q1 q2 q3
        simp only [L_spec_l09DrawLibrary_mPb_x94, letO_eq]
        refine Tot.bind (P := fun b => b = true → 0 < k) (Tot.br (fun hh => Tot.ret fun _ => lt_dec hh) fun _ => Tot.ret fun hh => by cases hh) fun b hb => Tot.br (fun hk => ?_) fun hk => Tot.ret ⟨q1, by simp only; omega⟩
        have hk' := hb hk
        refine Tot.bind (inst_ok q1 (by omega)) fun r hr => Tot.req (roomS (by rw [s_nadd, len_eq, len_eq, List.length_singleton]; omega) (by omega)) (Tot.ret ?_)
        rw [sub1 (by omega)]
        exact ⟨⟨hr, by simp only; omega, by simp only [List.length_append, List.length_singleton]; omega⟩, by simp only; omega⟩
      have hcb : CB 4 (TCell.mk (std.scat (std.ofBytes (len [std.conv .u8 (std.add .i64 97 i)]) (fun j => gd [std.conv .u8 (std.add .i64 97 i)] (0 + j))) r.1) y1.2.2.2 y2.2.2.2 y3.2.2.2) := by
        refine ⟨?_, p1.2, p2.2.1, p3.2, p2.2.2⟩
        show (_ ++ _ : ByteArray).size ≤ 100
        rw [ByteArray.size_append, ofBytes_size, len_eq, List.length_singleton]
        have := hr.2; omega
      refine Tot.bind (P := fun y => y = l ++ [TCell.mk (std.scat (std.ofBytes (len [std.conv .u8 (std.add .i64 97 i)]) (fun j => gd [std.conv .u8 (std.add .i64 97 i)] (0 + j))) r.1) y1.2.2.2 y2.2.2.2 y3.2.2.2]) (Tot.req (roomS (by rw [s_nadd, len_eq, len_eq, List.length_singleton]; omega) (by omega)) (Tot.ret rfl)) fun y hy => Tot.ret ?_
      subst hy
      rw [add1 (by omega)]
      refine ⟨⟨p3.1, ?_, by simp only; omega, fun c hc => ?_⟩, by simp only; omega⟩
      · simp only [List.length_append, List.length_singleton]; omega
      · rcases List.mem_append.1 hc with hc | hc
        · exact g4 c hc
        · rw [List.mem_singleton] at hc; rw [hc]; exact hcb
    · have := lt_decf hk
      exact Tot.ret ⟨g1, by simp only; omega, by simp only; omega, g4⟩
/- draws of libraries that are mostly valid -/
theorem set_CB {n : Nat} {l : List TCell} {i : Nat} {x : TCell} (h : ∀ c ∈ l, CB n c) (hx : CB n x) : ∀ c ∈ l.set i x, CB n c := by
  intro c hc
  rcases List.mem_or_eq_of_mem_set hc with h1 | h1
  · exact h c h1
  · rw [h1]; exact hx
def PB (m : Nat) (y : List Int × Int × Int × List TCell) : Prop := OKs ⟨y.1, y.2.1, y.2.2.1⟩ ∧ y.2.2.2.length = m ∧ ∀ c ∈ y.2.2.2, CB 40 c
theorem index_ok {s : Tl01Source} (hs : OKs s) (a : TLibrary) (ha : a.fCells.length ≤ 1000) : Tot (F_spec_l09DrawIndex_mPbo s a) fun r => OKs r.2.1 ∧ r.2.2 = a.fCells := by
  unfold F_spec_l09DrawIndex_mPbo
  simp only [letO_eq]
  refine nextS hs (by omega) fun v s' h h0 h1 => Tot.br (fun _ => ?_) fun _ => ?_
  · refine nextS h (by omega) fun w s2 g g0 g1 => Tot.req ⟨g0, by rw [len_eq]; simp only [List.length_cons, List.length_nil]; omega⟩ (Tot.ret ⟨g, rfl⟩)
  · exact nextS h (by rw [s_ofN, len_eq]; omega) fun w s2 g g0 g1 => Tot.ret ⟨g, rfl⟩
set_option maxHeartbeats 1000000 in
theorem any_ok {s : Tl01Source} (hs : OKs s) : Tot (F_spec_l09DrawAny_mPb s) fun r => OKs r.2 ∧ r.1.fCells.length ≤ 4 ∧ ∀ c ∈ r.1.fCells, CB 40 c := by
  unfold F_spec_l09DrawAny_mPb
  simp only [letO_eq]
  refine Tot.bind (library_ok hs) fun y1 hy1 => ?_
  obtain ⟨⟨L⟩, s1⟩ := y1
  obtain ⟨k1, k2, k3, k4⟩ := hy1
  simp only at k1 k2 k3 k4
  refine nextS k1 (by rw [s_ofN, len_eq]; simp only; omega) fun v s2 g g0 g1 => ?_
  have hv : v < (L.length : Int) := by rw [s_ofN, len_eq] at g1; simp only at g1; omega
  obtain ⟨i, rfl⟩ := Int.eq_ofNat_of_zero_le g0
  have hi : i < L.length := by omega
  refine Tot.req (inRl hi) ?_
  simp only [s_toNn, s_nadd, Nat.zero_add]
  have c0 : CB 4 (gd L i) := k4 _ (gd_mem hi)
  have all40 : ∀ c ∈ L, CB 40 c := fun c hc => (k4 c hc).le (by omega)
  refine nextS g (by omega) fun w s3 h h0 h1 => ?_
  refine Tot.bind (P := fun y : List TCell × List Int × Int × Int => OKs ⟨y.2.1, y.2.2.1, y.2.2.2⟩ ∧ y.1.length = L.length ∧ ∀ c ∈ y.1, CB 40 c) (Tot.br (fun _ => ?_) fun _ => ?_) fun y hy => Tot.req (by rw [len_eq, len_eq, hy.2.1]) (Tot.ret ⟨hy.1, by show y.1.length ≤ 4; omega, hy.2.2⟩)
  · refine Tot.bind (P := fun y : List TCell => y.length = L.length ∧ ∀ c ∈ y, CB 40 c) (Tot.req (inRl (i := 0) (by omega)) (Tot.ret ⟨by simp, set_CB all40 ?_⟩)) fun y hy => Tot.ret ⟨h, hy⟩
    have := (k4 _ (gd_mem (show 0 < L.length by omega))).name
    exact CB.le ⟨by show (gd L (std.toN 0)).fName.size ≤ 100; rw [show std.toN 0 = 0 from rfl]; exact this, c0.shapes, c0.labels, c0.insts, c0.lnames⟩ (by omega)
  · refine Tot.bind (P := PB L.length) (Tot.br (fun _ => ?_) fun _ => ?_) fun y hy => Tot.ret hy
    · refine Tot.bind (P := PB L.length) (nextS h (by omega) fun q s4 e e0 e1 => ?_) fun y hy => Tot.ret hy
      obtain ⟨q, rfl⟩ := Int.eq_ofNat_of_zero_le e0
      have hq : q < ([(ByteArray.mk #[]), (ByteArray.mk #[65]), (ByteArray.mk #[97, 98, 99, 100, 101, 102, 103, 104, 105]), (ByteArray.mk #[97, 32, 98])] : List ByteArray).length := by simp only [List.length_cons, List.length_nil]; omega
      refine Tot.req (inRl hq) (Tot.ret ⟨e, by simp, set_CB all40 ?_⟩)
      rw [s_toNn]
      have hm := gd_mem hq
      refine CB.le ⟨?_, c0.shapes, c0.labels, c0.insts, c0.lnames⟩ (by omega)
      have hz : ∀ x ∈ ([(ByteArray.mk #[]), (ByteArray.mk #[65]), (ByteArray.mk #[97, 98, 99, 100, 101, 102, 103, 104, 105]), (ByteArray.mk #[97, 32, 98])] : List ByteArray), x.size ≤ 100 := by decide
      exact hz _ hm
    · refine Tot.bind (P := PB L.length) (Tot.br (fun _ => ?_) fun _ => ?_) fun y hy => Tot.ret hy
      · refine Tot.bind (P := PB L.length) (nextS h (by omega) fun _ _ h _ _ => nextS h (by omega) fun _ _ h _ _ => nextS h (by omega) fun _ _ h _ _ => nextS h (by omega) fun _ _ h _ _ => nextS h (by omega) fun _ _ h _ _ => ?_) fun y hy => Tot.ret hy
        have := c0.shapes
        refine Tot.req (roomS (by simp only [s_nadd, len_eq, List.length_singleton]; omega) (by omega)) (Tot.ret ⟨h, by simp, set_CB all40 ⟨c0.name, by simp only [List.length_append, List.length_singleton]; omega, by have := c0.labels; simp only; omega, by have := c0.insts; simp only; omega, c0.lnames⟩⟩)
      · refine Tot.bind (P := PB L.length) (Tot.br (fun _ => ?_) fun _ => ?_) fun y hy => Tot.ret hy
        · have e1 : std.add .i64 (i : Int) 1 = (i : Int) + 1 := add1 (by omega)
          refine Tot.bind (inst_ok h (by rw [e1]; omega)) fun r hr => nextS hr (by omega) fun _ _ h _ _ => nextS h (by omega) fun _ _ h _ _ => ?_
          have := c0.insts
          refine Tot.bind (P := fun y : List TCell => y.length = L.length ∧ ∀ c ∈ y, CB 40 c) (Tot.req (roomS (by simp only [s_nadd, len_eq, List.length_singleton]; omega) (by omega)) (Tot.ret ⟨by simp, set_CB all40 ⟨c0.name, by have := c0.shapes; simp only; omega, by have := c0.labels; simp only; omega, by simp only [List.length_append, List.length_singleton]; omega, c0.lnames⟩⟩)) fun y hy => Tot.ret ⟨h, hy⟩
        · refine Tot.bind (P := PB L.length) (Tot.br (fun _ => ?_) fun _ => ?_) fun y hy => Tot.ret hy
          · refine Tot.bind (P := PB L.length) (nextS h (by omega) fun _ _ h _ _ => nextS h (by omega) fun _ _ h _ _ => nextS h (by omega) fun _ _ h _ _ => Tot.bind (name_ok h) fun r hr => ?_) fun y hy => Tot.ret hy
            have := c0.labels
            refine Tot.req (roomS (by simp only [s_nadd, len_eq, List.length_singleton]; omega) (by omega)) (Tot.ret ⟨hr.1, by simp, set_CB all40 ⟨c0.name, by have := c0.shapes; simp only; omega, by simp only [List.length_append, List.length_singleton]; omega, by have := c0.insts; simp only; omega, fun l hl => ?_⟩⟩)
            rcases List.mem_append.1 hl with hl | hl
            · exact c0.lnames l hl
            · rw [List.mem_singleton] at hl; rw [hl]; have := hr.2; simp only; omega
          · refine Tot.bind (P := PB L.length) (Tot.br (fun _ => ?_) fun _ => Tot.ret ⟨h, rfl, all40⟩) fun y hy => Tot.ret hy
            refine Tot.bind (P := PB L.length) (Tot.whileP (fun x : Int × List Int × Int × Int × List TCell => OKs ⟨x.2.1, x.2.2.1, x.2.2.2.1⟩ ∧ 0 ≤ x.1 ∧ x.1 ≤ 25 ∧ x.2.2.2.2.length = L.length ∧ ∀ c ∈ x.2.2.2.2, CB (4 + x.1.toNat) c) (fun x => (25 - x.1).toNat) ⟨h, Int.le_refl _, by simp, rfl, k4⟩ fun x hx => ?_) fun y hy => Tot.ret hy
            obtain ⟨j, c, at', sd, l⟩ := x
            obtain ⟨q1, q2, q3, q4, q5⟩ := hx
            simp only at q1 q2 q3 q4 q5
            simp only [L_spec_l09DrawAny_mPb_x167, letO_eq, s_toNn, s_nadd, Nat.zero_add]
            refine Tot.br (fun hk => ?_) fun hk => Tot.ret ⟨q1, q4, fun c hc => (q5 c hc).le (by omega)⟩
            have hk' := lt_dec hk
            have hil : i < l.length := by omega
            have ci := q5 _ (gd_mem hil)
            have hsh := ci.shapes
            refine Tot.bind (P := fun y : List Int × Int × Int × List TCell => OKs ⟨y.1, y.2.1, y.2.2.1⟩ ∧ y.2.2.2.length = L.length ∧ ∀ c ∈ y.2.2.2, CB (4 + (j.toNat + 1)) c) (Tot.bind (shape_ok q1) fun r hr => Tot.req (roomS (by simp only [s_nadd, len_eq, List.length_singleton]; omega) (by omega)) (Tot.req (by rw [len_eq, len_eq, q4]) (Tot.ret ⟨hr, by simp [q4], set_CB (n := 4 + (j.toNat + 1)) (fun c hc => (q5 c hc).le (by omega)) ⟨ci.name, by simp only [List.length_append, List.length_singleton]; omega, by have := ci.labels; simp only; omega, by have := ci.insts; simp only; omega, ci.lnames⟩⟩))) fun y hy => Tot.ret ?_
            rw [add1 (by omega)]
            exact ⟨⟨hy.1, by simp only; omega, by simp only; omega, hy.2.1, fun c hc => (hy.2.2 c hc).le (by simp only; omega)⟩, by simp only; omega⟩
theorem deep_ok {s : Tl01Source} (hs : OKs s) : Tot (F_spec_l10DrawDeep_mPb s) fun r => OKs r.2 ∧ r.1.fCells.length ≤ 4 ∧ ∀ c ∈ r.1.fCells, CB 40 c := by
  unfold F_spec_l10DrawDeep_mPb
  simp only [letO_eq]
  refine Tot.bind (P := fun y : List Int × Int × Int × List TCell => OKs ⟨y.1, y.2.1, y.2.2.1⟩ ∧ y.2.2.2.length ≤ 4 ∧ ∀ c ∈ y.2.2.2, CB 40 c)
    (Tot.whileP (fun x : Int × List Int × Int × Int × List TCell => OKs ⟨x.2.1, x.2.2.1, x.2.2.2.1⟩ ∧ (x.2.2.2.2.length : Int) = x.1 ∧ x.1 ≤ 4 ∧ ∀ c ∈ x.2.2.2.2, CB 40 c) (fun x => (4 - x.1).toNat) ⟨hs, rfl, by simp, fun c hc => by cases hc⟩ fun x hx => ?_) fun y hy => Tot.ret hy
  obtain ⟨i, c, at', sd, l⟩ := x
  obtain ⟨g1, g2, g3, g4⟩ := hx
  simp only at g1 g2 g3 g4
  simp only [L_spec_l10DrawDeep_mPb_x6, letO_eq]
  refine Tot.br (fun hk => ?_) fun hk => Tot.ret ⟨g1, by simp only; omega, g4⟩
  have hk' := lt_dec hk
  refine Tot.bind (shape_ok g1) fun r hr => nextS hr (by omega) fun v s2 h h0 h1 => ?_
  refine Tot.bind (P := fun y : List Int × Int × Int × List TInstance => OKs ⟨y.1, y.2.1, y.2.2.1⟩ ∧ y.2.2.2.length ≤ 4) (Tot.whileP (fun x : Int × List Int × Int × Int × List TInstance => OKs ⟨x.2.1, x.2.2.1, x.2.2.2.1⟩ ∧ 0 ≤ x.1 ∧ (x.2.2.2.2.length : Int) + x.1 ≤ 4) (fun x => x.1.toNat) ?_ fun x hx => ?_) fun y p => ?_
  · have e : std.add .i64 1 v = 1 + v := add_id (by omega) (by omega)
    exact ⟨h, by simp only [e]; omega, by simp only [e, List.length_nil]; omega⟩
  · obtain ⟨k, c, at', sd, l⟩ := x
    obtain ⟨q1, q2, q3⟩ := hx
    simp only at q1 q2 q3
    simp only [L_spec_l10DrawDeep_mPb_x31, letO_eq]
    refine Tot.bind (P := fun b => b = true → 0 < k) (Tot.br (fun hh => Tot.ret fun _ => lt_dec hh) fun _ => Tot.ret fun hh => by cases hh) fun b hb => Tot.br (fun hk => ?_) fun hk => Tot.ret ⟨q1, by simp only; omega⟩
    have hk' := hb hk
    refine Tot.bind (inst_ok q1 (by omega)) fun r hr => nextS hr (by omega) fun _ _ h _ _ => nextS h (by omega) fun _ _ h _ _ => nextS h (by omega) fun _ _ h _ _ => ?_
    refine Tot.bind (P := fun y : List Int × Int × Int × Int × Int => OKs ⟨y.1, y.2.1, y.2.2.1⟩) (Tot.br (fun _ => nextS h (by omega) fun _ _ h _ _ => nextS h (by omega) fun _ _ h _ _ => Tot.ret h) fun _ => Tot.ret h) fun y hy => ?_
    refine Tot.req (roomS (by simp only [s_nadd, len_eq, List.length_singleton]; omega) (by omega)) (Tot.ret ?_)
    rw [sub1 (by omega)]
    exact ⟨⟨hy, by simp only; omega, by simp only [List.length_append, List.length_singleton]; omega⟩, by simp only; omega⟩
  · refine Tot.bind (P := fun z => z.length = l.length + 1 ∧ ∀ c ∈ z, CB 40 c) (Tot.req (roomS (by simp only [s_nadd, len_eq, List.length_singleton]; omega) (by omega)) (Tot.ret ⟨by simp, fun c hc => ?_⟩)) fun z hz => Tot.ret ?_
    · rcases List.mem_append.1 hc with hc | hc
      · exact g4 c hc
      · rw [List.mem_singleton] at hc
        rw [hc]
        exact ⟨by show (std.ofBytes _ _).size ≤ 100; rw [ofBytes_size, len_eq]; simp, by simp, by simp, by have := p.2; simp only; omega, fun l hl => by cases hl⟩
    · rw [add1 (by omega)]
      exact ⟨⟨p.1, by have := hz.1; simp only; omega, by simp only; omega, hz.2⟩, by simp only; omega⟩
def OKl (a : TLibrary) : Prop := a.fCells.length ≤ 4 ∧ ∀ c ∈ a.fCells, CB 40 c
theorem OKl.small {a : TLibrary} (h : OKl a) : SmallL a := ⟨by have := h.1; omega, fun c hc => by
  have g := h.2 c hc
  exact ⟨by have := g.name; omega, by have := g.shapes; omega, by have := g.labels; omega, by have := g.insts; omega, fun l hl => by have := g.lnames l hl; omega⟩⟩
theorem top10_ok {s : Tl01Source} (hs : OKs s) : Tot (F_spec_l10DrawTop_mPb s) fun r => OKs r.2.2 ∧ OKl r.1 := by
  unfold F_spec_l10DrawTop_mPb
  refine nextS hs (by omega) fun _ _ h _ _ => Tot.br (fun _ => ?_) fun _ => ?_
  · refine Tot.bind (any_ok h) fun r hr => Tot.bind (index_ok hr.1 r.1 (by have := hr.2.1; omega)) fun q hq => ?_
    exact Tot.req (by rw [hq.2]) (Tot.req (by rw [hq.2]) (Tot.ret ⟨hq.1, by rw [hq.2]; exact hr.2⟩))
  · unfold F_spec_l10DrawLibrary_mPb
    refine Tot.bind (P := fun r : TLibrary × Tl01Source => OKs r.2 ∧ OKl r.1) (Tot.bind (library_ok h) fun r hr => Tot.ret ⟨hr.1, hr.2.2.1, fun c hc => (hr.2.2.2 c hc).le (by omega)⟩) fun r hr => ?_
    refine nextS hr.1 (by omega) fun _ _ h _ _ => Tot.br (fun _ => ?_) fun _ => Tot.ret ⟨h, hr.2⟩
    refine Tot.bind (index_ok h r.1 (by have := hr.2.1; omega)) fun q hq => ?_
    exact Tot.req (by rw [hq.2]) (Tot.req (by rw [hq.2]) (Tot.ret ⟨hq.1, by rw [hq.2]; exact hr.2⟩))
theorem top12_ok {s : Tl01Source} (hs : OKs s) : Tot (F_spec_l12DrawTop_mPb s) fun r => OKs r.2.2 ∧ OKl r.1 := by
  unfold F_spec_l12DrawTop_mPb
  refine nextS hs (by omega) fun _ _ h _ _ => Tot.br (fun _ => ?_) fun _ => ?_
  · exact Tot.bind (deep_ok h) fun r hr => Tot.ret hr
  · exact Tot.bind (top10_ok h) fun r hr => Tot.ret hr
theorem box11_ok {s : Tl01Source} (hs : OKs s) : Tot (F_spec_l11DrawBox_mPb s) fun r => OKs r.2 := by
  unfold F_spec_l11DrawBox_mPb
  first
  | exact nextS hs (by omega) fun _ _ h _ _ => nextS h (by omega) fun _ _ h _ _ => nextS h (by omega) fun _ _ h _ _ => nextS h (by omega) fun _ _ h _ _ => Tot.ret h
  | skip
theorem window_ok {s : Tl01Source} (hs : OKs s) : Tot (F_spec_l12DrawWindow_mPb s) fun r => OKs r.2 := by
  unfold F_spec_l12DrawWindow_mPb F_spec_l11DrawWindow_mPb
  refine nextS hs (by omega) fun _ _ h _ _ => Tot.br (fun _ => ?_) fun _ => Tot.br (fun _ => Tot.ret h) fun _ => ?_
  · refine Tot.bind (P := fun r : TRect × Tl01Source => OKs r.2) (nextS h (by omega) fun _ _ h _ _ => Tot.br (fun _ => ?_) fun _ => ?_) fun r hr => Tot.ret hr
    · exact nextS h (by omega) fun _ _ h _ _ => nextS h (by omega) fun _ _ h _ _ => Tot.ret h
    · exact Tot.bind (box11_ok h) fun r hr => Tot.ret hr
  · exact nextS h (by omega) fun _ _ h _ _ => nextS h (by omega) fun _ _ h _ _ => nextS h (by omega) fun _ _ h _ _ => nextS h (by omega) fun _ _ h _ _ => Tot.ret h
theorem drawVisited_ok {c : List Int} (hc : OKc c) : Tot (F_spec_DrawVisitedCount c) fun r => SmallL r.1 := by
  unfold F_spec_DrawVisitedCount F_spec_DrawInstancesTouching
  refine Tot.bind (P := fun r : TLibrary × Int × TRect => SmallL r.1) (Tot.bind (from_ok hc) fun s hs => Tot.bind (top12_ok hs) fun r hr => Tot.bind (window_ok hr.1) fun q hq => Tot.ret hr.2.small) fun r hr => Tot.ret hr
/- FnVisited -/
def allR : TRect := ⟨-40, -40, 40, 40⟩
theorem ovl_all {r wd : TRect} (hw : okRect wd = true) (h : ovlG r wd = true) : ovlG r allR = true := by
  rw [ovlG_iff] at h ⊢
  unfold okRect at hw
  simp only [s_le, s_lt, Bool.and_eq_true, decide_eq_true_eq] at hw
  show r.fX0 < 40 ∧ -40 < r.fX1 ∧ r.fY0 < 40 ∧ -40 < r.fY1
  omega
theorem visP_all (a : TLibrary) {wd : TRect} (hw : okRect wd = true) (k : Nat) (t : TTransform) (h : visP a wd k t = true) : visP a allR k t = true := by
  unfold visP at h ⊢
  rw [Bool.and_eq_true] at h ⊢
  exact ⟨h.1, ovl_all hw h.2⟩
theorem ctr_mono (G H : Nat → Telement → List TOccurrence) (h : ∀ s e, (G s e).length ≤ (H s e).length) : ∀ (l : List Telement) (s : Nat), (ctr G s l).length ≤ (ctr H s l).length
  | [], s => Nat.le_refl _
  | e :: l, s => by
    have h1 := h s e
    have h2 := ctr_mono G H h l (s + 1)
    simp only [ctr, List.length_append]
    omega
theorem occG_mono (a : TLibrary) (p q : Nat → TTransform → Bool) (h : ∀ k t, p k t = true → q k t = true) : ∀ n o, (occG a p n o).length ≤ (occG a q n o).length
  | 0, o => Nat.le_refl _
  | n + 1, o => by
    simp only [occG, List.length_cons]
    refine Nat.succ_le_succ (ctr_mono _ _ (fun s e => ?_) _ _)
    cases hp : p e.gcell.toNat (cmpT o.fPlace e.gplace) with
    | false => simp
    | true =>
      rw [if_pos rfl, if_pos (h _ _ hp)]
      exact occG_mono a p q h n _
theorem visL_pos (a : TLibrary) (k : Nat) (wd : TRect) : 1 ≤ (visL a k wd).length := by
  unfold visL
  rw [occG, List.length_cons]
  omega
theorem okAll : okRect allR = true := by unfold okRect allR; simp [std]
theorem elementCount_ok (a : TLibrary) (k : Int) (h : SmallL a) : F_impl_ElementCount a k = some (if hasC a k then ((cnt a.fCells k.toNat : Nat) : Int) else -1) := by
  unfold F_impl_ElementCount
  rw [impl_hasCell_ok a k h, Option.bind_some]
  cases hh : hasC a k with
  | false => unfold hasC at hh; rw [hh]; rfl
  | true =>
    obtain ⟨hv, n, rfl, hn⟩ := hasC_iff hh
    unfold hasC at hh
    rw [hh, Bool.not_true, br_f, impl_elementCount_ok a n hv hn]
    rfl
theorem spec_rect_ok (r : TRect) : F_spec_IsValidRect r = some (okRect r) := by
  unfold F_spec_IsValidRect okRect
  cases std.le (-40) r.fX0 <;> cases std.lt r.fX0 r.fX1 <;> cases std.le r.fX1 40 <;> cases std.le (-40) r.fY0 <;> cases std.lt r.fY0 r.fY1 <;> rfl
theorem wf_byte {x : Int} (h : wfI .u8 x) : 0 ≤ x ∧ x ≤ 255 := by
  have h' : (Lit.int .u8 x).wf = true := h
  have e1 : IntKind.min .u8 = 0 := rfl
  have e2 : IntKind.max .u8 = 255 := rfl
  simp [Lit.wf] at h'
  omega
theorem lawW_Visited (c : List Int) (w : (wfL (wfI .u8)) c) : F_laws_FnVisited c = some true := by
  unfold F_laws_FnVisited F_laws_big
  rw [Option.bind_some]
  cases hb : std.lt 4096 (std.ofN (len c)) with
  | true => rfl
  | false =>
    rw [br_f]
    have hl := lt_decf hb
    rw [s_ofN, len_eq] at hl
    obtain ⟨⟨a, k, wd⟩, h1, h2⟩ := drawVisited_ok (c := c) ⟨by omega, fun b hm => wf_byte (w.2 b hm)⟩
    have h2 : SmallL a := h2
    rw [h1, Option.bind_some]
    show (F_impl_VisitedCount a k wd).bind _ = _
    rw [impl_VisitedCount_ok a k wd h2, Option.bind_some]
    simp only [impl_VisitedCount_ok a k _ h2, elementCount_ok a k h2, Option.bind_some, letO_eq, spec_rect_ok]
    unfold visC
    cases hh : hasC a k with
    | false =>
      simp only [Bool.false_and, if_false]
      cases okRect wd <;> rfl
    | true =>
      obtain ⟨hv, n, rfl, hn⟩ := hasC_iff hh
      cases hr : okRect wd with
      | false => simp only [Bool.false_and, Bool.and_false, if_false]; rfl
      | true =>
        have hlen := visL_le a hv wd n hn
        have hpos := visL_pos a n wd
        have hall := visL_le a hv allR n hn
        have hmono : (visL a n wd).length ≤ (visL a n allR).length := occG_mono a _ _ (fun k t h => visP_all a hr k t h) 64 (rootO n)
        have ea : okRect (TRect.mk (-40) (-40) 40 40) = true := okAll
        by_cases hc : cnt a.fCells n ≤ 200
        · simp only [Int.toNat_natCast, Bool.true_and, decide_eq_true hc, if_true, ea]
          rw [lt_false (by omega), br_f]
          rw [le_true (by omega), br_t, show (TRect.mk (-40) (-40) 40 40) = allR from rfl, le_true (by omega), br_t, Option.bind_some, le_true (by omega)]
        · simp only [Int.toNat_natCast, Bool.true_and, decide_eq_false hc, if_true]
          rw [if_neg (by decide), lt_true (by omega), br_t]
          rw [Bool.not_true, br_f, eq_false' (by omega), br_f, Option.bind_some, lt_true (by omega)]
end Go.Proofs.Ytmdlnjeppemipaa.AM
