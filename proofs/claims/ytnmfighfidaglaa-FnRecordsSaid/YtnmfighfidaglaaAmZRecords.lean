/-
  What the functions that the law reaches compute, and that they do. No condition.
-/
import Derived.Test.YtnmfighfidaglaaAmRY
import Derived.Test.YtnmfighfidaglaaAmP
import Derived.Test.YtnmfighfidaglaaAmRZ
namespace Go.Proofs.Ytnmfighfidaglaa.AM
open Go Go.Proofs Go.RowKit
set_option linter.unusedVariables false
set_option linter.unusedSimpArgs false
set_option maxRecDepth 100000

/- what is drawn: it is drawn, and it is small -/
def Tot {α : Type} (x : Option α) (Q : α → Prop) : Prop := ∃ r, x = some r ∧ Q r
theorem Tot.ret {α : Type} {r : α} {Q : α → Prop} (h : Q r) : Tot (some r) Q := ⟨r, rfl, h⟩
theorem Tot.bind {α β : Type} {x : Option α} {f : α → Option β} {P : α → Prop} {Q : β → Prop} (h : Tot x P) (g : ∀ r, P r → Tot (f r) Q) : Tot (x.bind f) Q := by
  obtain ⟨r, h1, h2⟩ := h
  rw [h1]
  exact g r h2
theorem Tot.req {α : Type} {p : Prop} {k : Option α} {Q : α → Prop} (h : p) (g : Tot k Q) : Tot (Go.Proofs.Ytnmfighfidaglaa.AM.req p k) Q := by rw [req_of h]; exact g
theorem Tot.br {α : Type} {b : Bool} {x y : Option α} {Q : α → Prop} (h1 : b = true → Tot x Q) (h2 : b = false → Tot y Q) : Tot (Go.Proofs.Ytnmfighfidaglaa.AM.br b x y) Q := by
  cases b with
  | true => exact h1 rfl
  | false => exact h2 rfl
theorem Tot.letO {α β : Type} {e : α} {f : α → Option β} {Q : β → Prop} (h : Tot (f e) Q) : Tot (Go.Proofs.Ytnmfighfidaglaa.AM.letO e f) Q := h
theorem Tot.mono {α : Type} {x : Option α} {P Q : α → Prop} (h : Tot x P) (g : ∀ r, P r → Q r) : Tot x Q := by
  obtain ⟨r, h1, h2⟩ := h
  exact ⟨r, h1, g r h2⟩
theorem Tot.whileP {σ ρ : Type} {step : σ → Option (σ ⊕ ρ)} {x0 : σ} {Post : ρ → Prop} (Inv : σ → Prop) (μ : σ → Nat) (h0 : Inv x0)
    (h : ∀ x, Inv x → Tot (step x) fun r => match r with | .inl x' => Inv x' ∧ μ x' < μ x | .inr r => Post r) : Tot (Go.Proofs.Ytnmfighfidaglaa.AM.whileP step x0) Post := by
  refine while_ex Inv Post μ h0 fun x hx => ?_
  obtain ⟨r, h1, h2⟩ := h x hx
  cases r with
  | inl x' => exact .inl ⟨x', h1, h2.1, h2.2⟩
  | inr r => exact .inr ⟨r, h1, h2⟩
def OKc (c : List Int) : Prop := c.length ≤ 4096 ∧ ∀ b ∈ c, 0 ≤ b ∧ b ≤ 255
structure OKs (s : Tl01Source) : Prop where
  code : OKc s.gcode
  at0 : 0 ≤ s.gat
  at1 : s.gat ≤ 4096
  seed0 : 0 ≤ s.gseed
  seed1 : s.gseed < 2147483647
theorem lt_dec {x y : Int} (h : std.lt x y = true) : x < y := of_decide_eq_true h
theorem lt_decf {x y : Int} (h : std.lt x y = false) : y ≤ x := by
  have := of_decide_eq_false (show decide (x < y) = false from h); omega
theorem le_dec {x y : Int} (h : std.le x y = true) : x ≤ y := of_decide_eq_true h
theorem le_decf {x y : Int} (h : std.le x y = false) : y < x := by
  have := of_decide_eq_false (show decide (x ≤ y) = false from h); omega
theorem remB {x m : Int} (hx : 0 ≤ x) (hm : 0 < m) : 0 ≤ std.rem x m ∧ std.rem x m < m := by
  show 0 ≤ Int.tmod x m ∧ Int.tmod x m < m
  rw [Int.tmod_eq_emod_of_nonneg hx]
  exact ⟨Int.emod_nonneg _ (by omega), Int.emod_lt_of_pos _ hm⟩
theorem quoB {x m : Int} (hx : 0 ≤ x) (hx2 : x < 4611686018427387904) (hm : 0 < m) : 0 ≤ std.quo .i64 x m := by
  show 0 ≤ IntKind.i64.wrap (Int.tdiv x m)
  have h1 : Int.tdiv x m = x / m := Int.tdiv_eq_ediv_of_nonneg hx
  have h2 : 0 ≤ x / m := Int.ediv_nonneg hx (by omega)
  have h3 : x / m ≤ x := Int.ediv_le_self _ hx
  rw [h1, wrap_id (by omega) (by omega)]
  exact h2
theorem conv_id {x : Int} (h : 0 ≤ x ∧ x ≤ 255) : std.conv .i64 x = x := wrap_id (by omega) (by omega)
theorem gd_byte {c : List Int} (h : OKc c) {i : Int} (h0 : 0 ≤ i) (h1 : i < (c.length : Int)) : 0 ≤ gd c (std.toN i) ∧ gd c (std.toN i) ≤ 255 := by
  obtain ⟨n, rfl⟩ := Int.eq_ofNat_of_zero_le h0
  rw [s_toNn]
  exact h.2 _ (gd_mem (by omega))
theorem mulS {x y : Int} (h : -9223372036854775808 ≤ x * y) (g : x * y < 9223372036854775808) : std.mul .i64 x y = x * y := wrap_id h g
/-- the next number -/
theorem next_ok {s : Tl01Source} (hs : OKs s) {n : Int} (hn : n ≤ 1000000) : Tot (F_spec_l01Next_mPbb s n) fun r => OKs r.2 ∧ 0 ≤ r.1 ∧ (r.1 < n ∨ r.1 = 0) := by
  obtain ⟨hc, h0, h1, s0, s1⟩ := hs
  unfold F_spec_l01Next_mPbb
  have hm : std.mul .i64 s.gseed 48271 = s.gseed * 48271 := mulS (by omega) (by omega)
  refine Tot.br (fun h => Tot.ret ⟨⟨hc, h0, h1, s0, s1⟩, Int.le_refl _, .inr rfl⟩) fun h => ?_
  have hn1 := le_decf h
  have hnz : std.nz n := by show n ≠ 0; omega
  refine Tot.br (fun h => ?_) fun h => ?_
  · have hlt := lt_dec h
    rw [s_ofN, len_eq] at hlt
    obtain ⟨b0, b1⟩ := gd_byte hc h0 hlt
    have hl := hc.1
    have ha : std.add .i64 s.gat 1 = s.gat + 1 := add_id (by omega) (by omega)
    refine Tot.req ⟨h0, by rw [len_eq]; exact hlt⟩ (Tot.br (fun _ => ?_) fun _ => ?_)
    · rw [hm, conv_id ⟨b0, b1⟩, add_id (x := s.gseed * 48271) (by omega) (by omega), add_id (by omega) (by omega), ha]
      obtain ⟨r0, r1⟩ := remB (x := s.gseed * 48271 + gd s.gcode (std.toN s.gat) + 1) (m := 2147483647) (by omega) (by omega)
      obtain ⟨q0, q1⟩ := remB (m := n) r0 (by omega)
      exact Tot.req (by show (2147483647 : Int) ≠ 0; omega) (Tot.req hnz (Tot.ret ⟨⟨hc, by show 0 ≤ s.gat + 1; omega, by show s.gat + 1 ≤ 4096; omega, r0, r1⟩, q0, .inl q1⟩))
    · rw [conv_id ⟨b0, b1⟩, ha]
      obtain ⟨q0, q1⟩ := remB (m := n) b0 (by omega)
      exact Tot.req hnz (Tot.ret ⟨⟨hc, by show 0 ≤ s.gat + 1; omega, by show s.gat + 1 ≤ 4096; omega, s0, s1⟩, q0, .inl q1⟩)
  · rw [hm, add_id (by omega) (by omega)]
    obtain ⟨r0, r1⟩ := remB (x := s.gseed * 48271 + 11) (m := 2147483647) (by omega) (by omega)
    have q := quoB (m := 7) r0 (by omega) (by omega)
    obtain ⟨q0, q1⟩ := remB (m := n) q (by omega)
    exact Tot.req (by show (2147483647 : Int) ≠ 0; omega) (Tot.req (by show (7 : Int) ≠ 0; omega) (Tot.req hnz (Tot.ret ⟨⟨hc, h0, h1, r0, r1⟩, q0, .inl q1⟩)))
theorem from_ok {c : List Int} (hc : OKc c) : Tot (F_spec_l01From c) OKs := by
  unfold F_spec_l01From
  have hl := hc.1
  refine Tot.bind (P := fun v : Int => 0 ≤ v ∧ v < 2147483647) (Tot.whileP (fun x : Int × Int => 0 ≤ x.1 ∧ x.1 ≤ 64 ∧ 0 ≤ x.2 ∧ x.2 < 2147483647) (fun x => (64 - x.1).toNat) (by simp) fun x hx => ?_) fun v hv => Tot.ret ⟨hc, Int.le_refl _, by simp, hv.1, hv.2⟩
  obtain ⟨v1, v2⟩ := x
  obtain ⟨x0, x1, y0, y1⟩ := hx
  simp only at x0 x1 y0 y1
  unfold L_spec_l01From_x3
  simp only [letO_eq]
  refine Tot.bind (P := fun b => b = true → v1 < (c.length : Int) ∧ v1 < 64) (Tot.br (fun h => Tot.ret fun g => ?_) fun h => Tot.ret fun g => by cases g) fun b hb => Tot.br (fun h => ?_) fun h => ?_
  · have h1 := lt_dec h
    rw [s_ofN, len_eq] at h1
    exact ⟨h1, lt_dec g⟩
  · obtain ⟨h1, h2⟩ := hb h
    obtain ⟨b0, b1⟩ := gd_byte hc x0 h1
    have hm : std.mul .i64 v2 31 = v2 * 31 := mulS (by omega) (by omega)
    rw [hm, conv_id ⟨b0, b1⟩, add_id (x := v2 * 31) (by omega) (by omega), add_id (x := v1) (by omega) (by omega)]
    obtain ⟨r0, r1⟩ := remB (x := v2 * 31 + gd c (std.toN v1)) (m := 2147483647) (by omega) (by omega)
    exact Tot.req ⟨x0, by rw [len_eq]; exact h1⟩ (Tot.req (by show (2147483647 : Int) ≠ 0; omega) (Tot.ret ⟨⟨by show 0 ≤ v1 + 1; omega, by show v1 + 1 ≤ 64; omega, r0, r1⟩, by show (64 - (v1 + 1)).toNat < (64 - v1).toNat; omega⟩))
  · exact Tot.ret ⟨y0, y1⟩
/- draws of libraries -/
theorem ofBytes_size (n : Nat) (g : Nat → Int) : (std.ofBytes n g).size = n := by
  show (((List.range n).map fun i => UInt8.ofNat (g i).toNat).toArray).size = n
  simp
theorem roomS {n b : Nat} (hn : n ≤ 1000) (hb : b ≤ 1000) : std.room n b := by
  show n * b ≤ 35184372088832
  exact Nat.le_trans (Nat.mul_le_mul hn hb) (by omega)
theorem nextS {s : Tl01Source} (hs : OKs s) {n : Int} (hn : n ≤ 1000000) {β : Type} {f : Int × Tl01Source → Option β} {Q : β → Prop} (g : ∀ v s', OKs s' → 0 ≤ v → (v < n ∨ v = 0) → Tot (f (v, s')) Q) : Tot ((F_spec_l01Next_mPbb s n).bind f) Q :=
  Tot.bind (next_ok hs hn) fun r hr => g r.1 r.2 hr.1 hr.2.1 hr.2.2
theorem box_ok {s : Tl01Source} (hs : OKs s) : Tot (F_spec_l09DrawBox_mPb s) fun r => OKs r.2 := by
  unfold F_spec_l09DrawBox_mPb
  exact nextS hs (by omega) fun _ _ h _ _ => nextS h (by omega) fun _ _ h _ _ => nextS h (by omega) fun _ _ h _ _ => nextS h (by omega) fun _ _ h _ _ => Tot.ret h
theorem shape_ok {s : Tl01Source} (hs : OKs s) : Tot (F_spec_l09DrawShape_mPb s) fun r => OKs r.2 := by
  unfold F_spec_l09DrawShape_mPb
  exact nextS hs (by omega) fun _ _ h _ _ => Tot.bind (box_ok h) fun r hr => Tot.ret hr
theorem inst_ok {s : Tl01Source} (hs : OKs s) {n : Int} (hn : n ≤ 1000000) : Tot (F_spec_l09DrawInstance_mPbb s n) fun r => OKs r.2 := by
  unfold F_spec_l09DrawInstance_mPbb
  simp only [letO_eq]
  refine nextS hs hn fun _ _ h _ _ => nextS h (by omega) fun _ _ h _ _ => nextS h (by omega) fun _ _ h _ _ => nextS h (by omega) fun _ _ h _ _ => nextS h (by omega) fun _ _ h _ _ => ?_
  refine Tot.bind (P := fun y : List Int × Int × Int × Int × Int => OKs ⟨y.1, y.2.1, y.2.2.1⟩) (Tot.br (fun _ => nextS h (by omega) fun _ _ h _ _ => nextS h (by omega) fun _ _ h _ _ => Tot.ret h) fun _ => Tot.ret h) fun y hy => ?_
  refine nextS hy (by omega) fun _ _ h _ _ => ?_
  refine Tot.bind (P := fun y : List Int × Int × Int × Int × Int => OKs ⟨y.1, y.2.1, y.2.2.1⟩) (Tot.br (fun _ => nextS h (by omega) fun _ _ h _ _ => Tot.ret h) fun _ => Tot.ret h) fun y hy => ?_
  refine nextS hy (by omega) fun _ _ h _ _ => ?_
  exact Tot.bind (P := fun _ : Int => True) (Tot.br (fun _ => Tot.ret trivial) fun _ => Tot.ret trivial) fun _ _ => Tot.ret h
theorem name_ok {s : Tl01Source} (hs : OKs s) : Tot (F_spec_l09DrawName_mPb s) fun r => OKs r.2 ∧ r.1.size ≤ 3 := by
  unfold F_spec_l09DrawName_mPb
  simp only [letO_eq]
  refine nextS hs (by omega) fun v s' h h0 h1 => ?_
  refine Tot.bind (P := fun y : List Int × List Int × Int × Int => OKs ⟨y.2.1, y.2.2.1, y.2.2.2⟩ ∧ y.1.length ≤ 3) (Tot.whileP (fun x : Int × List Int × Int × Int × List Int => OKs ⟨x.2.1, x.2.2.1, x.2.2.2.1⟩ ∧ 0 ≤ x.1 ∧ (x.2.2.2.2.length : Int) + x.1 ≤ 3) (fun x => x.1.toNat) ?_ fun x hx => ?_) fun y hy => Tot.ret ⟨hy.1, by
      rw [ofBytes_size, len_eq]; exact hy.2⟩
  · have : std.add .i64 1 v = 1 + v := add_id (by omega) (by omega)
    refine ⟨h, ?_, ?_⟩
    · simp only [this]; omega
    · simp only [this, List.length_nil]; omega
  · obtain ⟨k, c, at', sd, l⟩ := x
    obtain ⟨g1, g2, g3⟩ := hx
    simp only at g1 g2 g3
    simp only [L_spec_l09DrawName_mPb_x10, letO_eq]
    refine Tot.br (fun hk => ?_) fun hk => Tot.ret ⟨g1, by simp only; omega⟩
    have hk' := lt_dec hk
    refine nextS g1 (by omega) fun w s2 g4 g5 g6 => ?_
    have hsz : (ByteArray.mk #[97, 98, 99, 100, 120, 121, 122, 48, 49, 57]).size = 10 := rfl
    refine Tot.req ⟨g5, by rw [s_slen, hsz]; omega⟩ (Tot.req (roomS (by rw [s_nadd, len_eq, len_eq, List.length_singleton]; omega) (by omega)) (Tot.ret ⟨⟨g4, ?_, ?_⟩, ?_⟩))
    · simp only [sub_id (x := k) (y := 1) (by omega) (by omega)]; omega
    · simp only [sub_id (x := k) (y := 1) (by omega) (by omega), List.length_append, List.length_singleton]; omega
    · simp only [sub_id (x := k) (y := 1) (by omega) (by omega)]; omega
theorem label_ok {s : Tl01Source} (hs : OKs s) : Tot (F_spec_l09DrawLabel_mPb s) fun r => OKs r.2 ∧ r.1.fName.size ≤ 3 := by
  unfold F_spec_l09DrawLabel_mPb
  exact nextS hs (by omega) fun _ _ h _ _ => nextS h (by omega) fun _ _ h _ _ => nextS h (by omega) fun _ _ h _ _ => Tot.bind (name_ok h) fun r hr => Tot.ret hr
/-- what a drawn cell is -/
structure CB (n : Nat) (c : TCell) : Prop where
  name : c.fName.size ≤ 100
  shapes : c.fShapes.length ≤ n
  labels : c.fLabels.length ≤ n
  insts : c.fInstances.length ≤ n
  lnames : ∀ l ∈ c.fLabels, l.fName.size ≤ 100
theorem CB.le {n m : Nat} {c : TCell} (h : CB n c) (hn : n ≤ m) : CB m c := ⟨h.name, Nat.le_trans h.shapes hn, Nat.le_trans h.labels hn, Nat.le_trans h.insts hn, h.lnames⟩
theorem sub1 {k : Int} (h : -1000000 ≤ k ∧ k ≤ 1000000) : std.sub .i64 k 1 = k - 1 := sub_id (by omega) (by omega)
theorem add1 {k : Int} (h : -1000000 ≤ k ∧ k ≤ 1000000) : std.add .i64 k 1 = k + 1 := add_id (by omega) (by omega)
theorem and_dec {a b : Bool} {x y : Option Bool} : True := trivial
theorem library_ok {s : Tl01Source} (hs : OKs s) : Tot (F_spec_l09DrawLibrary_mPb s) fun r => OKs r.2 ∧ 1 ≤ r.1.fCells.length ∧ r.1.fCells.length ≤ 4 ∧ ∀ c ∈ r.1.fCells, CB 4 c := by
  unfold F_spec_l09DrawLibrary_mPb
  simp only [letO_eq]
  refine nextS hs (by omega) fun v s' h h0 h1 => ?_
  refine Tot.bind (P := fun y : List Int × Int × Int × List TCell => OKs ⟨y.1, y.2.1, y.2.2.1⟩ ∧ 1 ≤ y.2.2.2.length ∧ y.2.2.2.length ≤ 4 ∧ ∀ c ∈ y.2.2.2, CB 4 c)
    (Tot.whileP (fun x : Int × List Int × Int × Int × List TCell => OKs ⟨x.2.1, x.2.2.1, x.2.2.2.1⟩ ∧ (x.2.2.2.2.length : Int) = x.1 ∧ x.1 ≤ 1 + v ∧ ∀ c ∈ x.2.2.2.2, CB 4 c) (fun x => (5 - x.1).toNat) ?_ fun x hx => ?_) fun y hy => Tot.ret hy
  · exact ⟨h, rfl, by show (0 : Int) ≤ 1 + v; omega, fun c hc => by cases hc⟩
  · obtain ⟨i, c, at', sd, l⟩ := x
    obtain ⟨g1, g2, g3, g4⟩ := hx
    simp only at g1 g2 g3 g4
    have e1 : std.add .i64 1 v = 1 + v := add_id (by omega) (by omega)
    simp only [L_spec_l09DrawLibrary_mPb_x8, letO_eq, e1]
    refine Tot.br (fun hk => ?_) fun hk => ?_
    · have hk' := lt_dec hk
      refine Tot.bind (name_ok g1) fun r hr => ?_
      refine Tot.req (roomS (by rw [s_nadd, s_slen, s_slen, ofBytes_size, len_eq, List.length_singleton]; omega) (by omega)) ?_
      refine nextS hr.1 (by omega) fun v2 s2 k1 k2 k3 => ?_
      -- shapes
      refine Tot.bind (P := fun y : List Int × Int × Int × List TShape => OKs ⟨y.1, y.2.1, y.2.2.1⟩ ∧ y.2.2.2.length ≤ 4) (Tot.whileP (fun x : Int × List Int × Int × Int × List TShape => OKs ⟨x.2.1, x.2.2.1, x.2.2.2.1⟩ ∧ 0 ≤ x.1 ∧ (x.2.2.2.2.length : Int) + x.1 ≤ 4) (fun x => x.1.toNat) ⟨k1, k2, by simp only [List.length_nil]; omega⟩ fun x hx => ?_) fun y1 p1 => ?_
      · obtain ⟨k, c, at', sd, l⟩ := x
        obtain ⟨q1, q2, q3⟩ := hx
        simp only at q1 q2 q3
        simp only [L_spec_l09DrawLibrary_mPb_x32, letO_eq]
        refine Tot.br (fun hk => ?_) fun hk => Tot.ret ⟨q1, by simp only; omega⟩
        have hk' := lt_dec hk
        refine Tot.bind (shape_ok q1) fun r hr => Tot.req (roomS (by rw [s_nadd, len_eq, len_eq, List.length_singleton]; omega) (by omega)) (Tot.ret ?_)
        rw [sub1 (by omega)]
        exact ⟨⟨hr, by simp only; omega, by simp only [List.length_append, List.length_singleton]; omega⟩, by simp only; omega⟩
      refine nextS p1.1 (by omega) fun v3 s3 k4 k5 k6 => ?_
      -- labels
      refine Tot.bind (P := fun y : List Int × Int × Int × List TLabel => OKs ⟨y.1, y.2.1, y.2.2.1⟩ ∧ y.2.2.2.length ≤ 4 ∧ ∀ l ∈ y.2.2.2, l.fName.size ≤ 100) (Tot.whileP (fun x : Int × List Int × Int × Int × List TLabel => OKs ⟨x.2.1, x.2.2.1, x.2.2.2.1⟩ ∧ 0 ≤ x.1 ∧ (x.2.2.2.2.length : Int) + x.1 ≤ 4 ∧ ∀ l ∈ x.2.2.2.2, l.fName.size ≤ 100) (fun x => x.1.toNat) ⟨k4, k5, by simp only [List.length_nil]; omega, fun l hl => by cases hl⟩ fun x hx => ?_) fun y2 p2 => ?_
      · obtain ⟨k, c, at', sd, l⟩ := x
        obtain ⟨q1, q2, q3, q4⟩ := hx
        simp only at q1 q2 q3 q4
        simp only [L_spec_l09DrawLibrary_mPb_x63, letO_eq]
        refine Tot.br (fun hk => ?_) fun hk => Tot.ret ⟨q1, by simp only; omega, q4⟩
        have hk' := lt_dec hk
        refine Tot.bind (label_ok q1) fun r hr => Tot.req (roomS (by rw [s_nadd, len_eq, len_eq, List.length_singleton]; omega) (by omega)) (Tot.ret ?_)
        rw [sub1 (by omega)]
        refine ⟨⟨hr.1, by simp only; omega, by simp only [List.length_append, List.length_singleton]; omega, fun l hl => ?_⟩, by simp only; omega⟩
        rcases List.mem_append.1 hl with hl | hl
        · exact q4 l hl
        · rw [List.mem_singleton] at hl; rw [hl]; have := hr.2; omega
      refine nextS p2.1 (by omega) fun v4 s4 k7 k8 k9 => ?_
      -- instances
      refine Tot.bind (P := fun y : List Int × Int × Int × List TInstance => OKs ⟨y.1, y.2.1, y.2.2.1⟩ ∧ y.2.2.2.length ≤ 4) (Tot.whileP (fun x : Int × List Int × Int × Int × List TInstance => OKs ⟨x.2.1, x.2.2.1, x.2.2.2.1⟩ ∧ 0 ≤ x.1 ∧ (x.2.2.2.2.length : Int) + x.1 ≤ 4) (fun x => x.1.toNat) ⟨k7, k8, by simp only [List.length_nil]; omega⟩ fun x hx => ?_) fun y3 p3 => ?_
      · obtain ⟨k, c, at', sd, l⟩ := x
        obtain ⟨q1, q2, q3⟩ := hx
        simp only at q1 q2 q3
        simp only [L_spec_l09DrawLibrary_mPb_x94, letO_eq]
        refine Tot.bind (P := fun b => b = true → 0 < k) (Tot.br (fun hh => Tot.ret fun _ => lt_dec hh) fun _ => Tot.ret fun hh => by cases hh) fun b hb => Tot.br (fun hk => ?_) fun hk => Tot.ret ⟨q1, by simp only; omega⟩
        have hk' := hb hk
        refine Tot.bind (inst_ok q1 (by omega)) fun r hr => Tot.req (roomS (by rw [s_nadd, len_eq, len_eq, List.length_singleton]; omega) (by omega)) (Tot.ret ?_)
        rw [sub1 (by omega)]
        exact ⟨⟨hr, by simp only; omega, by simp only [List.length_append, List.length_singleton]; omega⟩, by simp only; omega⟩
      have hcb : CB 4 (TCell.mk (std.scat (std.ofBytes (len [std.conv .u8 (std.add .i64 97 i)]) (fun j => gd [std.conv .u8 (std.add .i64 97 i)] (0 + j))) r.1) y1.2.2.2 y2.2.2.2 y3.2.2.2) := by
        refine ⟨?_, p1.2, p2.2.1, p3.2, p2.2.2⟩
        show (_ ++ _ : ByteArray).size ≤ 100
        rw [ByteArray.size_append, ofBytes_size, len_eq, List.length_singleton]
        have := hr.2; omega
      refine Tot.bind (P := fun y => y = l ++ [TCell.mk (std.scat (std.ofBytes (len [std.conv .u8 (std.add .i64 97 i)]) (fun j => gd [std.conv .u8 (std.add .i64 97 i)] (0 + j))) r.1) y1.2.2.2 y2.2.2.2 y3.2.2.2]) (Tot.req (roomS (by rw [s_nadd, len_eq, len_eq, List.length_singleton]; omega) (by omega)) (Tot.ret rfl)) fun y hy => Tot.ret ?_
      subst hy
      rw [add1 (by omega)]
      refine ⟨⟨p3.1, ?_, by simp only; omega, fun c hc => ?_⟩, by simp only; omega⟩
      · simp only [List.length_append, List.length_singleton]; omega
      · rcases List.mem_append.1 hc with hc | hc
        · exact g4 c hc
        · rw [List.mem_singleton] at hc; rw [hc]; exact hcb
    · have := lt_decf hk
      exact Tot.ret ⟨g1, by simp only; omega, by simp only; omega, g4⟩
/- draws of libraries that are mostly valid -/
theorem set_CB {n : Nat} {l : List TCell} {i : Nat} {x : TCell} (h : ∀ c ∈ l, CB n c) (hx : CB n x) : ∀ c ∈ l.set i x, CB n c := by
  intro c hc
  rcases List.mem_or_eq_of_mem_set hc with h1 | h1
  · exact h c h1
  · rw [h1]; exact hx
def PB (m : Nat) (y : List Int × Int × Int × List TCell) : Prop := OKs ⟨y.1, y.2.1, y.2.2.1⟩ ∧ y.2.2.2.length = m ∧ ∀ c ∈ y.2.2.2, CB 40 c
set_option maxHeartbeats 1000000 in
theorem any_ok {s : Tl01Source} (hs : OKs s) : Tot (F_spec_l09DrawAny_mPb s) fun r => OKs r.2 ∧ r.1.fCells.length ≤ 4 ∧ ∀ c ∈ r.1.fCells, CB 40 c := by
  unfold F_spec_l09DrawAny_mPb
  simp only [letO_eq]
  refine Tot.bind (library_ok hs) fun y1 hy1 => ?_
  obtain ⟨⟨L⟩, s1⟩ := y1
  obtain ⟨k1, k2, k3, k4⟩ := hy1
  simp only at k1 k2 k3 k4
  refine nextS k1 (by rw [s_ofN, len_eq]; simp only; omega) fun v s2 g g0 g1 => ?_
  have hv : v < (L.length : Int) := by rw [s_ofN, len_eq] at g1; simp only at g1; omega
  obtain ⟨i, rfl⟩ := Int.eq_ofNat_of_zero_le g0
  have hi : i < L.length := by omega
  refine Tot.req (inRl hi) ?_
  simp only [s_toNn, s_nadd, Nat.zero_add]
  have c0 : CB 4 (gd L i) := k4 _ (gd_mem hi)
  have all40 : ∀ c ∈ L, CB 40 c := fun c hc => (k4 c hc).le (by omega)
  refine nextS g (by omega) fun w s3 h h0 h1 => ?_
  refine Tot.bind (P := fun y : List TCell × List Int × Int × Int => OKs ⟨y.2.1, y.2.2.1, y.2.2.2⟩ ∧ y.1.length = L.length ∧ ∀ c ∈ y.1, CB 40 c) (Tot.br (fun _ => ?_) fun _ => ?_) fun y hy => Tot.req (by rw [len_eq, len_eq, hy.2.1]) (Tot.ret ⟨hy.1, by show y.1.length ≤ 4; omega, hy.2.2⟩)
  · refine Tot.bind (P := fun y : List TCell => y.length = L.length ∧ ∀ c ∈ y, CB 40 c) (Tot.req (inRl (i := 0) (by omega)) (Tot.ret ⟨by simp, set_CB all40 ?_⟩)) fun y hy => Tot.ret ⟨h, hy⟩
    have := (k4 _ (gd_mem (show 0 < L.length by omega))).name
    exact CB.le ⟨by show (gd L (std.toN 0)).fName.size ≤ 100; rw [show std.toN 0 = 0 from rfl]; exact this, c0.shapes, c0.labels, c0.insts, c0.lnames⟩ (by omega)
  · refine Tot.bind (P := PB L.length) (Tot.br (fun _ => ?_) fun _ => ?_) fun y hy => Tot.ret hy
    · refine Tot.bind (P := PB L.length) (nextS h (by omega) fun q s4 e e0 e1 => ?_) fun y hy => Tot.ret hy
      obtain ⟨q, rfl⟩ := Int.eq_ofNat_of_zero_le e0
      have hq : q < ([(ByteArray.mk #[]), (ByteArray.mk #[65]), (ByteArray.mk #[97, 98, 99, 100, 101, 102, 103, 104, 105]), (ByteArray.mk #[97, 32, 98])] : List ByteArray).length := by simp only [List.length_cons, List.length_nil]; omega
      refine Tot.req (inRl hq) (Tot.ret ⟨e, by simp, set_CB all40 ?_⟩)
      rw [s_toNn]
      have hm := gd_mem hq
      refine CB.le ⟨?_, c0.shapes, c0.labels, c0.insts, c0.lnames⟩ (by omega)
      have hz : ∀ x ∈ ([(ByteArray.mk #[]), (ByteArray.mk #[65]), (ByteArray.mk #[97, 98, 99, 100, 101, 102, 103, 104, 105]), (ByteArray.mk #[97, 32, 98])] : List ByteArray), x.size ≤ 100 := by decide
      exact hz _ hm
    · refine Tot.bind (P := PB L.length) (Tot.br (fun _ => ?_) fun _ => ?_) fun y hy => Tot.ret hy
      · refine Tot.bind (P := PB L.length) (nextS h (by omega) fun _ _ h _ _ => nextS h (by omega) fun _ _ h _ _ => nextS h (by omega) fun _ _ h _ _ => nextS h (by omega) fun _ _ h _ _ => nextS h (by omega) fun _ _ h _ _ => ?_) fun y hy => Tot.ret hy
        have := c0.shapes
        refine Tot.req (roomS (by simp only [s_nadd, len_eq, List.length_singleton]; omega) (by omega)) (Tot.ret ⟨h, by simp, set_CB all40 ⟨c0.name, by simp only [List.length_append, List.length_singleton]; omega, by have := c0.labels; simp only; omega, by have := c0.insts; simp only; omega, c0.lnames⟩⟩)
      · refine Tot.bind (P := PB L.length) (Tot.br (fun _ => ?_) fun _ => ?_) fun y hy => Tot.ret hy
        · have e1 : std.add .i64 (i : Int) 1 = (i : Int) + 1 := add1 (by omega)
          refine Tot.bind (inst_ok h (by rw [e1]; omega)) fun r hr => nextS hr (by omega) fun _ _ h _ _ => nextS h (by omega) fun _ _ h _ _ => ?_
          have := c0.insts
          refine Tot.bind (P := fun y : List TCell => y.length = L.length ∧ ∀ c ∈ y, CB 40 c) (Tot.req (roomS (by simp only [s_nadd, len_eq, List.length_singleton]; omega) (by omega)) (Tot.ret ⟨by simp, set_CB all40 ⟨c0.name, by have := c0.shapes; simp only; omega, by have := c0.labels; simp only; omega, by simp only [List.length_append, List.length_singleton]; omega, c0.lnames⟩⟩)) fun y hy => Tot.ret ⟨h, hy⟩
        · refine Tot.bind (P := PB L.length) (Tot.br (fun _ => ?_) fun _ => ?_) fun y hy => Tot.ret hy
          · refine Tot.bind (P := PB L.length) (nextS h (by omega) fun _ _ h _ _ => nextS h (by omega) fun _ _ h _ _ => nextS h (by omega) fun _ _ h _ _ => Tot.bind (name_ok h) fun r hr => ?_) fun y hy => Tot.ret hy
            have := c0.labels
            refine Tot.req (roomS (by simp only [s_nadd, len_eq, List.length_singleton]; omega) (by omega)) (Tot.ret ⟨hr.1, by simp, set_CB all40 ⟨c0.name, by have := c0.shapes; simp only; omega, by simp only [List.length_append, List.length_singleton]; omega, by have := c0.insts; simp only; omega, fun l hl => ?_⟩⟩)
            rcases List.mem_append.1 hl with hl | hl
            · exact c0.lnames l hl
            · rw [List.mem_singleton] at hl; rw [hl]; have := hr.2; simp only; omega
          · refine Tot.bind (P := PB L.length) (Tot.br (fun _ => ?_) fun _ => Tot.ret ⟨h, rfl, all40⟩) fun y hy => Tot.ret hy
            refine Tot.bind (P := PB L.length) (Tot.whileP (fun x : Int × List Int × Int × Int × List TCell => OKs ⟨x.2.1, x.2.2.1, x.2.2.2.1⟩ ∧ 0 ≤ x.1 ∧ x.1 ≤ 25 ∧ x.2.2.2.2.length = L.length ∧ ∀ c ∈ x.2.2.2.2, CB (4 + x.1.toNat) c) (fun x => (25 - x.1).toNat) ⟨h, Int.le_refl _, by simp, rfl, k4⟩ fun x hx => ?_) fun y hy => Tot.ret hy
            obtain ⟨j, c, at', sd, l⟩ := x
            obtain ⟨q1, q2, q3, q4, q5⟩ := hx
            simp only at q1 q2 q3 q4 q5
            simp only [L_spec_l09DrawAny_mPb_x167, letO_eq, s_toNn, s_nadd, Nat.zero_add]
            refine Tot.br (fun hk => ?_) fun hk => Tot.ret ⟨q1, q4, fun c hc => (q5 c hc).le (by omega)⟩
            have hk' := lt_dec hk
            have hil : i < l.length := by omega
            have ci := q5 _ (gd_mem hil)
            have hsh := ci.shapes
            refine Tot.bind (P := fun y : List Int × Int × Int × List TCell => OKs ⟨y.1, y.2.1, y.2.2.1⟩ ∧ y.2.2.2.length = L.length ∧ ∀ c ∈ y.2.2.2, CB (4 + (j.toNat + 1)) c) (Tot.bind (shape_ok q1) fun r hr => Tot.req (roomS (by simp only [s_nadd, len_eq, List.length_singleton]; omega) (by omega)) (Tot.req (by rw [len_eq, len_eq, q4]) (Tot.ret ⟨hr, by simp [q4], set_CB (n := 4 + (j.toNat + 1)) (fun c hc => (q5 c hc).le (by omega)) ⟨ci.name, by simp only [List.length_append, List.length_singleton]; omega, by have := ci.labels; simp only; omega, by have := ci.insts; simp only; omega, ci.lnames⟩⟩))) fun y hy => Tot.ret ?_
            rw [add1 (by omega)]
            exact ⟨⟨hy.1, by simp only; omega, by simp only; omega, hy.2.1, fun c hc => (hy.2.2 c hc).le (by simp only; omega)⟩, by simp only; omega⟩
def OKl (a : TLibrary) : Prop := a.fCells.length ≤ 4 ∧ ∀ c ∈ a.fCells, CB 40 c
theorem OKl.small {a : TLibrary} (h : OKl a) : SmallL a := ⟨by have := h.1; omega, fun c hc => by
  have g := h.2 c hc
  exact ⟨by have := g.name; omega, by have := g.shapes; omega, by have := g.labels; omega, by have := g.insts; omega, fun l hl => by have := g.lnames l hl; omega⟩⟩
/- FnRecords -/
noncomputable def expL (a : TLibrary) (i : Nat) : List Int := [1, (a.fCells.length : Int), ((sumF (fun j => (gd a.fCells j).fShapes.length) i : Nat) : Int), ((sumF (fun j => (gd a.fCells j).fLabels.length) i : Nat) : Int), ((sumF (fun j => (gd a.fCells j).fInstances.length) i : Nat) : Int), (a.fCells.length : Int), 1]
theorem sumF_le (f : Nat → Nat) (B : Nat) : ∀ n, (∀ i, i < n → f i ≤ B) → sumF f n ≤ n * B
  | 0, _ => by simp [sumF]
  | n + 1, h => by
    have h1 := sumF_le f B n (fun i hi => h i (by omega))
    have h2 := h n (by omega)
    rw [sumF, Nat.add_mul]; omega
theorem sumF_const (f : Nat → Nat) (B : Nat) : ∀ n, (∀ i, i < n → f i = B) → sumF f n = n * B
  | 0, _ => by simp [sumF]
  | n + 1, h => by
    have h1 := sumF_const f B n (fun i hi => h i (by omega))
    have h2 := h n (by omega)
    rw [sumF, h1, h2, Nat.add_mul]; omega
theorem sumF_congr (f g : Nat → Nat) : ∀ n, (∀ i, f i = g i) → sumF f n = sumF g n
  | 0, _ => rfl
  | n + 1, h => by rw [sumF, sumF, sumF_congr f g n h, h]
theorem counts_eq {a : TLibrary} (h : okLib a = true) : (recs a).foldl bump (List.replicate 7 0) = expL a a.fCells.length := by
  have hr := recs_ok h
  have hg : ∀ i : Nat, i < 7 → gd ((recs a).foldl bump (List.replicate 7 0)) i = (((if (1 : Int) = (i : Int) + 1 then 1 else 0) + sumF (fun j => cntC (gd a.fCells j) ((i : Int) + 1)) a.fCells.length + (if (7 : Int) = (i : Int) + 1 then 1 else 0) : Nat) : Int) := fun i hi => by
    rw [fold_gd (recs a) _ hr (by simp) i hi, cnt_recs]
    have : gd (List.replicate 7 (0 : Int)) i = 0 := by
      unfold gd
      simp only [List.getD_eq_getElem?_getD, List.getElem?_replicate]
      split <;> rfl
    rw [this]; omega
  have z1 : sumF (fun j => cntC (gd a.fCells j) 1) a.fCells.length = 0 := (sumF_const (fun j => cntC (gd a.fCells j) 1) 0 _ (fun i _ => rfl)).trans (by omega)
  have z2 : sumF (fun j => cntC (gd a.fCells j) 2) a.fCells.length = a.fCells.length := (sumF_const (fun j => cntC (gd a.fCells j) 2) 1 _ (fun i _ => rfl)).trans (by omega)
  have z3 : sumF (fun j => cntC (gd a.fCells j) 3) a.fCells.length = sumF (fun j => (gd a.fCells j).fShapes.length) a.fCells.length := sumF_congr _ _ _ (fun i => by simp [cntC])
  have z4 : sumF (fun j => cntC (gd a.fCells j) 4) a.fCells.length = sumF (fun j => (gd a.fCells j).fLabels.length) a.fCells.length := sumF_congr _ _ _ (fun i => by simp [cntC])
  have z5 : sumF (fun j => cntC (gd a.fCells j) 5) a.fCells.length = sumF (fun j => (gd a.fCells j).fInstances.length) a.fCells.length := sumF_congr _ _ _ (fun i => by simp [cntC])
  have z6 : sumF (fun j => cntC (gd a.fCells j) 6) a.fCells.length = a.fCells.length := (sumF_const (fun j => cntC (gd a.fCells j) 6) 1 _ (fun i _ => rfl)).trans (by omega)
  have z7 : sumF (fun j => cntC (gd a.fCells j) 7) a.fCells.length = 0 := (sumF_const (fun j => cntC (gd a.fCells j) 7) 0 _ (fun i _ => rfl)).trans (by omega)
  have hl : ((recs a).foldl bump (List.replicate 7 0)).length = 7 := by rw [fold_len]; simp
  generalize (recs a).foldl bump (List.replicate 7 0) = l at hg hl
  have g0 := hg 0 (by omega)
  have g1 := hg 1 (by omega)
  have g2 := hg 2 (by omega)
  have g3 := hg 3 (by omega)
  have g4 := hg 4 (by omega)
  have g5 := hg 5 (by omega)
  have g6 := hg 6 (by omega)
  match l, hl with
  | [x0, x1, x2, x3, x4, x5, x6], _ =>
    have g0 : x0 = _ := g0
    have g1 : x1 = _ := g1
    have g2 : x2 = _ := g2
    have g3 : x3 = _ := g3
    have g4 : x4 = _ := g4
    have g5 : x5 = _ := g5
    have g6 : x6 = _ := g6
    simp [z1, z2, z3, z4, z5, z6, z7] at g0 g1 g2 g3 g4 g5 g6
    unfold expL
    rw [g0, g1, g2, g3, g4, g5, g6]
theorem sameInts_ok (l : List Int) (h : l.length ≤ 10000) : F_laws_sameInts l l = some true := by
  unfold F_laws_sameInts
  rw [notEq (eq_true' rfl), br_f]
  refine Eq.trans (bind_of (while_eq (r := .inr ()) l.length (fun i hi => ?_) ?_)) rfl
  · simp only [L_laws_sameInts_x2, letO_eq, s_toNn]
    rw [ltl_t hi, br_t, req_of (inRl hi), req_of (inRl hi), notEq (eq_true' rfl), br_f, inc_nat (by omega)]
  · simp only [L_laws_sameInts_x2, letO_eq]
    rw [ltl_f]; rfl
theorem exp_loop (a : TLibrary) (h : okLib a = true) : whileP (L_laws_FnRecords_x23 a (expL a 0)) (0, expL a 0) = some (expL a a.fCells.length) := by
  have h8 := okLib_le h
  refine while_from (fun i => ((i : Int), expL a i)) a.fCells.length rfl (fun i hi => ?_) ?_
  · have hg := good_of h hi
    have b2 := sumF_le (fun j => (gd a.fCells j).fShapes.length) 24 i (fun j hj => (good_of h (show j < a.fCells.length by omega)).shapes)
    have b3 := sumF_le (fun j => (gd a.fCells j).fLabels.length) 8 i (fun j hj => (good_of h (show j < a.fCells.length by omega)).labels)
    have b4 := sumF_le (fun j => (gd a.fCells j).fInstances.length) 8 i (fun j hj => (good_of h (show j < a.fCells.length by omega)).insts)
    have m2 : i * 24 ≤ 8 * 24 := Nat.mul_le_mul_right _ (by omega)
    have m3 : i * 8 ≤ 8 * 8 := Nat.mul_le_mul_right _ (by omega)
    have s2 := hg.shapes
    have s3 := hg.labels
    have s4 := hg.insts
    have r2 : std.inR 2 (len (expL a 0)) := ⟨by omega, by show (2 : Int) < 7; omega⟩
    have r3 : std.inR 3 (len (expL a 0)) := ⟨by omega, by show (3 : Int) < 7; omega⟩
    have r4 : std.inR 4 (len (expL a 0)) := ⟨by omega, by show (4 : Int) < 7; omega⟩
    simp only [L_laws_FnRecords_x23, letO_eq, s_toNn, s_nadd, Nat.zero_add]
    rw [ltl_t hi, br_t, req_of r2, req_of (inRl hi), req_of r2, req_of (show len (expL a 0) = len (expL a i) from rfl), Option.bind_some, req_of r3, req_of (inRl hi), req_of r3, req_of (show len (expL a 0) = len (List.set (expL a i) _ _) from rfl), Option.bind_some, req_of r4, req_of (inRl hi), req_of r4, req_of (show len (expL a 0) = len (List.set (List.set (expL a i) _ _) _ _) from rfl), Option.bind_some, inc_nat (by omega)]
    have q2 : gd (expL a i) (std.toN 2) = ((sumF (fun j => (gd a.fCells j).fShapes.length) i : Nat) : Int) := rfl
    have q3 : ∀ x, gd (List.set (expL a i) (std.toN 2) x) (std.toN 3) = ((sumF (fun j => (gd a.fCells j).fLabels.length) i : Nat) : Int) := fun x => rfl
    have q4 : ∀ x y, gd (List.set (List.set (expL a i) (std.toN 2) x) (std.toN 3) y) (std.toN 4) = ((sumF (fun j => (gd a.fCells j).fInstances.length) i : Nat) : Int) := fun x y => rfl
    rw [q2, q3, q4, s_ofN, s_ofN, s_ofN, len_eq, len_eq, len_eq, add_id (by omega) (by omega), add_id (by omega) (by omega), add_id (by omega) (by omega)]
    rfl
  · simp only [L_laws_FnRecords_x23, letO_eq]
    rw [ltl_f, br_f]
theorem fm_len (h : Nat → List (Int × ByteArray)) (B : Nat) : ∀ n, (∀ i, i < n → (h i).length ≤ B) → ((List.range n).flatMap h).length ≤ n * B
  | 0, _ => by simp
  | n + 1, g => by
    have h1 := fm_len h B n (fun i hi => g i (by omega))
    have h2 := g n (by omega)
    rw [List.range_succ, List.flatMap_append, List.length_append, Nat.add_mul, List.flatMap_cons, List.flatMap_nil, List.append_nil]
    omega
theorem recs_len {a : TLibrary} (h : okLib a = true) : (recs a).length ≤ 4000 := by
  have h8 := okLib_le h
  have h1 := fm_len (fun k => recsC a (gd a.fCells k)) 42 a.fCells.length (fun k hk => by
    have hg := good_of h hk
    have s2 := hg.shapes
    have s3 := hg.labels
    have s4 := hg.insts
    have l2 := fm_len (fun i => [((3 : Int), ofL (shapeB (gd (gd a.fCells k).fShapes i)))]) 1 (gd a.fCells k).fShapes.length (fun i _ => by simp)
    have l3 := fm_len (fun i => [((4 : Int), ofL (labelB (gd (gd a.fCells k).fLabels i)))]) 1 (gd a.fCells k).fLabels.length (fun i _ => by simp)
    have l4 := fm_len (fun i => [((5 : Int), ofL (nameB (gd a.fCells (std.toN (gd (gd a.fCells k).fInstances i).fCell)).fName ++ placeB (gd (gd a.fCells k).fInstances i)))]) 1 (gd a.fCells k).fInstances.length (fun i _ => by simp)
    unfold recsC
    simp only [List.length_append, List.length_singleton]
    omega)
  have h2 : a.fCells.length * 42 ≤ 8 * 42 := Nat.mul_le_mul_right _ h8.2
  unfold recs recs0
  simp only [List.length_append, List.length_singleton]
  omega
theorem drawStream_ok {c : List Int} (hc : OKc c) : Tot (F_spec_DrawLibraryStream c) fun r => SmallL r := by
  unfold F_spec_DrawLibraryStream
  exact Tot.bind (from_ok hc) fun s hs => Tot.bind (any_ok hs) fun r hr => Tot.ret (OKl.small hr.2)
theorem wf_byte {x : Int} (h : wfI .u8 x) : 0 ≤ x ∧ x ≤ 255 := by
  have h' : (Lit.int .u8 x).wf = true := h
  have e1 : IntKind.min .u8 = 0 := rfl
  have e2 : IntKind.max .u8 = 255 := rfl
  simp [Lit.wf] at h'
  omega
theorem lawW_Records (c : List Int) (w : (wfL (wfI .u8)) c) : F_laws_FnRecords c = some true := by
  unfold F_laws_FnRecords F_laws_big
  rw [Option.bind_some]
  cases hb : std.lt 4096 (std.ofN (len c)) with
  | true => rfl
  | false =>
    rw [br_f]
    have hl := lt_decf hb
    rw [s_ofN, len_eq] at hl
    obtain ⟨a, h1, h2⟩ := drawStream_ok (c := c) ⟨by omega, fun b hm => wf_byte (w.2 b hm)⟩
    rw [h1, Option.bind_some, spec_IsValidLibrary_ok a h2, Option.bind_some, impl_LibraryStream_ok a h2]
    cases hv : okLib a with
    | false =>
      rw [Bool.not_false, br_t]
      simp only [Bool.false_eq_true, if_false, Option.bind_some, letO_eq]
      have e : std.eq (std.ofN (std.slen (recB 2 (ByteArray.mk #[])))) 5 = true := by rw [s_slen, recB_size]; exact eq_true' rfl
      have e3 : std.seq (ByteArray.mk #[]) (ByteArray.mk #[]) = true := seq_self _
      rw [e3, br_t, impl_StreamRecord_ok 2 _ (by omega) (by show (0 : Nat) ≤ 200; omega), Option.bind_some, e]
      rfl
    | true =>
      rw [Bool.not_true, br_f]
      simp only [if_true, Option.bind_some, letO_eq]
      have ee : ([1, std.ofN (len a.fCells), 0, 0, 0, std.ofN (len a.fCells), 1] : List Int) = expL a 0 := rfl
      rw [ee, exp_loop a hv, Option.bind_some, libR_catR, count_ok (recs a) (recs_ok hv) (recs_len hv), Option.bind_some, counts_eq hv, eq_true' rfl, br_t, sameInts_ok _ (by show (7 : Nat) ≤ 10000; omega), Option.bind_some, req_of (show len (expL a 0) = len (expL a a.fCells.length) from rfl)]
      rfl
end Go.Proofs.Ytnmfighfidaglaa.AM
