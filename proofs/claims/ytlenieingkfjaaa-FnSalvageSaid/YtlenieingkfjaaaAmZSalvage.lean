/-
  What the functions that the law reaches compute, and that they do. No condition.
-/
import Derived.Test.YtlenieingkfjaaaAmSY
import Derived.Test.YtlenieingkfjaaaAmP
import Derived.Test.YtlenieingkfjaaaAmSZ
namespace Go.Proofs.Ytlenieingkfjaaa.AM
open Go Go.Proofs Go.RowKit
set_option linter.unusedVariables false
set_option linter.unusedSimpArgs false
set_option maxRecDepth 100000

/- what is drawn: it is drawn, and it is small -/
def Tot {α : Type} (x : Option α) (Q : α → Prop) : Prop := ∃ r, x = some r ∧ Q r
theorem Tot.ret {α : Type} {r : α} {Q : α → Prop} (h : Q r) : Tot (some r) Q := ⟨r, rfl, h⟩
theorem Tot.bind {α β : Type} {x : Option α} {f : α → Option β} {P : α → Prop} {Q : β → Prop} (h : Tot x P) (g : ∀ r, P r → Tot (f r) Q) : Tot (x.bind f) Q := by
  obtain ⟨r, h1, h2⟩ := h
  rw [h1]
  exact g r h2
theorem Tot.req {α : Type} {p : Prop} {k : Option α} {Q : α → Prop} (h : p) (g : Tot k Q) : Tot (Go.Proofs.Ytlenieingkfjaaa.AM.req p k) Q := by rw [req_of h]; exact g
theorem Tot.br {α : Type} {b : Bool} {x y : Option α} {Q : α → Prop} (h1 : b = true → Tot x Q) (h2 : b = false → Tot y Q) : Tot (Go.Proofs.Ytlenieingkfjaaa.AM.br b x y) Q := by
  cases b with
  | true => exact h1 rfl
  | false => exact h2 rfl
theorem Tot.letO {α β : Type} {e : α} {f : α → Option β} {Q : β → Prop} (h : Tot (f e) Q) : Tot (Go.Proofs.Ytlenieingkfjaaa.AM.letO e f) Q := h
theorem Tot.mono {α : Type} {x : Option α} {P Q : α → Prop} (h : Tot x P) (g : ∀ r, P r → Q r) : Tot x Q := by
  obtain ⟨r, h1, h2⟩ := h
  exact ⟨r, h1, g r h2⟩
theorem Tot.whileP {σ ρ : Type} {step : σ → Option (σ ⊕ ρ)} {x0 : σ} {Post : ρ → Prop} (Inv : σ → Prop) (μ : σ → Nat) (h0 : Inv x0)
    (h : ∀ x, Inv x → Tot (step x) fun r => match r with | .inl x' => Inv x' ∧ μ x' < μ x | .inr r => Post r) : Tot (Go.Proofs.Ytlenieingkfjaaa.AM.whileP step x0) Post := by
  refine while_ex Inv Post μ h0 fun x hx => ?_
  obtain ⟨r, h1, h2⟩ := h x hx
  cases r with
  | inl x' => exact .inl ⟨x', h1, h2.1, h2.2⟩
  | inr r => exact .inr ⟨r, h1, h2⟩
def OKc (c : List Int) : Prop := c.length ≤ 4096 ∧ ∀ b ∈ c, 0 ≤ b ∧ b ≤ 255
structure OKs (s : Tl01Source) : Prop where
  code : OKc s.gcode
  at0 : 0 ≤ s.gat
  at1 : s.gat ≤ 4096
  seed0 : 0 ≤ s.gseed
  seed1 : s.gseed < 2147483647
theorem lt_dec {x y : Int} (h : std.lt x y = true) : x < y := of_decide_eq_true h
theorem lt_decf {x y : Int} (h : std.lt x y = false) : y ≤ x := by
  have := of_decide_eq_false (show decide (x < y) = false from h); omega
theorem le_dec {x y : Int} (h : std.le x y = true) : x ≤ y := of_decide_eq_true h
theorem le_decf {x y : Int} (h : std.le x y = false) : y < x := by
  have := of_decide_eq_false (show decide (x ≤ y) = false from h); omega
theorem remB {x m : Int} (hx : 0 ≤ x) (hm : 0 < m) : 0 ≤ std.rem x m ∧ std.rem x m < m := by
  show 0 ≤ Int.tmod x m ∧ Int.tmod x m < m
  rw [Int.tmod_eq_emod_of_nonneg hx]
  exact ⟨Int.emod_nonneg _ (by omega), Int.emod_lt_of_pos _ hm⟩
theorem quoB {x m : Int} (hx : 0 ≤ x) (hx2 : x < 4611686018427387904) (hm : 0 < m) : 0 ≤ std.quo .i64 x m := by
  show 0 ≤ IntKind.i64.wrap (Int.tdiv x m)
  have h1 : Int.tdiv x m = x / m := Int.tdiv_eq_ediv_of_nonneg hx
  have h2 : 0 ≤ x / m := Int.ediv_nonneg hx (by omega)
  have h3 : x / m ≤ x := Int.ediv_le_self _ hx
  rw [h1, wrap_id (by omega) (by omega)]
  exact h2
theorem conv_id {x : Int} (h : 0 ≤ x ∧ x ≤ 255) : std.conv .i64 x = x := wrap_id (by omega) (by omega)
theorem gd_byte {c : List Int} (h : OKc c) {i : Int} (h0 : 0 ≤ i) (h1 : i < (c.length : Int)) : 0 ≤ gd c (std.toN i) ∧ gd c (std.toN i) ≤ 255 := by
  obtain ⟨n, rfl⟩ := Int.eq_ofNat_of_zero_le h0
  rw [s_toNn]
  exact h.2 _ (gd_mem (by omega))
theorem mulS {x y : Int} (h : -9223372036854775808 ≤ x * y) (g : x * y < 9223372036854775808) : std.mul .i64 x y = x * y := wrap_id h g
/-- the next number -/
theorem next_ok {s : Tl01Source} (hs : OKs s) {n : Int} (hn : n ≤ 1000000) : Tot (F_spec_l01Next_mPbb s n) fun r => OKs r.2 ∧ 0 ≤ r.1 ∧ (r.1 < n ∨ r.1 = 0) := by
  obtain ⟨hc, h0, h1, s0, s1⟩ := hs
  unfold F_spec_l01Next_mPbb
  have hm : std.mul .i64 s.gseed 48271 = s.gseed * 48271 := mulS (by omega) (by omega)
  refine Tot.br (fun h => Tot.ret ⟨⟨hc, h0, h1, s0, s1⟩, Int.le_refl _, .inr rfl⟩) fun h => ?_
  have hn1 := le_decf h
  have hnz : std.nz n := by show n ≠ 0; omega
  refine Tot.br (fun h => ?_) fun h => ?_
  · have hlt := lt_dec h
    rw [s_ofN, len_eq] at hlt
    obtain ⟨b0, b1⟩ := gd_byte hc h0 hlt
    have hl := hc.1
    have ha : std.add .i64 s.gat 1 = s.gat + 1 := add_id (by omega) (by omega)
    refine Tot.req ⟨h0, by rw [len_eq]; exact hlt⟩ (Tot.br (fun _ => ?_) fun _ => ?_)
    · rw [hm, conv_id ⟨b0, b1⟩, add_id (x := s.gseed * 48271) (by omega) (by omega), add_id (by omega) (by omega), ha]
      obtain ⟨r0, r1⟩ := remB (x := s.gseed * 48271 + gd s.gcode (std.toN s.gat) + 1) (m := 2147483647) (by omega) (by omega)
      obtain ⟨q0, q1⟩ := remB (m := n) r0 (by omega)
      exact Tot.req (by show (2147483647 : Int) ≠ 0; omega) (Tot.req hnz (Tot.ret ⟨⟨hc, by show 0 ≤ s.gat + 1; omega, by show s.gat + 1 ≤ 4096; omega, r0, r1⟩, q0, .inl q1⟩))
    · rw [conv_id ⟨b0, b1⟩, ha]
      obtain ⟨q0, q1⟩ := remB (m := n) b0 (by omega)
      exact Tot.req hnz (Tot.ret ⟨⟨hc, by show 0 ≤ s.gat + 1; omega, by show s.gat + 1 ≤ 4096; omega, s0, s1⟩, q0, .inl q1⟩)
  · rw [hm, add_id (by omega) (by omega)]
    obtain ⟨r0, r1⟩ := remB (x := s.gseed * 48271 + 11) (m := 2147483647) (by omega) (by omega)
    have q := quoB (m := 7) r0 (by omega) (by omega)
    obtain ⟨q0, q1⟩ := remB (m := n) q (by omega)
    exact Tot.req (by show (2147483647 : Int) ≠ 0; omega) (Tot.req (by show (7 : Int) ≠ 0; omega) (Tot.req hnz (Tot.ret ⟨⟨hc, h0, h1, r0, r1⟩, q0, .inl q1⟩)))
theorem from_ok {c : List Int} (hc : OKc c) : Tot (F_spec_l01From c) OKs := by
  unfold F_spec_l01From
  have hl := hc.1
  refine Tot.bind (P := fun v : Int => 0 ≤ v ∧ v < 2147483647) (Tot.whileP (fun x : Int × Int => 0 ≤ x.1 ∧ x.1 ≤ 64 ∧ 0 ≤ x.2 ∧ x.2 < 2147483647) (fun x => (64 - x.1).toNat) (by simp) fun x hx => ?_) fun v hv => Tot.ret ⟨hc, Int.le_refl _, by simp, hv.1, hv.2⟩
  obtain ⟨v1, v2⟩ := x
  obtain ⟨x0, x1, y0, y1⟩ := hx
  simp only at x0 x1 y0 y1
  unfold L_spec_l01From_x3
  simp only [letO_eq]
  refine Tot.bind (P := fun b => b = true → v1 < (c.length : Int) ∧ v1 < 64) (Tot.br (fun h => Tot.ret fun g => ?_) fun h => Tot.ret fun g => by cases g) fun b hb => Tot.br (fun h => ?_) fun h => ?_
  · have h1 := lt_dec h
    rw [s_ofN, len_eq] at h1
    exact ⟨h1, lt_dec g⟩
  · obtain ⟨h1, h2⟩ := hb h
    obtain ⟨b0, b1⟩ := gd_byte hc x0 h1
    have hm : std.mul .i64 v2 31 = v2 * 31 := mulS (by omega) (by omega)
    rw [hm, conv_id ⟨b0, b1⟩, add_id (x := v2 * 31) (by omega) (by omega), add_id (x := v1) (by omega) (by omega)]
    obtain ⟨r0, r1⟩ := remB (x := v2 * 31 + gd c (std.toN v1)) (m := 2147483647) (by omega) (by omega)
    exact Tot.req ⟨x0, by rw [len_eq]; exact h1⟩ (Tot.req (by show (2147483647 : Int) ≠ 0; omega) (Tot.ret ⟨⟨by show 0 ≤ v1 + 1; omega, by show v1 + 1 ≤ 64; omega, r0, r1⟩, by show (64 - (v1 + 1)).toNat < (64 - v1).toNat; omega⟩))
  · exact Tot.ret ⟨y0, y1⟩
/- draws of libraries -/
theorem ofBytes_size (n : Nat) (g : Nat → Int) : (std.ofBytes n g).size = n := by
  show (((List.range n).map fun i => UInt8.ofNat (g i).toNat).toArray).size = n
  simp
theorem roomS {n b : Nat} (hn : n ≤ 1000) (hb : b ≤ 1000) : std.room n b := by
  show n * b ≤ 35184372088832
  exact Nat.le_trans (Nat.mul_le_mul hn hb) (by omega)
theorem nextS {s : Tl01Source} (hs : OKs s) {n : Int} (hn : n ≤ 1000000) {β : Type} {f : Int × Tl01Source → Option β} {Q : β → Prop} (g : ∀ v s', OKs s' → 0 ≤ v → (v < n ∨ v = 0) → Tot (f (v, s')) Q) : Tot ((F_spec_l01Next_mPbb s n).bind f) Q :=
  Tot.bind (next_ok hs hn) fun r hr => g r.1 r.2 hr.1 hr.2.1 hr.2.2
theorem box_ok {s : Tl01Source} (hs : OKs s) : Tot (F_spec_l09DrawBox_mPb s) fun r => OKs r.2 := by
  unfold F_spec_l09DrawBox_mPb
  exact nextS hs (by omega) fun _ _ h _ _ => nextS h (by omega) fun _ _ h _ _ => nextS h (by omega) fun _ _ h _ _ => nextS h (by omega) fun _ _ h _ _ => Tot.ret h
theorem shape_ok {s : Tl01Source} (hs : OKs s) : Tot (F_spec_l09DrawShape_mPb s) fun r => OKs r.2 := by
  unfold F_spec_l09DrawShape_mPb
  exact nextS hs (by omega) fun _ _ h _ _ => Tot.bind (box_ok h) fun r hr => Tot.ret hr
theorem inst_ok {s : Tl01Source} (hs : OKs s) {n : Int} (hn : n ≤ 1000000) : Tot (F_spec_l09DrawInstance_mPbb s n) fun r => OKs r.2 := by
  unfold F_spec_l09DrawInstance_mPbb
  simp only [letO_eq]
  refine nextS hs hn fun _ _ h _ _ => nextS h (by omega) fun _ _ h _ _ => nextS h (by omega) fun _ _ h _ _ => nextS h (by omega) fun _ _ h _ _ => nextS h (by omega) fun _ _ h _ _ => ?_
  refine Tot.bind (P := fun y : List Int × Int × Int × Int × Int => OKs ⟨y.1, y.2.1, y.2.2.1⟩) (Tot.br (fun _ => nextS h (by omega) fun _ _ h _ _ => nextS h (by omega) fun _ _ h _ _ => Tot.ret h) fun _ => Tot.ret h) fun y hy => ?_
  refine nextS hy (by omega) fun _ _ h _ _ => ?_
  refine Tot.bind (P := fun y : List Int × Int × Int × Int × Int => OKs ⟨y.1, y.2.1, y.2.2.1⟩) (Tot.br (fun _ => nextS h (by omega) fun _ _ h _ _ => Tot.ret h) fun _ => Tot.ret h) fun y hy => ?_
  refine nextS hy (by omega) fun _ _ h _ _ => ?_
  exact Tot.bind (P := fun _ : Int => True) (Tot.br (fun _ => Tot.ret trivial) fun _ => Tot.ret trivial) fun _ _ => Tot.ret h
theorem name_ok {s : Tl01Source} (hs : OKs s) : Tot (F_spec_l09DrawName_mPb s) fun r => OKs r.2 ∧ r.1.size ≤ 3 := by
  unfold F_spec_l09DrawName_mPb
  simp only [letO_eq]
  refine nextS hs (by omega) fun v s' h h0 h1 => ?_
  refine Tot.bind (P := fun y : List Int × List Int × Int × Int => OKs ⟨y.2.1, y.2.2.1, y.2.2.2⟩ ∧ y.1.length ≤ 3) (Tot.whileP (fun x : Int × List Int × Int × Int × List Int => OKs ⟨x.2.1, x.2.2.1, x.2.2.2.1⟩ ∧ 0 ≤ x.1 ∧ (x.2.2.2.2.length : Int) + x.1 ≤ 3) (fun x => x.1.toNat) ?_ fun x hx => ?_) fun y hy => Tot.ret ⟨hy.1, by
      rw [ofBytes_size, len_eq]; exact hy.2⟩
  · have : std.add .i64 1 v = 1 + v := add_id (by omega) (by omega)
    refine ⟨h, ?_, ?_⟩
    · simp only [this]; omega
    · simp only [this, List.length_nil]; omega
  · obtain ⟨k, c, at', sd, l⟩ := x
    obtain ⟨g1, g2, g3⟩ := hx
    simp only at g1 g2 g3
    simp only [L_spec_l09DrawName_mPb_x10, letO_eq]
    refine Tot.br (fun hk => ?_) fun hk => Tot.ret ⟨g1, by simp only; omega⟩
    have hk' := lt_dec hk
    refine nextS g1 (by omega) fun w s2 g4 g5 g6 => ?_
    have hsz : (ByteArray.mk #[97, 98, 99, 100, 120, 121, 122, 48, 49, 57]).size = 10 := rfl
    refine Tot.req ⟨g5, by rw [s_slen, hsz]; omega⟩ (Tot.req (roomS (by rw [s_nadd, len_eq, len_eq, List.length_singleton]; omega) (by omega)) (Tot.ret ⟨⟨g4, ?_, ?_⟩, ?_⟩))
    · simp only [sub_id (x := k) (y := 1) (by omega) (by omega)]; omega
    · simp only [sub_id (x := k) (y := 1) (by omega) (by omega), List.length_append, List.length_singleton]; omega
    · simp only [sub_id (x := k) (y := 1) (by omega) (by omega)]; omega
theorem label_ok {s : Tl01Source} (hs : OKs s) : Tot (F_spec_l09DrawLabel_mPb s) fun r => OKs r.2 ∧ r.1.fName.size ≤ 3 := by
  unfold F_spec_l09DrawLabel_mPb
  exact nextS hs (by omega) fun _ _ h _ _ => nextS h (by omega) fun _ _ h _ _ => nextS h (by omega) fun _ _ h _ _ => Tot.bind (name_ok h) fun r hr => Tot.ret hr
/-- what a drawn cell is -/
structure CB (n : Nat) (c : TCell) : Prop where
  name : c.fName.size ≤ 100
  shapes : c.fShapes.length ≤ n
  labels : c.fLabels.length ≤ n
  insts : c.fInstances.length ≤ n
  lnames : ∀ l ∈ c.fLabels, l.fName.size ≤ 100
theorem CB.le {n m : Nat} {c : TCell} (h : CB n c) (hn : n ≤ m) : CB m c := ⟨h.name, Nat.le_trans h.shapes hn, Nat.le_trans h.labels hn, Nat.le_trans h.insts hn, h.lnames⟩
theorem sub1 {k : Int} (h : -1000000 ≤ k ∧ k ≤ 1000000) : std.sub .i64 k 1 = k - 1 := sub_id (by omega) (by omega)
theorem add1 {k : Int} (h : -1000000 ≤ k ∧ k ≤ 1000000) : std.add .i64 k 1 = k + 1 := add_id (by omega) (by omega)
theorem and_dec {a b : Bool} {x y : Option Bool} : True := trivial
theorem library_ok {s : Tl01Source} (hs : OKs s) : Tot (F_spec_l09DrawLibrary_mPb s) fun r => OKs r.2 ∧ 1 ≤ r.1.fCells.length ∧ r.1.fCells.length ≤ 4 ∧ ∀ c ∈ r.1.fCells, CB 4 c := by
  unfold F_spec_l09DrawLibrary_mPb
  simp only [letO_eq]
  refine nextS hs (by omega) fun v s' h h0 h1 => ?_
  refine Tot.bind (P := fun y : List Int × Int × Int × List TCell => OKs ⟨y.1, y.2.1, y.2.2.1⟩ ∧ 1 ≤ y.2.2.2.length ∧ y.2.2.2.length ≤ 4 ∧ ∀ c ∈ y.2.2.2, CB 4 c)
    (Tot.whileP (fun x : Int × List Int × Int × Int × List TCell => OKs ⟨x.2.1, x.2.2.1, x.2.2.2.1⟩ ∧ (x.2.2.2.2.length : Int) = x.1 ∧ x.1 ≤ 1 + v ∧ ∀ c ∈ x.2.2.2.2, CB 4 c) (fun x => (5 - x.1).toNat) ?_ fun x hx => ?_) fun y hy => Tot.ret hy
  · exact ⟨h, rfl, by show (0 : Int) ≤ 1 + v; omega, fun c hc => by cases hc⟩
  · obtain ⟨i, c, at', sd, l⟩ := x
    obtain ⟨g1, g2, g3, g4⟩ := hx
    simp only at g1 g2 g3 g4
    have e1 : std.add .i64 1 v = 1 + v := add_id (by omega) (by omega)
    simp only [L_spec_l09DrawLibrary_mPb_x8, letO_eq, e1]
    refine Tot.br (fun hk => ?_) fun hk => ?_
    · have hk' := lt_dec hk
      refine Tot.bind (name_ok g1) fun r hr => ?_
      refine Tot.req (roomS (by rw [s_nadd, s_slen, s_slen, ofBytes_size, len_eq, List.length_singleton]; omega) (by omega)) ?_
      refine nextS hr.1 (by omega) fun v2 s2 k1 k2 k3 => ?_
      -- shapes
      refine Tot.bind (P := fun y : List Int × Int × Int × List TShape => OKs ⟨y.1, y.2.1, y.2.2.1⟩ ∧ y.2.2.2.length ≤ 4) (Tot.whileP (fun x : Int × List Int × Int × Int × List TShape => OKs ⟨x.2.1, x.2.2.1, x.2.2.2.1⟩ ∧ 0 ≤ x.1 ∧ (x.2.2.2.2.length : Int) + x.1 ≤ 4) (fun x => x.1.toNat) ⟨k1, k2, by simp only [List.length_nil]; omega⟩ fun x hx => ?_) fun y1 p1 => ?_
      · obtain ⟨k, c, at', sd, l⟩ := x
        obtain ⟨q1, q2, q3⟩ := hx
        simp only at q1 q2 q3
        simp only [L_spec_l09DrawLibrary_mPb_x32, letO_eq]
        refine Tot.br (fun hk => ?_) fun hk => Tot.ret ⟨q1, by simp only; omega⟩
        have hk' := lt_dec hk
        refine Tot.bind (shape_ok q1) fun r hr => Tot.req (roomS (by rw [s_nadd, len_eq, len_eq, List.length_singleton]; omega) (by omega)) (Tot.ret ?_)
        rw [sub1 (by omega)]
        exact ⟨⟨hr, by simp only; omega, by simp only [List.length_append, List.length_singleton]; omega⟩, by simp only; omega⟩
      refine nextS p1.1 (by omega) fun v3 s3 k4 k5 k6 => ?_
      -- labels
      refine Tot.bind (P := fun y : List Int × Int × Int × List TLabel => OKs ⟨y.1, y.2.1, y.2.2.1⟩ ∧ y.2.2.2.length ≤ 4 ∧ ∀ l ∈ y.2.2.2, l.fName.size ≤ 100) (Tot.whileP (fun x : Int × List Int × Int × Int × List TLabel => OKs ⟨x.2.1, x.2.2.1, x.2.2.2.1⟩ ∧ 0 ≤ x.1 ∧ (x.2.2.2.2.length : Int) + x.1 ≤ 4 ∧ ∀ l ∈ x.2.2.2.2, l.fName.size ≤ 100) (fun x => x.1.toNat) ⟨k4, k5, by simp only [List.length_nil]; omega, fun l hl => by cases hl⟩ fun x hx => ?_) fun y2 p2 => ?_
      · obtain ⟨k, c, at', sd, l⟩ := x
        obtain ⟨q1, q2, q3, q4⟩ := hx
        simp only at q1 q2 q3 q4
        simp only [L_spec_l09DrawLibrary_mPb_x63, letO_eq]
        refine Tot.br (fun hk => ?_) fun hk => Tot.ret ⟨q1, by simp only; omega, q4⟩
        have hk' := lt_dec hk
        refine Tot.bind (label_ok q1) fun r hr => Tot.req (roomS (by rw [s_nadd, len_eq, len_eq, List.length_singleton]; omega) (by omega)) (Tot.ret ?_)
        rw [sub1 (by omega)]
        refine ⟨⟨hr.1, by simp only; omega, by simp only [List.length_append, List.length_singleton]; omega, fun l hl => ?_⟩, by simp only; omega⟩
        rcases List.mem_append.1 hl with hl | hl
        · exact q4 l hl
        · rw [List.mem_singleton] at hl; rw [hl]; have := hr.2; omega
      refine nextS p2.1 (by omega) fun v4 s4 k7 k8 k9 => ?_
      -- instances
      refine Tot.bind (P := fun y : List Int × Int × Int × List TInstance => OKs ⟨y.1, y.2.1, y.2.2.1⟩ ∧ y.2.2.2.length ≤ 4) (Tot.whileP (fun x : Int × List Int × Int × Int × List TInstance => OKs ⟨x.2.1, x.2.2.1, x.2.2.2.1⟩ ∧ 0 ≤ x.1 ∧ (x.2.2.2.2.length : Int) + x.1 ≤ 4) (fun x => x.1.toNat) ⟨k7, k8, by simp only [List.length_nil]; omega⟩ fun x hx => ?_) fun y3 p3 => ?_
      · obtain ⟨k, c, at', sd, l⟩ := x
        obtain ⟨q1, q2, q3⟩ := hx
        simp only at q1 q2 q3
        simp only [L_spec_l09DrawLibrary_mPb_x94, letO_eq]
        refine Tot.bind (P := fun b => b = true → 0 < k) (Tot.br (fun hh => Tot.ret fun _ => lt_dec hh) fun _ => Tot.ret fun hh => by cases hh) fun b hb => Tot.br (fun hk => ?_) fun hk => Tot.ret ⟨q1, by simp only; omega⟩
        have hk' := hb hk
        refine Tot.bind (inst_ok q1 (by omega)) fun r hr => Tot.req (roomS (by rw [s_nadd, len_eq, len_eq, List.length_singleton]; omega) (by omega)) (Tot.ret ?_)
        rw [sub1 (by omega)]
        exact ⟨⟨hr, by simp only; omega, by simp only [List.length_append, List.length_singleton]; omega⟩, by simp only; omega⟩
      have hcb : CB 4 (TCell.mk (std.scat (std.ofBytes (len [std.conv .u8 (std.add .i64 97 i)]) (fun j => gd [std.conv .u8 (std.add .i64 97 i)] (0 + j))) r.1) y1.2.2.2 y2.2.2.2 y3.2.2.2) := by
        refine ⟨?_, p1.2, p2.2.1, p3.2, p2.2.2⟩
        show (_ ++ _ : ByteArray).size ≤ 100
        rw [ByteArray.size_append, ofBytes_size, len_eq, List.length_singleton]
        have := hr.2; omega
      refine Tot.bind (P := fun y => y = l ++ [TCell.mk (std.scat (std.ofBytes (len [std.conv .u8 (std.add .i64 97 i)]) (fun j => gd [std.conv .u8 (std.add .i64 97 i)] (0 + j))) r.1) y1.2.2.2 y2.2.2.2 y3.2.2.2]) (Tot.req (roomS (by rw [s_nadd, len_eq, len_eq, List.length_singleton]; omega) (by omega)) (Tot.ret rfl)) fun y hy => Tot.ret ?_
      subst hy
      rw [add1 (by omega)]
      refine ⟨⟨p3.1, ?_, by simp only; omega, fun c hc => ?_⟩, by simp only; omega⟩
      · simp only [List.length_append, List.length_singleton]; omega
      · rcases List.mem_append.1 hc with hc | hc
        · exact g4 c hc
        · rw [List.mem_singleton] at hc; rw [hc]; exact hcb
    · have := lt_decf hk
      exact Tot.ret ⟨g1, by simp only; omega, by simp only; omega, g4⟩
/- draws of libraries that are mostly valid -/
theorem set_CB {n : Nat} {l : List TCell} {i : Nat} {x : TCell} (h : ∀ c ∈ l, CB n c) (hx : CB n x) : ∀ c ∈ l.set i x, CB n c := by
  intro c hc
  rcases List.mem_or_eq_of_mem_set hc with h1 | h1
  · exact h c h1
  · rw [h1]; exact hx
def PB (m : Nat) (y : List Int × Int × Int × List TCell) : Prop := OKs ⟨y.1, y.2.1, y.2.2.1⟩ ∧ y.2.2.2.length = m ∧ ∀ c ∈ y.2.2.2, CB 40 c
set_option maxHeartbeats 1000000 in
theorem any_ok {s : Tl01Source} (hs : OKs s) : Tot (F_spec_l09DrawAny_mPb s) fun r => OKs r.2 ∧ r.1.fCells.length ≤ 4 ∧ (∀ c ∈ r.1.fCells, CB 40 c) ∧ 1 ≤ r.1.fCells.length := by
  unfold F_spec_l09DrawAny_mPb
  simp only [letO_eq]
  refine Tot.bind (library_ok hs) fun y1 hy1 => ?_
  obtain ⟨⟨L⟩, s1⟩ := y1
  obtain ⟨k1, k2, k3, k4⟩ := hy1
  simp only at k1 k2 k3 k4
  refine nextS k1 (by rw [s_ofN, len_eq]; simp only; omega) fun v s2 g g0 g1 => ?_
  have hv : v < (L.length : Int) := by rw [s_ofN, len_eq] at g1; simp only at g1; omega
  obtain ⟨i, rfl⟩ := Int.eq_ofNat_of_zero_le g0
  have hi : i < L.length := by omega
  refine Tot.req (inRl hi) ?_
  simp only [s_toNn, s_nadd, Nat.zero_add]
  have c0 : CB 4 (gd L i) := k4 _ (gd_mem hi)
  have all40 : ∀ c ∈ L, CB 40 c := fun c hc => (k4 c hc).le (by omega)
  refine nextS g (by omega) fun w s3 h h0 h1 => ?_
  refine Tot.bind (P := fun y : List TCell × List Int × Int × Int => OKs ⟨y.2.1, y.2.2.1, y.2.2.2⟩ ∧ y.1.length = L.length ∧ ∀ c ∈ y.1, CB 40 c) (Tot.br (fun _ => ?_) fun _ => ?_) fun y hy => Tot.req (by rw [len_eq, len_eq, hy.2.1]) (Tot.ret ⟨hy.1, by show y.1.length ≤ 4; omega, hy.2.2, by show 1 ≤ y.1.length; omega⟩)
  · refine Tot.bind (P := fun y : List TCell => y.length = L.length ∧ ∀ c ∈ y, CB 40 c) (Tot.req (inRl (i := 0) (by omega)) (Tot.ret ⟨by simp, set_CB all40 ?_⟩)) fun y hy => Tot.ret ⟨h, hy⟩
    have := (k4 _ (gd_mem (show 0 < L.length by omega))).name
    exact CB.le ⟨by show (gd L (std.toN 0)).fName.size ≤ 100; rw [show std.toN 0 = 0 from rfl]; exact this, c0.shapes, c0.labels, c0.insts, c0.lnames⟩ (by omega)
  · refine Tot.bind (P := PB L.length) (Tot.br (fun _ => ?_) fun _ => ?_) fun y hy => Tot.ret hy
    · refine Tot.bind (P := PB L.length) (nextS h (by omega) fun q s4 e e0 e1 => ?_) fun y hy => Tot.ret hy
      obtain ⟨q, rfl⟩ := Int.eq_ofNat_of_zero_le e0
      have hq : q < ([(ByteArray.mk #[]), (ByteArray.mk #[65]), (ByteArray.mk #[97, 98, 99, 100, 101, 102, 103, 104, 105]), (ByteArray.mk #[97, 32, 98])] : List ByteArray).length := by simp only [List.length_cons, List.length_nil]; omega
      refine Tot.req (inRl hq) (Tot.ret ⟨e, by simp, set_CB all40 ?_⟩)
      rw [s_toNn]
      have hm := gd_mem hq
      refine CB.le ⟨?_, c0.shapes, c0.labels, c0.insts, c0.lnames⟩ (by omega)
      have hz : ∀ x ∈ ([(ByteArray.mk #[]), (ByteArray.mk #[65]), (ByteArray.mk #[97, 98, 99, 100, 101, 102, 103, 104, 105]), (ByteArray.mk #[97, 32, 98])] : List ByteArray), x.size ≤ 100 := by decide
      exact hz _ hm
    · refine Tot.bind (P := PB L.length) (Tot.br (fun _ => ?_) fun _ => ?_) fun y hy => Tot.ret hy
      · refine Tot.bind (P := PB L.length) (nextS h (by omega) fun _ _ h _ _ => nextS h (by omega) fun _ _ h _ _ => nextS h (by omega) fun _ _ h _ _ => nextS h (by omega) fun _ _ h _ _ => nextS h (by omega) fun _ _ h _ _ => ?_) fun y hy => Tot.ret hy
        have := c0.shapes
        refine Tot.req (roomS (by simp only [s_nadd, len_eq, List.length_singleton]; omega) (by omega)) (Tot.ret ⟨h, by simp, set_CB all40 ⟨c0.name, by simp only [List.length_append, List.length_singleton]; omega, by have := c0.labels; simp only; omega, by have := c0.insts; simp only; omega, c0.lnames⟩⟩)
      · refine Tot.bind (P := PB L.length) (Tot.br (fun _ => ?_) fun _ => ?_) fun y hy => Tot.ret hy
        · have e1 : std.add .i64 (i : Int) 1 = (i : Int) + 1 := add1 (by omega)
          refine Tot.bind (inst_ok h (by rw [e1]; omega)) fun r hr => nextS hr (by omega) fun _ _ h _ _ => nextS h (by omega) fun _ _ h _ _ => ?_
          have := c0.insts
          refine Tot.bind (P := fun y : List TCell => y.length = L.length ∧ ∀ c ∈ y, CB 40 c) (Tot.req (roomS (by simp only [s_nadd, len_eq, List.length_singleton]; omega) (by omega)) (Tot.ret ⟨by simp, set_CB all40 ⟨c0.name, by have := c0.shapes; simp only; omega, by have := c0.labels; simp only; omega, by simp only [List.length_append, List.length_singleton]; omega, c0.lnames⟩⟩)) fun y hy => Tot.ret ⟨h, hy⟩
        · refine Tot.bind (P := PB L.length) (Tot.br (fun _ => ?_) fun _ => ?_) fun y hy => Tot.ret hy
          · refine Tot.bind (P := PB L.length) (nextS h (by omega) fun _ _ h _ _ => nextS h (by omega) fun _ _ h _ _ => nextS h (by omega) fun _ _ h _ _ => Tot.bind (name_ok h) fun r hr => ?_) fun y hy => Tot.ret hy
            have := c0.labels
            refine Tot.req (roomS (by simp only [s_nadd, len_eq, List.length_singleton]; omega) (by omega)) (Tot.ret ⟨hr.1, by simp, set_CB all40 ⟨c0.name, by have := c0.shapes; simp only; omega, by simp only [List.length_append, List.length_singleton]; omega, by have := c0.insts; simp only; omega, fun l hl => ?_⟩⟩)
            rcases List.mem_append.1 hl with hl | hl
            · exact c0.lnames l hl
            · rw [List.mem_singleton] at hl; rw [hl]; have := hr.2; simp only; omega
          · refine Tot.bind (P := PB L.length) (Tot.br (fun _ => ?_) fun _ => Tot.ret ⟨h, rfl, all40⟩) fun y hy => Tot.ret hy
            refine Tot.bind (P := PB L.length) (Tot.whileP (fun x : Int × List Int × Int × Int × List TCell => OKs ⟨x.2.1, x.2.2.1, x.2.2.2.1⟩ ∧ 0 ≤ x.1 ∧ x.1 ≤ 25 ∧ x.2.2.2.2.length = L.length ∧ ∀ c ∈ x.2.2.2.2, CB (4 + x.1.toNat) c) (fun x => (25 - x.1).toNat) ⟨h, Int.le_refl _, by simp, rfl, k4⟩ fun x hx => ?_) fun y hy => Tot.ret hy
            obtain ⟨j, c, at', sd, l⟩ := x
            obtain ⟨q1, q2, q3, q4, q5⟩ := hx
            simp only at q1 q2 q3 q4 q5
            simp only [L_spec_l09DrawAny_mPb_x167, letO_eq, s_toNn, s_nadd, Nat.zero_add]
            refine Tot.br (fun hk => ?_) fun hk => Tot.ret ⟨q1, q4, fun c hc => (q5 c hc).le (by omega)⟩
            have hk' := lt_dec hk
            have hil : i < l.length := by omega
            have ci := q5 _ (gd_mem hil)
            have hsh := ci.shapes
            refine Tot.bind (P := fun y : List Int × Int × Int × List TCell => OKs ⟨y.1, y.2.1, y.2.2.1⟩ ∧ y.2.2.2.length = L.length ∧ ∀ c ∈ y.2.2.2, CB (4 + (j.toNat + 1)) c) (Tot.bind (shape_ok q1) fun r hr => Tot.req (roomS (by simp only [s_nadd, len_eq, List.length_singleton]; omega) (by omega)) (Tot.req (by rw [len_eq, len_eq, q4]) (Tot.ret ⟨hr, by simp [q4], set_CB (n := 4 + (j.toNat + 1)) (fun c hc => (q5 c hc).le (by omega)) ⟨ci.name, by simp only [List.length_append, List.length_singleton]; omega, by have := ci.labels; simp only; omega, by have := ci.insts; simp only; omega, ci.lnames⟩⟩))) fun y hy => Tot.ret ?_
            rw [add1 (by omega)]
            exact ⟨⟨hy.1, by simp only; omega, by simp only; omega, hy.2.1, fun c hc => (hy.2.2 c hc).le (by simp only; omega)⟩, by simp only; omega⟩
def OKl (a : TLibrary) : Prop := a.fCells.length ≤ 4 ∧ (∀ c ∈ a.fCells, CB 40 c) ∧ 1 ≤ a.fCells.length
theorem OKl.small {a : TLibrary} (h : OKl a) : SmallL a := ⟨by have := h.1; omega, fun c hc => by
  have g := h.2.1 c hc
  exact ⟨by have := g.name; omega, by have := g.shapes; omega, by have := g.labels; omega, by have := g.insts; omega, fun l hl => by have := g.lnames l hl; omega⟩⟩
/- reading fields that were written -/
theorem oneB_id {x : Int} (h : 0 ≤ x ∧ x ≤ 255) : oneB x = [x] := by
  show [std.conv .u8 x] = [x]
  rw [conv8_eq, Int.emod_eq_of_lt (by omega) (by omega)]
theorem rd_byte {b : Int} (hb : 0 ≤ b ∧ b ≤ 255) (l : List Int) (z : Bool) : F_impl_byteReader_one_mPb ⟨ofL (b :: l), z⟩ = some (b, ⟨ofL l, z⟩) := by
  unfold F_impl_byteReader_one_mPb
  have hl : std.slen (ofL (b :: l)) = l.length + 1 := by rw [ofL_len]; rfl
  have g0 : gd (b :: l) 0 = b := rfl
  have hs : std.sat (ofL (b :: l)) 0 = b := by rw [ofL_sat (by simp) (by rw [g0]; exact hb), g0]
  have he : std.ssub (ofL (b :: l)) 1 (std.slen (ofL (b :: l))) = ofL l := by
    have h1 := ssub_app (ofL [b]) (ofL l)
    rw [ofL_app, ofL_size] at h1
    exact h1
  simp only
  rw [hl, lt_false (by rw [s_ofN]; omega), br_f, req_of (show std.inR 0 (l.length + 1) from ⟨by omega, by omega⟩), req_of (show std.upTo 1 (l.length + 1) from ⟨by omega, by omega⟩), show std.toN 0 = 0 from rfl, show std.toN 1 = 1 from rfl, hs, conv64 (by omega), ← hl, he]
theorem rd_one {x : Int} (h : 0 ≤ x ∧ x ≤ 255) (l : List Int) (z : Bool) : F_impl_byteReader_one_mPb ⟨ofL (oneB x ++ l), z⟩ = some (x, ⟨ofL l, z⟩) := by
  rw [oneB_id h]; exact rd_byte h l z
theorem shr8' {x : Int} : std.shr .i64 x 8 = x / 256 := shr8 x
theorem rd_two {x : Int} (h : 0 ≤ x ∧ x ≤ 65535) (l : List Int) (z : Bool) : F_impl_byteReader_two_mPb ⟨ofL (twoR x ++ l), z⟩ = some (x, ⟨ofL l, z⟩) := by
  have e : twoR x = [x / 256, x % 256] := by
    unfold twoR
    rw [conv8_eq, conv8_eq, shr8', Int.emod_eq_of_lt (show 0 ≤ x / 256 by omega) (by omega)]
  unfold F_impl_byteReader_two_mPb
  rw [e, List.cons_append, List.cons_append, List.nil_append, rd_byte (by omega), Option.bind_some]
  simp only
  rw [req_of (by rw [s_nneg]; omega), rd_byte (by omega), Option.bind_some]
  have := num2 (a := x / 256) (b := x % 256) (by omega) (by omega)
  rw [conv64 (by omega), conv64 (by omega)] at this
  simp only [this]
  rw [show x / 256 * 256 + x % 256 = x by omega]
theorem rd_coord {x : Int} (h : -32768 ≤ x ∧ x ≤ 32767) (l : List Int) (z : Bool) : F_impl_byteReader_coordinate_mPb ⟨ofL (twoB x ++ l), z⟩ = some (x, ⟨ofL l, z⟩) := by
  unfold F_impl_byteReader_coordinate_mPb twoB
  rw [add_id (by omega) (by omega), rd_two (by omega), Option.bind_some]
  simp only
  rw [sub_id (by omega) (by omega), show x + 32768 - 32768 = x by omega]
theorem rd_name {s : ByteArray} (h : s.size ≤ 255) (l : List Int) (z : Bool) : F_impl_byteReader_name_mPb ⟨ofL (nameB s ++ l), z⟩ = some (s, ⟨ofL l, z⟩) := by
  unfold F_impl_byteReader_name_mPb nameB
  rw [List.append_assoc, s_ofN, s_slen, rd_one (by omega), Option.bind_some]
  simp only
  have e : ofL (strL s ++ l) = std.scat s (ofL l) := by rw [← ofL_app, ofL_str]
  rw [e]
  have hl : std.slen (std.scat s (ofL l)) = s.size + l.length := by rw [s_slen, scat_size, ofL_size]
  have hu : std.upTo ((s.size : Nat) : Int) (std.slen (std.scat s (ofL l))) := ⟨by omega, by rw [hl]; omega⟩
  rw [lt_false (by rw [s_ofN, hl]; omega), br_f, req_of hu, req_of hu, s_toNn, ssub_tail, ssub_head]
theorem rd_shape {s : TShape} (h : okShape s = true) (l : List Int) (z : Bool) : F_impl_byteReader_shape_mPb ⟨ofL (shapeB s ++ l), z⟩ = some (s, ⟨ofL l, z⟩) := by
  unfold okShape okRect at h
  simp only [Bool.and_eq_true, wB_iff', s_le, s_lt, decide_eq_true_eq] at h
  unfold F_impl_byteReader_shape_mPb shapeB
  simp only [List.flatMap_cons, List.flatMap_nil, List.append_nil, List.append_assoc]
  rw [rd_one (by omega), Option.bind_some]
  simp only
  rw [rd_coord (by omega), Option.bind_some]
  simp only
  rw [rd_coord (by omega), Option.bind_some]
  simp only
  rw [rd_coord (by omega), Option.bind_some]
  simp only
  rw [rd_coord (by omega), Option.bind_some]
theorem rd_label {s : TLabel} (h : okLabel s = true) (l : List Int) (z : Bool) : F_impl_byteReader_label_mPb ⟨ofL (labelB s ++ l), z⟩ = some (s, ⟨ofL l, z⟩) := by
  unfold okLabel okPoint at h
  simp only [Bool.and_eq_true, wB_iff'] at h
  have hn := isName_size h.2.2
  unfold F_impl_byteReader_label_mPb labelB
  simp only [List.flatMap_cons, List.flatMap_nil, List.append_nil, List.append_assoc]
  rw [rd_one (by omega), Option.bind_some]
  simp only
  rw [rd_coord (by omega), Option.bind_some]
  simp only
  rw [rd_coord (by omega), Option.bind_some]
  simp only
  rw [rd_name (by omega), Option.bind_some]
theorem rd_place {x : TInstance} {k : Int} (hk : 0 ≤ k ∧ k ≤ 1000) (h : okInst x k = true) (l : List Int) (z : Bool) : F_impl_byteReader_instance_mPb ⟨ofL (placeB x ++ l), z⟩ = some (⟨0, x.fPlace, x.fColumns, x.fRows, x.fStepX, x.fStepY⟩, ⟨ofL l, z⟩) := by
  unfold okInst okTr at h
  simp only [Bool.and_eq_true, wB_iff'] at h
  unfold F_impl_byteReader_instance_mPb placeB
  simp only [List.flatMap_cons, List.flatMap_nil, List.append_nil, List.append_assoc]
  rw [rd_one (by omega), Option.bind_some]
  simp only
  rw [rd_coord (by omega), Option.bind_some]
  simp only
  rw [rd_coord (by omega), Option.bind_some]
  simp only
  rw [rd_one (by omega), Option.bind_some]
  simp only
  rw [rd_one (by omega), Option.bind_some]
  simp only
  rw [rd_coord (by omega), Option.bind_some]
  simp only
  rw [rd_coord (by omega), Option.bind_some]
theorem whole_ok : F_impl_streamReader_take_1_mPP ⟨ofL [], false⟩ = some (true, ⟨ofL [], false⟩, ⟨ofL [], false⟩) := by
  unfold F_impl_streamReader_take_1_mPP
  have e : std.seq (ofL []) (ByteArray.mk #[]) = true := seq_self _
  simp only [Bool.not_false, br_t, e, Option.bind_some, letO_eq]
/- taking records, one kind after the other -/
theorem poss_head {st : TstreamReader} (hb : st.gbegun = false) (hd : st.gdone = false) : F_impl_streamReader_possible_mpb st 1 = some true := by
  unfold F_impl_streamReader_possible_mpb
  rw [hd, br_f, hb, Bool.not_false, br_t, eq_true' rfl]
theorem poss_cell {st : TstreamReader} (hb : st.gbegun = true) (hd : st.gdone = false) (hi : st.ginside = false) (hl : (st.glib.fCells.length : Int) < st.gcells) : F_impl_streamReader_possible_mpb st 2 = some true := by
  unfold F_impl_streamReader_possible_mpb
  rw [hd, br_f, hb, Bool.not_true, br_f, hi, Bool.not_false, br_t, lt_true (by rw [s_ofN, len_eq]; exact hl), Option.bind_some]
  simp only [letO_eq, br_t]
  rw [eq_true' rfl]
theorem poss_in {st : TstreamReader} (hb : st.gbegun = true) (hd : st.gdone = false) (hi : st.ginside = true) (k : Int)
    (h : (k = 3 ∧ st.gcell.fLabels = [] ∧ st.gcell.fInstances = []) ∨ (k = 4 ∧ st.gcell.fInstances = []) ∨ k = 5 ∨ k = 6) : F_impl_streamReader_possible_mpb st k = some true := by
  unfold F_impl_streamReader_possible_mpb
  rw [hd, br_f, hb, Bool.not_true, br_f, hi, Bool.not_true, br_f, Option.bind_some]
  simp only [letO_eq, br_f]
  rcases h with ⟨rfl, h1, h2⟩ | ⟨rfl, h2⟩ | rfl | rfl
  · rw [h1, h2]; rfl
  · rw [h2]; rfl
  · rfl
  · rfl
theorem poss_end {st : TstreamReader} (hb : st.gbegun = true) (hd : st.gdone = false) (hi : st.ginside = false) (hl : (st.glib.fCells.length : Int) = st.gcells) : F_impl_streamReader_possible_mpb st 7 = some true := by
  unfold F_impl_streamReader_possible_mpb
  rw [hd, br_f, hb, Bool.not_true, br_f, hi, Bool.not_false, br_t, lt_false (by rw [s_ofN, len_eq]; omega), Option.bind_some]
  simp only [letO_eq, br_f, br_t]
  rw [eq_true' rfl]
theorem roomP {n b : Nat} (hn : n ≤ 10000000) (hb : b ≤ 1000) : std.room n b := by
  rw [s_room]
  exact Nat.le_trans (Nat.mul_le_mul hn hb) (by omega)
theorem e11 : std.eq 1 1 = true := rfl
theorem e21 : std.eq 2 1 = false := rfl
theorem e22 : std.eq 2 2 = true := rfl
theorem e31 : std.eq 3 1 = false := rfl
theorem e32 : std.eq 3 2 = false := rfl
theorem e33 : std.eq 3 3 = true := rfl
theorem e41 : std.eq 4 1 = false := rfl
theorem e42 : std.eq 4 2 = false := rfl
theorem e43 : std.eq 4 3 = false := rfl
theorem e44 : std.eq 4 4 = true := rfl
theorem e51 : std.eq 5 1 = false := rfl
theorem e52 : std.eq 5 2 = false := rfl
theorem e53 : std.eq 5 3 = false := rfl
theorem e54 : std.eq 5 4 = false := rfl
theorem e55 : std.eq 5 5 = true := rfl
theorem e61 : std.eq 6 1 = false := rfl
theorem e62 : std.eq 6 2 = false := rfl
theorem e63 : std.eq 6 3 = false := rfl
theorem e64 : std.eq 6 4 = false := rfl
theorem e65 : std.eq 6 5 = false := rfl
theorem e66 : std.eq 6 6 = true := rfl
theorem e71 : std.eq 7 1 = false := rfl
theorem e72 : std.eq 7 2 = false := rfl
theorem e73 : std.eq 7 3 = false := rfl
theorem e74 : std.eq 7 4 = false := rfl
theorem e75 : std.eq 7 5 = false := rfl
theorem e76 : std.eq 7 6 = false := rfl
theorem e77 : std.eq 7 7 = true := rfl
set_option maxHeartbeats 2000000 in
theorem take_head {st : TstreamReader} (hb : st.gbegun = false) (hd : st.gdone = false) {n : Nat} (hn : 1 ≤ n ∧ n ≤ 8) (pre : ByteArray) :
    F_impl_streamReader_take_mPoooobbb st 1 (ofL [1, std.conv .u8 (n : Int)]) pre = some (0, ⟨true, st.gdone, (n : Int), st.ginside, st.gcell, st.glib⟩) := by
  have hw : wB (n : Int) 1 8 = true := (wB_iff' _ _ _).2 (by omega)
  have h1 := rd_byte (b := 1) (by omega) [std.conv .u8 (n : Int)] false
  have h2 := rd_one (x := (n : Int)) (by omega) [] false
  have h2' : F_impl_byteReader_one_mPb ⟨ofL [std.conv .u8 (n : Int)], false⟩ = some ((n : Int), ⟨ofL [], false⟩) := h2
  unfold F_impl_streamReader_take_mPoooobbb
  rw [poss_head hb hd, Option.bind_some]
  simp only [Bool.not_true, br_f, e11, br_t, h1, h2', Option.bind_some, whole_ok, letO_eq, s_not, impl_within_ok, hw]
set_option maxHeartbeats 2000000 in
theorem take_cell {st : TstreamReader} (hb : st.gbegun = true) (hd : st.gdone = false) (hi : st.ginside = false) (hl : (st.glib.fCells.length : Int) < st.gcells) (hl8 : st.glib.fCells.length ≤ 8) {s : ByteArray} (hs : isName s = true) (hf : namedI st.glib.fCells s < 0) (pre : ByteArray) :
    F_impl_streamReader_take_mPoooobbb st 2 (ofL (nameB s)) pre = some (0, ⟨st.gbegun, st.gdone, st.gcells, true, ⟨s, [], [], []⟩, st.glib⟩) := by
  have hsz := isName_size hs
  have h1 := rd_name (s := s) (by omega) [] false
  rw [List.append_nil] at h1
  unfold F_impl_streamReader_take_mPoooobbb
  rw [poss_cell hb hd hi hl, Option.bind_some]
  have hnm : F_impl_named st.glib s = some (namedI st.glib.fCells s) := impl_named_ok _ _ (by omega)
  simp only [Bool.not_true, br_f, e21, e22, br_t, h1, Option.bind_some, whole_ok, letO_eq, impl_IsName_ok _ (show s.size ≤ maxLen by unfold maxLen; omega), hs, hnm, le_false (show ¬ 0 ≤ namedI st.glib.fCells s by omega)]
set_option maxHeartbeats 2000000 in
theorem take_shape {st : TstreamReader} (hb : st.gbegun = true) (hd : st.gdone = false) (hi : st.ginside = true) (h4 : st.gcell.fLabels = []) (h5 : st.gcell.fInstances = []) (hl : st.gcell.fShapes.length < 24) {s : TShape} (hs : okShape s = true) (pre : ByteArray) :
    F_impl_streamReader_take_mPoooobbb st 3 (ofL (shapeB s)) pre = some (0, ⟨st.gbegun, st.gdone, st.gcells, st.ginside, ⟨st.gcell.fName, st.gcell.fShapes ++ [s], st.gcell.fLabels, st.gcell.fInstances⟩, st.glib⟩) := by
  have h1 := rd_shape hs [] false
  rw [List.append_nil] at h1
  unfold F_impl_streamReader_take_mPoooobbb
  rw [poss_in hb hd hi 3 (.inl ⟨rfl, h4, h5⟩), Option.bind_some]
  have hr : std.room (std.nadd (len st.gcell.fShapes) (len [s])) 40 := roomP (by rw [s_nadd, len_eq, len_eq]; simp; omega) (by omega)
  simp only [Bool.not_true, br_f, e31, e32, e33, br_t, h1, Option.bind_some, whole_ok, letO_eq, eq_false' (show ((std.ofN (len st.gcell.fShapes)) : Int) ≠ 24 by rw [s_ofN, len_eq]; omega), impl_validShape_ok, hs, req_of hr]
set_option maxHeartbeats 2000000 in
theorem take_label {st : TstreamReader} (hb : st.gbegun = true) (hd : st.gdone = false) (hi : st.ginside = true) (h5 : st.gcell.fInstances = []) (hl : st.gcell.fLabels.length < 8) {s : TLabel} (hs : okLabel s = true) (pre : ByteArray) :
    F_impl_streamReader_take_mPoooobbb st 4 (ofL (labelB s)) pre = some (0, ⟨st.gbegun, st.gdone, st.gcells, st.ginside, ⟨st.gcell.fName, st.gcell.fShapes, st.gcell.fLabels ++ [s], st.gcell.fInstances⟩, st.glib⟩) := by
  have h1 := rd_label hs [] false
  rw [List.append_nil] at h1
  have hn : s.fName.size ≤ maxLen := by
    unfold okLabel at hs
    simp only [Bool.and_eq_true] at hs
    have := isName_size hs.2.2
    unfold maxLen; omega
  unfold F_impl_streamReader_take_mPoooobbb
  rw [poss_in hb hd hi 4 (.inr (.inl ⟨rfl, h5⟩)), Option.bind_some]
  have hr : std.room (std.nadd (len st.gcell.fLabels) (len [s])) 40 := roomP (by rw [s_nadd, len_eq, len_eq]; simp; omega) (by omega)
  simp only [Bool.not_true, br_f, e41, e42, e43, e44, br_t, h1, Option.bind_some, whole_ok, letO_eq, eq_false' (show ((std.ofN (len st.gcell.fLabels)) : Int) ≠ 8 by rw [s_ofN, len_eq]; omega), impl_validLabel_ok _ hn, hs, req_of hr]
set_option maxHeartbeats 2000000 in
theorem take_inst {st : TstreamReader} (hb : st.gbegun = true) (hd : st.gdone = false) (hi : st.ginside = true) (hl : st.gcell.fInstances.length < 8) (hl8 : st.glib.fCells.length ≤ 8) {x : TInstance} (hx : okInst x (st.glib.fCells.length : Int) = true) {s : ByteArray} (hs : s.size ≤ 8) (hn : namedI st.glib.fCells s = x.fCell) (pre : ByteArray) :
    F_impl_streamReader_take_mPoooobbb st 5 (ofL (nameB s ++ placeB x)) pre = some (0, ⟨st.gbegun, st.gdone, st.gcells, st.ginside, ⟨st.gcell.fName, st.gcell.fShapes, st.gcell.fLabels, st.gcell.fInstances ++ [x]⟩, st.glib⟩) := by
  have h1 := rd_name (s := s) (by omega) (placeB x) false
  have h2 := rd_place (k := (st.glib.fCells.length : Int)) (by omega) hx [] false
  rw [List.append_nil] at h2
  have h0 : 0 ≤ x.fCell := by
    unfold okInst at hx
    rw [Bool.and_eq_true, wB_iff'] at hx
    exact hx.1.1
  unfold F_impl_streamReader_take_mPoooobbb
  rw [poss_in hb hd hi 5 (.inr (.inr (.inl rfl))), Option.bind_some]
  have hnm : F_impl_named st.glib s = some x.fCell := by rw [impl_named_ok _ _ (by omega), hn]
  have hr : std.room (std.nadd (len st.gcell.fInstances) (len [x])) 64 := roomP (by rw [s_nadd, len_eq, len_eq]; simp; omega) (by omega)
  have hx' : okInst (TInstance.mk x.fCell x.fPlace x.fColumns x.fRows x.fStepX x.fStepY) (std.ofN (len st.glib.fCells)) = true := by rw [s_ofN, len_eq]; exact hx
  simp only [Bool.not_true, br_f, e51, e52, e53, e54, e55, br_t, h1, h2, Option.bind_some, hnm, whole_ok, letO_eq, eq_false' (show ((std.ofN (len st.gcell.fInstances)) : Int) ≠ 8 by rw [s_ofN, len_eq]; omega), lt_false (show ¬ x.fCell < 0 by omega), impl_validInstance_ok, hx', req_of hr]
theorem eqI3 (l : List Int) (h : l.length ≤ 1000) : F_slices_Equal_Lint64_int64 l l = some true := by
  unfold F_slices_Equal_Lint64_int64
  rw [notEq (eq_true' rfl), br_f, while_eq (r := .inr ()) l.length (fun i hi => by
    simp only [L_slices_Equal_Lint64_int64_x2, letO_eq, s_toNn]
    rw [ltl_t hi, br_t, req_of (inRl hi), req_of (inRl hi), notEq (eq_true' rfl), br_f, inc_nat (by omega)]) (by
    simp only [L_slices_Equal_Lint64_int64_x2, letO_eq]
    rw [ltl_f, br_f]), Option.bind_some]
set_option maxHeartbeats 2000000 in
theorem take_fin {st : TstreamReader} (hb : st.gbegun = true) (hd : st.gdone = false) (hi : st.ginside = true) (hl8 : st.glib.fCells.length ≤ 8) (n3 : st.gcell.fShapes.length ≤ 24) (n4 : st.gcell.fLabels.length ≤ 8) (n5 : st.gcell.fInstances.length ≤ 8) (pre : ByteArray) :
    F_impl_streamReader_take_mPoooobbb st 6 (ofL [std.conv .u8 (std.ofN (len st.gcell.fShapes)), std.conv .u8 (std.ofN (len st.gcell.fLabels)), std.conv .u8 (std.ofN (len st.gcell.fInstances))]) pre = some (0, ⟨st.gbegun, st.gdone, st.gcells, false, ⟨ByteArray.mk #[], [], [], []⟩, ⟨st.glib.fCells ++ [st.gcell]⟩⟩) := by
  have h1 : F_impl_byteReader_one_mPb ⟨ofL [std.conv .u8 (std.ofN (len st.gcell.fShapes)), std.conv .u8 (std.ofN (len st.gcell.fLabels)), std.conv .u8 (std.ofN (len st.gcell.fInstances))], false⟩ = _ := rd_one (x := std.ofN (len st.gcell.fShapes)) (by rw [s_ofN, len_eq]; omega) [std.conv .u8 (std.ofN (len st.gcell.fLabels)), std.conv .u8 (std.ofN (len st.gcell.fInstances))] false
  have h2 : F_impl_byteReader_one_mPb ⟨ofL [std.conv .u8 (std.ofN (len st.gcell.fLabels)), std.conv .u8 (std.ofN (len st.gcell.fInstances))], false⟩ = _ := rd_one (x := std.ofN (len st.gcell.fLabels)) (by rw [s_ofN, len_eq]; omega) [std.conv .u8 (std.ofN (len st.gcell.fInstances))] false
  have h3 : F_impl_byteReader_one_mPb ⟨ofL [std.conv .u8 (std.ofN (len st.gcell.fInstances))], false⟩ = _ := rd_one (x := std.ofN (len st.gcell.fInstances)) (by rw [s_ofN, len_eq]; omega) [] false
  unfold F_impl_streamReader_take_mPoooobbb
  rw [poss_in hb hd hi 6 (.inr (.inr (.inr rfl))), Option.bind_some]
  have hr : std.room (std.nadd (len st.glib.fCells) (len [st.gcell])) 88 := roomP (by rw [s_nadd, len_eq, len_eq]; simp; omega) (by omega)
  simp only [Bool.not_true, br_f, e61, e62, e63, e64, e65, e66, br_t, h1, h2, h3, Option.bind_some, whole_ok, letO_eq, eqI3 [std.ofN (len st.gcell.fShapes), std.ofN (len st.gcell.fLabels), std.ofN (len st.gcell.fInstances)] (by simp), req_of hr]
set_option maxHeartbeats 2000000 in
theorem take_end {st : TstreamReader} (hb : st.gbegun = true) (hd : st.gdone = false) (hi : st.ginside = false) (hl : (st.glib.fCells.length : Int) = st.gcells) {pre : ByteArray} (hp : pre.size ≤ 1000000) :
    F_impl_streamReader_take_mPoooobbb st 7 (ofL (twoR (ck pre))) pre = some (0, ⟨st.gbegun, true, st.gcells, st.ginside, st.gcell, st.glib⟩) := by
  have hck := ck_rng pre (by omega)
  have h1 := rd_two (x := ck pre) (by omega) [] false
  rw [List.append_nil] at h1
  unfold F_impl_streamReader_take_mPoooobbb
  rw [poss_end hb hd hi hl, Option.bind_some]
  simp only [Bool.not_true, br_f, e71, e72, e73, e74, e75, e76, e77, br_t, h1, Option.bind_some, whole_ok, letO_eq, impl_Checksum16_ok _ (show pre.size ≤ 1000000000 by omega), notEq (eq_true' rfl)]
/- reading a stream, record by record -/
abbrev StT := Int × Bool × Bool × Int × Bool × ByteArray × List TShape × List TLabel × List TInstance × List TCell
def tup (n : Nat) (st : TstreamReader) : StT := ((n : Int), st.gbegun, st.gdone, st.gcells, st.ginside, st.gcell.fName, st.gcell.fShapes, st.gcell.fLabels, st.gcell.fInstances, st.glib.fCells)
/-- how many records end a cell -/
def c6 : List (Int × ByteArray) → Nat
  | [] => 0
  | x :: r => (if x.1 = 6 then 1 else 0) + c6 r
theorem c6_app : ∀ (r s : List (Int × ByteArray)), c6 (r ++ s) = c6 r + c6 s
  | [], s => by simp [c6]
  | x :: r, s => by rw [List.cons_append, c6, c6, c6_app r s]; omega
theorem c6_fm (n : Nat) (k : Int) (g : Nat → ByteArray) (hk : k ≠ 6) : c6 ((List.range n).flatMap fun i => [(k, g i)]) = 0 := by
  induction n with
  | zero => rfl
  | succ n ih => rw [List.range_succ, List.flatMap_append, c6_app, ih]; simp [c6, hk]
/-- the records r lead from st to st'; w cells are complete ahead of them -/
def Runs (a : TLibrary) : Nat → TstreamReader → ByteArray → List (Int × ByteArray) → TstreamReader → Prop
  | w, st, pre, [], st' => st = st'
  | w, st, pre, (k, p) :: r, st' => (st.gdone = false ∧ st.glib.fCells = a.fCells.take w) ∧ ∃ st1, F_impl_streamReader_take_mPoooobbb st k p pre = some (0, st1) ∧ Runs a (w + if k = 6 then 1 else 0) st1 (std.scat pre (recB k p)) r st'
theorem Runs.app {a : TLibrary} : ∀ {r1 : List (Int × ByteArray)} {w st pre st1 r2 st2}, Runs a w st pre r1 st1 → Runs a (w + c6 r1) st1 (std.scat pre (catR r1)) r2 st2 → Runs a w st pre (r1 ++ r2) st2
  | [], w, st, pre, st1, r2, st2, h, g => by
    have e : st = st1 := h
    subst e
    have e2 : std.scat pre (catR []) = pre := ByteArray.append_empty
    rw [e2] at g
    exact g
  | (k, p) :: r, w, st, pre, st1, r2, st2, h, g => by
    obtain ⟨h1, s1, h2, h3⟩ := h
    refine ⟨h1, s1, h2, Runs.app h3 ?_⟩
    rw [scat_assoc]
    rw [c6] at g
    rw [Nat.add_assoc]
    exact g
theorem rd_loop {a : TLibrary} : ∀ (r : List (Int × ByteArray)) (w : Nat) (st st' : TstreamReader) (pre rest : ByteArray), OKr r → Runs a w st pre r st' → pre.size + ((catR r).size + rest.size) ≤ 1000000 →
    whileP (L_impl_readStream_x11 (std.scat pre (std.scat (catR r) rest))) (tup pre.size st) = whileP (L_impl_readStream_x11 (std.scat pre (std.scat (catR r) rest))) (tup (pre.size + (catR r).size) st')
  | [], w, st, st', pre, rest, _, h, _ => by
    have e : st = st' := h
    subst e
    rfl
  | (k, p) :: r, w, st, st', pre, rest, hr, h, hs => by
    obtain ⟨⟨h1, _⟩, s1, h2, h3⟩ := h
    obtain ⟨hk, hp⟩ := hr (k, p) (by simp)
    simp only at hk hp
    rw [catR, scat_size, recB_size] at hs
    have e1 : std.scat pre (std.scat (catR ((k, p) :: r)) rest) = std.scat pre (std.scat (recB k p) (std.scat (catR r) rest)) := by rw [catR, scat_assoc]
    have hsp := split_ok pre p (std.scat (catR r) rest) k hk hp (by rw [scat_size]; omega)
    have hpre : std.ssub (std.scat pre (std.scat (recB k p) (std.scat (catR r) rest))) 0 pre.size = pre := ssub_head
    have hup : std.upTo (pre.size : Int) (std.slen (std.scat pre (std.scat (recB k p) (std.scat (catR r) rest)))) := ⟨by omega, by rw [s_slen, scat_size]; omega⟩
    have ih := rd_loop r _ s1 st' (std.scat pre (recB k p)) rest (fun x hx => hr x (by simp [hx])) h3 (by rw [scat_size, recB_size]; omega)
    rw [scat_assoc, scat_size, recB_size] at ih
    have e2 : (catR ((k, p) :: r)).size = p.size + 5 + (catR r).size := by rw [catR, scat_size, recB_size]
    rw [e1, e2, whileP_unfold, ← Nat.add_assoc, ← ih]
    have hst : TstreamReader.mk st.gbegun false st.gcells st.ginside (TCell.mk st.gcell.fName st.gcell.fShapes st.gcell.fLabels st.gcell.fInstances) (TLibrary.mk st.glib.fCells) = st := by rw [← h1]
    have h1' : (tup pre.size st).2.2.1 = false := h1
    simp only [L_impl_readStream_x11, letO_eq, tup, h1, Bool.not_false, br_t, hsp, Option.bind_some, eq_true' rfl, req_of hup, s_toNn, hpre, hst, h2, s_not, Bool.not_true, br_f]
/-- cell by cell -/
def stC (a : TLibrary) (k : Nat) : TstreamReader := ⟨true, false, (a.fCells.length : Int), false, ⟨ByteArray.mk #[], [], [], []⟩, ⟨a.fCells.take k⟩⟩
def stI (a : TLibrary) (k : Nat) (c : TCell) : TstreamReader := ⟨true, false, (a.fCells.length : Int), true, c, ⟨a.fCells.take k⟩⟩
theorem runs_list {α : Type} [Inhabited α] (a : TLibrary) (w : Nat) (l : List α) (k : Int) (hk6 : k ≠ 6) (g : α → ByteArray) (S : List α → TstreamReader)
    (h : ∀ (m : List α) (x : α) pre, x ∈ l → m.length < l.length → ((S m).gdone = false ∧ (S m).glib.fCells = a.fCells.take w) ∧ F_impl_streamReader_take_mPoooobbb (S m) k (g x) pre = some (0, S (m ++ [x]))) :
    ∀ n, n ≤ l.length → ∀ pre, Runs a w (S []) pre ((List.range n).flatMap fun i => [(k, g (gd l i))]) (S (l.take n))
  | 0, _, pre => rfl
  | n + 1, hn, pre => by
    rw [List.range_succ, List.flatMap_append]
    refine Runs.app (runs_list a w l k hk6 g S h n (by omega) pre) ?_
    rw [c6_fm n k (fun i => g (gd l i)) hk6]
    simp only [List.flatMap_cons, List.flatMap_nil, List.append_nil]
    obtain ⟨h1, h2⟩ := h (l.take n) (gd l n) (std.scat pre (catR ((List.range n).flatMap fun i => [(k, g (gd l i))]))) (gd_mem (by omega)) (by rw [List.length_take]; omega)
    refine ⟨h1, _, h2, ?_⟩
    show _ = _
    rw [List.take_succ_eq_append_getElem (by omega), gd_lt (by omega)]
theorem fresh_none {a : TLibrary} (h : okLib a = true) {k : Nat} (hk : k < a.fCells.length) : namedI (a.fCells.take k) (gd a.fCells k).fName < 0 := by
  have hf : fresh a.fCells k = true := by
    unfold okLib at h
    simp only [Bool.and_eq_true, decide_eq_true_eq, List.all_eq_true, List.mem_range] at h
    exact (h.2.2 k hk).2
  unfold fresh at hf
  rw [List.all_eq_true] at hf
  have hn : ∀ n, (List.range n).find? (fun i => std.seq (gd (a.fCells.take k) i).fName (gd a.fCells k).fName) = none ∨ k < n := by
    intro n
    by_cases hnk : k < n
    · exact .inr hnk
    · refine .inl (List.find?_eq_none.2 fun i hi => ?_)
      rw [List.mem_range] at hi
      have h1 := hf i (List.mem_range.2 (by omega))
      have e : gd (a.fCells.take k) i = gd a.fCells i := by rw [gd_lt (by rw [List.length_take]; omega), gd_lt (by omega), List.getElem_take]
      rw [e]
      intro h2
      rw [h2] at h1
      cases h1
  unfold namedI firstI
  rcases hn (a.fCells.take k).length with h1 | h1
  · rw [h1]; decide
  · rw [List.length_take] at h1; omega
theorem fresh_at {a : TLibrary} (h : okLib a = true) {k c : Nat} (hk : k ≤ a.fCells.length) (hc : c < k) : namedI (a.fCells.take k) (gd a.fCells c).fName = (c : Int) := by
  have e : ∀ i, i < k → gd (a.fCells.take k) i = gd a.fCells i := fun i hi => by rw [gd_lt (by rw [List.length_take]; omega), gd_lt (by omega), List.getElem_take]
  have hf : fresh (a.fCells.take k) c = true := by
    have hf : fresh a.fCells c = true := by
      unfold okLib at h
      simp only [Bool.and_eq_true, decide_eq_true_eq, List.all_eq_true, List.mem_range] at h
      exact (h.2.2 c (by omega)).2
    unfold fresh at hf ⊢
    rw [List.all_eq_true] at hf ⊢
    intro i hi
    have hi' := List.mem_range.1 hi
    rw [e i (by omega), e c hc]
    exact hf i hi
  have h1 := named_first (a.fCells.take k) c (by rw [List.length_take]; omega)
  rw [hf, e c hc, s_eq, decide_eq_true_eq] at h1
  exact h1
theorem runs_cell {a : TLibrary} (h : okLib a = true) {k : Nat} (hk : k < a.fCells.length) (pre : ByteArray) : Runs a k (stC a k) pre (recsC a (gd a.fCells k)) (stC a (k + 1)) := by
  have hg := good_of h hk
  have h8 := (okLib_le h).2
  have hoc := okLib_cell h hk
  unfold okCell at hoc
  simp only [Bool.and_eq_true, decide_eq_true_eq, List.all_eq_true] at hoc
  obtain ⟨o1, o2, o3, o4, o5, o6, o7⟩ := hoc
  obtain ⟨c, hc⟩ : ∃ c, c = gd a.fCells k := ⟨_, rfl⟩
  rw [← hc] at hg o1 o2 o3 o4 o5 o6 o7 ⊢
  have hlk : (a.fCells.take k).length = k := by rw [List.length_take]; omega
  unfold recsC
  have r1 : ∀ pre, Runs a k (stC a k) pre [(2, ofL (nameB c.fName))] (stI a k ⟨c.fName, [], [], []⟩) := fun pre =>
    ⟨⟨rfl, rfl⟩, _, take_cell (st := stC a k) rfl rfl rfl (by show (((a.fCells.take k).length : Nat) : Int) < (a.fCells.length : Int); omega) (by show (a.fCells.take k).length ≤ 8; omega) o1 (by rw [hc]; exact fresh_none h hk) pre, rfl⟩
  have r2 := fun pre => runs_list a k c.fShapes 3 (by decide) (fun s => ofL (shapeB s)) (fun m => stI a k ⟨c.fName, m, [], []⟩) (fun m x pre hx hm => ⟨⟨rfl, rfl⟩, take_shape (st := stI a k ⟨c.fName, m, [], []⟩) rfl rfl rfl rfl rfl (by show m.length < 24; omega) (o5 x hx) pre⟩) c.fShapes.length (Nat.le_refl _) pre
  have r3 := fun pre => runs_list a k c.fLabels 4 (by decide) (fun s => ofL (labelB s)) (fun m => stI a k ⟨c.fName, c.fShapes, m, []⟩) (fun m x pre hx hm => ⟨⟨rfl, rfl⟩, take_label (st := stI a k ⟨c.fName, c.fShapes, m, []⟩) rfl rfl rfl rfl (by show m.length < 8; omega) (o6 x hx) pre⟩) c.fLabels.length (Nat.le_refl _) pre
  have r4 := fun pre => runs_list a k c.fInstances 5 (by decide) (fun x => ofL (nameB (gd a.fCells (std.toN x.fCell)).fName ++ placeB x)) (fun m => stI a k ⟨c.fName, c.fShapes, c.fLabels, m⟩) (fun m x pre hx hm => by
    have hcell := hg.cell x hx
    obtain ⟨q, hq⟩ : ∃ q : Nat, x.fCell = (q : Int) := ⟨x.fCell.toNat, by omega⟩
    have hqk : q < k := by omega
    refine ⟨⟨rfl, rfl⟩, take_inst (st := stI a k ⟨c.fName, c.fShapes, c.fLabels, m⟩) rfl rfl rfl (by show m.length < 8; omega) (by show (a.fCells.take k).length ≤ 8; omega) ?_ ?_ ?_ pre⟩
    · show okInst x ((a.fCells.take k).length : Int) = true
      rw [hlk]; exact o7 x hx
    · rw [hq, s_toNn]; exact (good_of h (show q < a.fCells.length by omega)).name
    · show namedI (a.fCells.take k) _ = _
      rw [hq, s_toNn]; exact fresh_at h (by omega) hqk) c.fInstances.length (Nat.le_refl _) pre
  simp only [List.take_length] at r2 r3 r4
  have r5 : ∀ pre, Runs a k (stI a k c) pre [(6, ofL [std.conv .u8 (std.ofN (len c.fShapes)), std.conv .u8 (std.ofN (len c.fLabels)), std.conv .u8 (std.ofN (len c.fInstances))])] (stC a (k + 1)) := fun pre => by
    refine ⟨⟨rfl, rfl⟩, _, take_fin (st := stI a k c) rfl rfl rfl (by show (a.fCells.take k).length ≤ 8; omega) o2 o3 o4 pre, ?_⟩
    show TstreamReader.mk true false (a.fCells.length : Int) false ⟨ByteArray.mk #[], [], [], []⟩ ⟨a.fCells.take k ++ [c]⟩ = stC a (k + 1)
    unfold stC
    rw [List.take_succ_eq_append_getElem hk, hc, gd_lt hk]
  have z2 := c6_fm c.fShapes.length 3 (fun i => ofL (shapeB (gd c.fShapes i))) (by decide)
  have z3 := c6_fm c.fLabels.length 4 (fun i => ofL (labelB (gd c.fLabels i))) (by decide)
  have z4 := c6_fm c.fInstances.length 5 (fun i => ofL (nameB (gd a.fCells (std.toN (gd c.fInstances i).fCell)).fName ++ placeB (gd c.fInstances i))) (by decide)
  have z1 : c6 [((2 : Int), ofL (nameB c.fName))] = 0 := rfl
  refine Runs.app (st1 := stI a k c) (Runs.app (st1 := stI a k ⟨c.fName, c.fShapes, c.fLabels, []⟩) (Runs.app (st1 := stI a k ⟨c.fName, c.fShapes, [], []⟩) (Runs.app (r1 _) ?_) ?_) ?_) ?_
  · rw [z1]; exact r2 _
  · rw [c6_app, z1, z2]; exact r3 _
  · rw [c6_app, c6_app, z1, z2, z3]; exact r4 _
  · rw [c6_app, c6_app, c6_app, z1, z2, z3, z4]; exact r5 _
theorem c6_cell (a : TLibrary) (c : TCell) : c6 (recsC a c) = 1 := by
  unfold recsC
  rw [c6_app, c6_app, c6_app, c6_app, c6_fm _ 3 _ (by decide), c6_fm _ 4 _ (by decide), c6_fm _ 5 _ (by decide)]
  rfl
theorem c6_cells (a : TLibrary) : ∀ n, c6 ((List.range n).flatMap fun k => recsC a (gd a.fCells k)) = n
  | 0 => rfl
  | n + 1 => by
    rw [List.range_succ, List.flatMap_append, c6_app, c6_cells a n]
    simp only [List.flatMap_cons, List.flatMap_nil, List.append_nil]
    rw [c6_cell]
theorem runs_cells {a : TLibrary} (h : okLib a = true) : ∀ n, n ≤ a.fCells.length → ∀ pre, Runs a 0 (stC a 0) pre ((List.range n).flatMap fun k => recsC a (gd a.fCells k)) (stC a n)
  | 0, _, pre => rfl
  | n + 1, hn, pre => by
    rw [List.range_succ, List.flatMap_append]
    refine Runs.app (runs_cells h n (by omega) pre) ?_
    rw [c6_cells, Nat.zero_add]
    simp only [List.flatMap_cons, List.flatMap_nil, List.append_nil]
    exact runs_cell h (by omega) _
def st0 : TstreamReader := ⟨false, false, 0, false, ⟨ByteArray.mk #[], [], [], []⟩, ⟨[]⟩⟩
theorem runs_head {a : TLibrary} (h : okLib a = true) (pre : ByteArray) : Runs a 0 st0 pre [(1, ofL [1, std.conv .u8 (std.ofN (len a.fCells))])] (stC a 0) := by
  have h8 := okLib_le h
  refine ⟨⟨rfl, rfl⟩, _, take_head (st := st0) rfl rfl (n := a.fCells.length) (by omega) pre, ?_⟩
  rfl
theorem empty_scat (s : ByteArray) : std.scat (ByteArray.mk #[]) s = s := ByteArray.empty_append
theorem scat_empty (s : ByteArray) : std.scat s (ByteArray.mk #[]) = s := ByteArray.append_empty
theorem runs0 {a : TLibrary} (h : okLib a = true) {n : Nat} (hn : n ≤ a.fCells.length) : Runs a 0 st0 (ByteArray.mk #[]) ([(1, ofL [1, std.conv .u8 (std.ofN (len a.fCells))])] ++ (List.range n).flatMap fun k => recsC a (gd a.fCells k)) (stC a n) :=
  Runs.app (runs_head h _) (runs_cells h n hn _)
theorem libR_size {a : TLibrary} (h : okLib a = true) : (catR (recs0 a)).size ≤ 100000 := by
  have h1 : libR a = catR (recs a) := libR_catR a
  have hl := okLib_le h
  have n1 := catN_size (recB 1 (ofL [1, std.conv .u8 (std.ofN (len a.fCells))])) (fun k => cellR a (gd a.fCells k)) 1000 a.fCells.length fun k hk => cellR_le h hk
  have m1 : a.fCells.length * 1000 ≤ 8 * 1000 := Nat.mul_le_mul_right _ hl.2
  have n0 : (recB 1 (ofL [1, std.conv .u8 (std.ofN (len a.fCells))])).size = 7 := by rw [recB_size, ofL_size]; rfl
  have e : catN (recB 1 (ofL [1, std.conv .u8 (std.ofN (len a.fCells))])) (fun k => cellR a (gd a.fCells k)) a.fCells.length = catR (recs0 a) := by
    unfold recs0
    rw [← catR_one 1, catN_catR _ _ _ (fun i => cellR_catR a _)]
  rw [e] at n1
  omega
theorem runs_lib {a : TLibrary} (h : okLib a = true) : Runs a 0 st0 (ByteArray.mk #[]) (recs a) ⟨true, true, (a.fCells.length : Int), false, ⟨ByteArray.mk #[], [], [], []⟩, a⟩ := by
  unfold recs
  refine Runs.app (st1 := stC a a.fCells.length) (by unfold recs0; exact runs0 h (Nat.le_refl _)) ?_
  rw [empty_scat]
  have hc : c6 (recs0 a) = a.fCells.length := by
    unfold recs0
    rw [c6_app, c6_cells]
    exact Nat.zero_add _
  rw [hc, Nat.zero_add]
  refine ⟨⟨rfl, rfl⟩, _, take_end (st := stC a a.fCells.length) rfl rfl rfl (by show (((a.fCells.take a.fCells.length).length : Nat) : Int) = (a.fCells.length : Int); rw [List.take_length]) (by have := libR_size h; omega), ?_⟩
  show TstreamReader.mk true true (a.fCells.length : Int) false ⟨ByteArray.mk #[], [], [], []⟩ ⟨a.fCells.take a.fCells.length⟩ = _
  rw [List.take_length]
theorem libR_len {a : TLibrary} (h : okLib a = true) : (libR a).size = (catR (recs0 a)).size + 7 := by
  rw [libR_catR]
  unfold recs
  rw [catR_app, catR_one, scat_size, recB_size, ofL_size, twoR_len]
theorem readStream_lib {a : TLibrary} (h : okLib a = true) : F_impl_readStream (libR a) = some (a, 0, ((libR a).size : Int)) := by
  have hsz := libR_len h
  have hs := libR_size h
  have hl := rd_loop (recs a) 0 st0 _ (ByteArray.mk #[]) (ByteArray.mk #[]) (recs_ok h) (runs_lib h) (by rw [← libR_catR, hsz]; show 0 + (_ + 0) ≤ _; omega)
  rw [empty_scat, scat_empty, ← libR_catR] at hl
  unfold F_impl_readStream
  have hl' : whileP (L_impl_readStream_x11 (libR a)) (0, false, false, 0, false, (ByteArray.mk #[]), ([] : List TShape), ([] : List TLabel), ([] : List TInstance), ([] : List TCell)) = _ := hl
  rw [hl', whileP_unfold]
  have e0 : (ByteArray.mk #[]).size + (libR a).size = (libR a).size := Nat.zero_add _
  simp only [L_impl_readStream_x11, letO_eq, tup, Bool.not_true, br_f, Option.bind_some, e0]
  rw [lt_false (by rw [s_ofN, s_slen]; omega), br_f]
/- libraries compared by the program; FnStream -/
theorem eqShapes (l : List TShape) (h : l.length ≤ 10000000) : F_slices_Equal_Limpl_Shape_impl_Shape l l = some true := by
  unfold F_slices_Equal_Limpl_Shape_impl_Shape
  rw [notEq (eq_true' rfl), br_f, while_eq (r := .inr ()) l.length (fun i hi => by
    simp only [L_slices_Equal_Limpl_Shape_impl_Shape_x2, letO_eq, s_toNn, eq_true' rfl, s_band, Bool.and_self, s_not, Bool.not_true]
    rw [ltl_t hi, br_t, req_of (inRl hi), req_of (inRl hi), br_f, inc_nat (by omega)]) (by
    simp only [L_slices_Equal_Limpl_Shape_impl_Shape_x2, letO_eq]
    rw [ltl_f, br_f]), Option.bind_some]
theorem eqLabels (l : List TLabel) (h : l.length ≤ 10000000) : F_slices_Equal_Limpl_Label_impl_Label l l = some true := by
  unfold F_slices_Equal_Limpl_Label_impl_Label
  rw [notEq (eq_true' rfl), br_f, while_eq (r := .inr ()) l.length (fun i hi => by
    simp only [L_slices_Equal_Limpl_Label_impl_Label_x2, letO_eq, s_toNn, eq_true' rfl, seq_self, s_band, Bool.and_self, s_not, Bool.not_true]
    rw [ltl_t hi, br_t, req_of (inRl hi), req_of (inRl hi), br_f, inc_nat (by omega)]) (by
    simp only [L_slices_Equal_Limpl_Label_impl_Label_x2, letO_eq]
    rw [ltl_f, br_f]), Option.bind_some]
theorem eqInsts (l : List TInstance) (h : l.length ≤ 10000000) : F_slices_Equal_Limpl_Instance_impl_Instance l l = some true := by
  unfold F_slices_Equal_Limpl_Instance_impl_Instance
  rw [notEq (eq_true' rfl), br_f, while_eq (r := .inr ()) l.length (fun i hi => by
    simp only [L_slices_Equal_Limpl_Instance_impl_Instance_x2, letO_eq, s_toNn, eq_true' rfl, s_band, Bool.and_self, s_not, Bool.not_true]
    rw [ltl_t hi, br_t, req_of (inRl hi), req_of (inRl hi), br_f, inc_nat (by omega)]) (by
    simp only [L_slices_Equal_Limpl_Instance_impl_Instance_x2, letO_eq]
    rw [ltl_f, br_f]), Option.bind_some]
theorem sameCell_ok (c : TCell) (h : SmallC c) : F_impl_sameCell c c = some true := by
  unfold F_impl_sameCell
  rw [seq_self, br_t, eqShapes _ (by have := h.shapes; omega), Option.bind_some, br_t, eqLabels _ (by have := h.labels; omega), Option.bind_some, br_t, eqInsts _ (by have := h.insts; omega)]
  rfl
theorem impl_SameLibrary_ok (a : TLibrary) (h : SmallL a) (hv : okLib a = true) : F_impl_SameLibrary a a = some true := by
  have h8 := (okLib_le hv).2
  unfold F_impl_SameLibrary
  rw [show TLibrary.mk a.fCells = a from rfl, impl_IsValidLibrary_ok _ h, Option.bind_some, hv, br_t, Option.bind_some, br_t]
  unfold F_slices_EqualFunc_Limpl_Cell_Limpl_Cell_impl_Cell_impl_Cell_mbbFimpl_sameCell
  rw [notEq (eq_true' rfl), br_f, while_eq (r := .inr ()) a.fCells.length (fun i hi => by
    simp only [L_slices_EqualFunc_Limpl_Cell_Limpl_Cell_impl_Cell_impl_Cell_mbbFimpl_sameCell_x2, letO_eq, s_toNn]
    rw [ltl_t hi, br_t, req_of (inRl hi), req_of (inRl hi), sameCell_ok _ (h.cell _ (gd_mem hi)), Option.bind_some, Bool.not_true, br_f, inc_nat (by omega)]) (by
    simp only [L_slices_EqualFunc_Limpl_Cell_Limpl_Cell_impl_Cell_impl_Cell_mbbFimpl_sameCell_x2, letO_eq]
    rw [ltl_f, br_f]), Option.bind_some]
  rfl
theorem drawStream_ok {c : List Int} (hc : OKc c) : Tot (F_spec_DrawLibraryStream c) SmallL := by
  unfold F_spec_DrawLibraryStream
  exact Tot.bind (from_ok hc) fun s hs => Tot.bind (any_ok hs) fun r hr => Tot.ret (OKl.small hr.2)
theorem wf_byteS {x : Int} (h : wfI .u8 x) : 0 ≤ x ∧ x ≤ 255 := by
  have h' : (Lit.int .u8 x).wf = true := h
  have e1 : IntKind.min .u8 = 0 := rfl
  have e2 : IntKind.max .u8 = 255 := rfl
  simp [Lit.wf] at h'
  omega
/- FnSalvage: drawing the cut; a stream that is cut -/
theorem bit24 (x : Int) : 0 ≤ std.bitand .u64 x 16777215 ∧ std.bitand .u64 x 16777215 ≤ 16777215 := by
  show 0 ≤ IntKind.u64.wrap ((BitVec.ofInt 64 x &&& BitVec.ofInt 64 16777215).toNat : Int) ∧ IntKind.u64.wrap ((BitVec.ofInt 64 x &&& BitVec.ofInt 64 16777215).toNat : Int) ≤ 16777215
  have h1 : (BitVec.ofInt 64 x &&& BitVec.ofInt 64 16777215).toNat ≤ 16777215 := by
    rw [BitVec.toNat_and]
    exact Nat.and_le_right
  generalize (BitVec.ofInt 64 x &&& BitVec.ofInt 64 16777215).toNat = n at h1 ⊢
  simp only [IntKind.wrap, IntKind.signed, IntKind.bits]
  simp
  omega
theorem roll_ok {c : List Int} (hc : OKc c) (n : Int) : Tot (F_laws_roll c n) fun d => d.gb = c ∧ d.gi = 0 := by
  unfold F_laws_roll
  refine Tot.bind (P := fun _ => True) (Tot.whileP (fun x : Int × Int => 0 ≤ x.1 ∧ x.1 ≤ c.length) (fun x => (c.length - x.1).toNat) ⟨Int.le_refl _, by omega⟩ fun x hx => ?_) fun y _ => Tot.ret ⟨rfl, rfl⟩
  obtain ⟨i, h⟩ := x
  simp only at hx
  simp only [L_laws_roll_x3, letO_eq]
  refine Tot.br (fun hk => ?_) fun _ => Tot.ret trivial
  have hk' := lt_dec hk
  rw [s_ofN, len_eq] at hk'
  have hl := hc.1
  refine Tot.req ⟨hx.1, by rw [len_eq]; exact hk'⟩ (Tot.ret ?_)
  rw [add_id (by omega) (by omega)]
  exact ⟨⟨by simp only; omega, by simp only; omega⟩, by simp only; omega⟩
theorem below_ok {c : List Int} (hc : OKc c) {d : Tdice} (hd : d.gb = c ∧ d.gi = 0) {m : Int} (hm : 0 < m ∧ m ≤ 1000000000) : Tot (F_laws_dice_below_mPbb d m) fun r => 0 ≤ r.1 ∧ r.1 < m := by
  unfold F_laws_dice_below_mPbb
  rw [req_of (by rw [s_nneg]; omega)]
  have hb := bit24 (std.shr .u64 (std.add .u64 (std.mul .u64 d.gh 6364136223846793005) 1442695040888963407) 33)
  obtain ⟨B, hB⟩ : ∃ B, B = std.bitand .u64 (std.shr .u64 (std.add .u64 (std.mul .u64 d.gh 6364136223846793005) 1442695040888963407) 33) 16777215 := ⟨_, rfl⟩
  rw [← hB] at hb ⊢
  have hcB : std.conv .i64 B = B := conv64 (by omega)
  refine Tot.bind (P := fun y : Int × Int => 0 ≤ y.1) (Tot.br (fun hk => ?_) fun _ => Tot.ret (by rw [hcB]; exact hb.1)) fun y hy => ?_
  · have hk' := lt_dec hk
    rw [hd.1, hd.2, s_ofN, len_eq] at hk'
    refine Tot.req (by rw [hd.1, hd.2]; exact ⟨by omega, by rw [len_eq]; omega⟩) (Tot.ret ?_)
    have hg := gd_byte hc (i := 0) (by omega) hk'
    rw [hd.1, hd.2, hcB, conv64 (by omega), add_id (by omega) (by omega)]
    simp only; omega
  · refine Tot.req (by show m ≠ 0; omega) (Tot.ret ?_)
    exact remB hy hm.1
theorem sat_ext {s : ByteArray} {i j : Nat} (h : i < j) (hs : i < s.size) : std.sat (std.ssub s 0 j) i = std.sat s i := by
  have h1 : i < (s.extract 0 j).size := by rw [ByteArray.size_extract]; omega
  show std.sat (s.extract 0 j) i = _
  rw [sat_get h1, sat_get hs]
  simp [ByteArray.getElem_extract]
/-- a record that is cut -/
theorem split_cut (pre p : ByteArray) (k : Int) {j : Nat} (hj : j < p.size + 5) (hp : p.size ≤ 200) (hs : pre.size ≤ 1000000) :
    F_impl_SplitRecord (std.scat pre (std.ssub (recB k p) 0 j)) (pre.size : Int) = some (0, ByteArray.mk #[], 0, 7) := by
  obtain ⟨X, hX⟩ : ∃ X, X = std.ssub (recB k p) 0 j := ⟨_, rfl⟩
  have hXs : X.size = j := by
    rw [hX]
    show ((recB k p).extract 0 j).size = j
    rw [ByteArray.size_extract, recB_size]; omega
  have er : std.ssub (std.scat pre X) (std.toN (pre.size : Int)) (std.slen (std.scat pre X)) = X := by rw [s_toNn]; exact ssub_tail
  have hsz : std.slen (std.scat pre X) = pre.size + j := by rw [s_slen, scat_size, hXs]
  have w1 : wB (pre.size : Int) 0 (std.ofN (std.slen (std.scat pre X))) = true := by
    unfold wB; rw [hsz, le_true (by omega), le_true (by rw [s_ofN]; omega)]; rfl
  rw [← hX]
  unfold F_impl_SplitRecord
  rw [impl_within_ok, w1, Option.bind_some, Bool.not_true, br_f, req_of ⟨by omega, by rw [hsz]; omega⟩]
  simp only [er]
  by_cases h2 : j < 2
  · rw [lt_true (by rw [s_ofN, s_slen]; omega), br_t]
  · have hsat : ∀ i, i < 2 → std.sat X i = std.sat (ofL (twoR (std.add .i64 (std.ofN (std.slen p)) 5))) i := by
      intro i hi
      have e := recB_sat0 k p (ByteArray.mk #[]) hi
      rw [scat_empty] at e
      rw [← e, hX]
      exact sat_ext (by omega) (by rw [recB_size]; omega)
    have hL : std.add .i64 (std.ofN (std.slen p)) 5 = ((p.size + 5 : Nat) : Int) := by rw [s_ofN, s_slen, add_id (by omega) (by omega)]; omega
    have t1 := twoR_sat (x := ((p.size + 5 : Nat) : Int)) (by omega)
    rw [← hL] at t1
    have b0 : std.sat X (std.toN 0) = ((p.size + 5 : Nat) : Int) / 256 := by rw [show std.toN 0 = 0 from rfl, hsat 0 (by omega), t1.1, hL]
    have b1 : std.sat X (std.toN 1) = ((p.size + 5 : Nat) : Int) % 256 := by rw [show std.toN 1 = 1 from rfl, hsat 1 (by omega), t1.2, hL]
    have eN : std.add .i64 (std.shl .i64 (std.conv .i64 (std.sat X (std.toN 0))) 8) (std.conv .i64 (std.sat X (std.toN 1))) = ((p.size + 5 : Nat) : Int) := by
      rw [b0, b1, num2 (by omega) (by omega)]; omega
    simp only [eN]
    rw [lt_false (by rw [s_ofN, s_slen]; omega), br_f, req_of ⟨by omega, by rw [s_slen]; omega⟩, req_of (by show (0 : Int) ≤ 8; omega), req_of ⟨by omega, by rw [s_slen]; omega⟩, lt_false (by omega), br_f, lt_true (by rw [s_ofN, s_slen]; omega), br_t]
theorem ext_all {s : ByteArray} {n : Nat} (h : s.size ≤ n) : s.extract 0 n = s := by
  apply ByteArray.ext
  rw [ByteArray.data_extract]
  exact Array.extract_eq_self_of_le h
theorem cut_catR : ∀ (R : List (Int × ByteArray)) (c : Nat), c ≤ (catR R).size → c = (catR R).size ∨ ∃ r1 k p r2 j, R = r1 ++ (k, p) :: r2 ∧ j < p.size + 5 ∧ c = (catR r1).size + j ∧ std.ssub (catR R) 0 c = std.scat (catR r1) (std.ssub (recB k p) 0 j)
  | [], c, h => .inl (Nat.le_zero.1 h)
  | (k, p) :: R, c, h => by
    by_cases hc : c < p.size + 5
    · refine .inr ⟨[], k, p, R, c, rfl, hc, by show c = 0 + c; omega, ?_⟩
      rw [show catR [] = ByteArray.mk #[] from rfl, empty_scat, catR]
      show ((recB k p) ++ catR R).extract 0 c = (recB k p).extract 0 c
      rw [ByteArray.extract_append]
      have : (catR R).extract (0 - (recB k p).size) (c - (recB k p).size) = ByteArray.empty := by
        have hz : c - (recB k p).size = 0 := by rw [recB_size]; omega
        apply ByteArray.ext
        apply Array.eq_empty_of_size_eq_zero
        show ((catR R).extract _ _).size = 0
        rw [ByteArray.size_extract, hz]; omega
      rw [this, ByteArray.append_empty]
    · have hsz : (catR ((k, p) :: R)).size = p.size + 5 + (catR R).size := by rw [catR, scat_size, recB_size]
      rcases cut_catR R (c - (p.size + 5)) (by omega) with h1 | ⟨r1, k', p', r2, j, h1, h2, h3, h4⟩
      · exact .inl (by omega)
      · refine .inr ⟨(k, p) :: r1, k', p', r2, j, by rw [h1]; rfl, h2, by rw [catR, scat_size, recB_size]; omega, ?_⟩
        rw [catR, catR, scat_assoc, ← h4]
        show ((recB k p) ++ catR R).extract 0 c = recB k p ++ (catR R).extract 0 (c - (p.size + 5))
        rw [ByteArray.extract_append, recB_size]
        have e1 : (recB k p).extract 0 c = recB k p := by
          exact ext_all (by rw [recB_size]; omega)
        rw [e1, Nat.zero_sub]
theorem Runs.split {a : TLibrary} : ∀ {r1 : List (Int × ByteArray)} {w st pre r2 st2}, Runs a w st pre (r1 ++ r2) st2 → ∃ st1, Runs a w st pre r1 st1 ∧ Runs a (w + c6 r1) st1 (std.scat pre (catR r1)) r2 st2
  | [], w, st, pre, r2, st2, h => ⟨st, rfl, by rw [show catR [] = ByteArray.mk #[] from rfl, scat_empty]; exact h⟩
  | (k, p) :: r1, w, st, pre, r2, st2, h => by
    obtain ⟨h1, s1, h2, h3⟩ := h
    obtain ⟨st1, g1, g2⟩ := h3.split
    refine ⟨st1, ⟨h1, s1, h2, g1⟩, ?_⟩
    rw [catR, ← scat_assoc, c6, ← Nat.add_assoc]
    exact g2
/- FnSalvage -/
noncomputable def hdrC (a : TLibrary) (i : Nat) : List (Int × ByteArray) := [(1, ofL [1, std.conv .u8 (std.ofN (len a.fCells))])] ++ (List.range i).flatMap fun k => recsC a (gd a.fCells k)
theorem hdrC_c6 (a : TLibrary) (i : Nat) : c6 (hdrC a i) = i := by
  unfold hdrC
  rw [c6_app, c6_cells]
  exact Nat.zero_add _
theorem hdrC_succ (a : TLibrary) (i : Nat) : hdrC a (i + 1) = hdrC a i ++ recsC a (gd a.fCells i) := by
  unfold hdrC
  rw [List.range_succ, List.flatMap_append, List.append_assoc]
  simp
noncomputable def endC (a : TLibrary) (i : Nat) : Nat := (catR (hdrC a i)).size
theorem endC_succ (a : TLibrary) (i : Nat) : endC a (i + 1) = endC a i + (cellR a (gd a.fCells i)).size := by
  unfold endC
  rw [hdrC_succ, catR_app, scat_size, cellR_catR]
theorem endC_zero (a : TLibrary) : endC a 0 = 7 := by
  unfold endC hdrC
  simp only [List.range_zero, List.flatMap_nil, List.append_nil]
  rw [catR_one, recB_size, ofL_size]; rfl
theorem hdrC_add (a : TLibrary) (i : Nat) : ∀ d, ∃ q, hdrC a (i + d) = hdrC a i ++ q
  | 0 => ⟨[], by simp⟩
  | d + 1 => by
    obtain ⟨q, hq⟩ := hdrC_add a i d
    exact ⟨q ++ recsC a (gd a.fCells (i + d)), by rw [← Nat.add_assoc, hdrC_succ, hq, List.append_assoc]⟩
theorem hdrC_split (a : TLibrary) {i : Nat} (hi : i ≤ a.fCells.length) : ∃ q, recs a = hdrC a i ++ q := by
  obtain ⟨d, hd⟩ := Nat.exists_eq_add_of_le hi
  obtain ⟨q, hq⟩ := hdrC_add a i d
  have e : recs a = hdrC a a.fCells.length ++ [(7, ofL (twoR (ck (catR (recs0 a)))))] := rfl
  rw [e, hd, hq, List.append_assoc]
  exact ⟨_, rfl⟩
theorem last6 (a : TLibrary) (i : Nat) : ∃ Y p, hdrC a (i + 1) = Y ++ [((6 : Int), p)] := by
  rw [hdrC_succ]
  unfold recsC
  exact ⟨_, _, by rw [← List.append_assoc]⟩
theorem c6_suffix {r s Y : List (Int × ByteArray)} {p : ByteArray} (h : r ++ s = Y ++ [((6 : Int), p)]) (hs : s ≠ []) : 1 ≤ c6 s := by
  rcases List.eq_nil_or_concat s with h0 | ⟨s', x, h0⟩
  · exact (hs h0).elim
  · rw [List.concat_eq_append] at h0
    rw [h0, ← List.append_assoc] at h
    have := (List.append_inj' h rfl).2
    injection this with h1 _
    rw [h0, h1, c6_app]
    simp [c6]
/-- what is read of a stream that is cut -/
theorem cut_read {a : TLibrary} (hv : okLib a = true) {c : Nat} (hc : c ≤ (libR a).size) :
    ∃ w z m, F_impl_readStream (std.ssub (libR a) 0 c) = some (⟨a.fCells.take w⟩, z, m) ∧ w ≤ a.fCells.length ∧ ∀ i, 1 ≤ i → i ≤ a.fCells.length → (endC a i ≤ c ↔ i ≤ w) := by
  have hsz := libR_len hv
  have hs := libR_size hv
  have hR := libR_catR a
  rcases cut_catR (recs a) c (by rw [← hR]; exact hc) with h1 | ⟨r1, k, p, r2, j, h1, h2, h3, h4⟩
  · have e : std.ssub (libR a) 0 c = libR a := by
      rw [h1, ← hR]
      exact ext_all (Nat.le_refl _)
    refine ⟨a.fCells.length, 0, ((libR a).size : Int), ?_, Nat.le_refl _, fun i h0 hi => ⟨fun _ => hi, fun _ => ?_⟩⟩
    · rw [e, readStream_lib hv, List.take_length]
    · obtain ⟨q, hq⟩ := hdrC_split a hi
      have := congrArg (fun r => (catR r).size) hq
      simp only [catR_app, scat_size] at this
      unfold endC; omega
  · have hrun := runs_lib hv
    rw [h1] at hrun
    obtain ⟨st1, g1, g2⟩ := hrun.split
    obtain ⟨⟨g3, g4⟩, _⟩ := g2
    rw [Nat.zero_add] at g4
    have hok := recs_ok hv
    rw [h1] at hok
    have hp := (hok (k, p) (by simp)).2
    simp only at hp
    have hl := rd_loop r1 0 st0 st1 (ByteArray.mk #[]) (std.ssub (recB k p) 0 j) (fun x hx => hok x (by simp [hx])) g1 (by
      have e1 : (std.ssub (recB k p) 0 j).size ≤ 205 := by
        show ((recB k p).extract 0 j).size ≤ 205
        rw [ByteArray.size_extract, recB_size]; omega
      show 0 + _ ≤ _
      omega)
    rw [empty_scat, ← h4, ← hR] at hl
    have hc6 : c6 r1 ≤ a.fCells.length := by
      have := congrArg c6 h1
      rw [c6_app] at this
      have h5 : c6 (recs a) = a.fCells.length := by
        unfold recs
        rw [c6_app]
        have : recs0 a = hdrC a a.fCells.length := rfl
        rw [this, hdrC_c6]
        rfl
      omega
    refine ⟨c6 r1, 7, ((catR r1).size : Int), ?_, hc6, fun i h0 hi => ?_⟩
    · unfold F_impl_readStream
      have hl' : whileP (L_impl_readStream_x11 (std.ssub (libR a) 0 c)) (0, false, false, 0, false, (ByteArray.mk #[]), ([] : List TShape), ([] : List TLabel), ([] : List TInstance), ([] : List TCell)) = _ := hl
      rw [hl', whileP_unfold]
      have e0 : (ByteArray.mk #[]).size + (catR r1).size = (catR r1).size := Nat.zero_add _
      have hsp := split_cut (catR r1) p k h2 hp (by omega)
      rw [← h4, ← hR] at hsp
      simp only [L_impl_readStream_x11, letO_eq, tup, g3, Bool.not_false, br_t, e0, hsp, Option.bind_some]
      rw [eq_false' (show (7 : Int) ≠ 0 by decide), br_f, Option.bind_some]
      simp only
      rw [eq_false' (show (7 : Int) ≠ 0 by decide), s_not, Bool.not_false, br_t]
      simp only [Option.bind_some]
      rw [g4]
    · obtain ⟨q, hq⟩ := hdrC_split a hi
      rw [hq] at h1
      have hcase : (∃ s, hdrC a i = r1 ++ s ∧ (k, p) :: r2 = s ++ q) ∨ (∃ s, r1 = hdrC a i ++ s) := by
        rcases List.append_eq_append_iff.1 h1 with ⟨s, e1, e2⟩ | ⟨s, e1, e2⟩
        · exact .inr ⟨s, e1⟩
        · exact .inl ⟨s, e1, e2⟩
      rcases hcase with ⟨s, e1, e2⟩ | ⟨s, e1⟩
      · cases s with
        | nil =>
          rw [List.append_nil] at e1
          have h5 := hdrC_c6 a i
          rw [e1] at h5
          refine ⟨fun _ => by omega, fun _ => ?_⟩
          unfold endC
          rw [e1]; omega
        | cons x s' =>
          injection e2 with e3 e4
          subst e3
          have hsize : endC a i = (catR r1).size + (p.size + 5 + (catR s').size) := by
            unfold endC
            rw [e1, catR_app, scat_size, catR, scat_size, recB_size]
          obtain ⟨i', rfl⟩ : ∃ i', i = i' + 1 := ⟨i - 1, by omega⟩
          obtain ⟨Y, p', hY⟩ := last6 a i'
          have h6 := c6_suffix (e1.symm.trans hY) (by simp)
          have h7 := congrArg c6 e1
          rw [hdrC_c6, c6_app] at h7
          exact ⟨fun h => by omega, fun h => by omega⟩
      · have h5 := congrArg c6 e1
        rw [c6_app, hdrC_c6] at h5
        have h6 := congrArg (fun r => (catR r).size) e1
        simp only [catR_app, scat_size] at h6
        refine ⟨fun _ => by omega, fun _ => ?_⟩
        unfold endC; omega
theorem okLib_take {a : TLibrary} (h : okLib a = true) {w : Nat} (h1 : 1 ≤ w) (hw : w ≤ a.fCells.length) : okLib ⟨a.fCells.take w⟩ = true := by
  have e : ∀ i, i < w → gd (a.fCells.take w) i = gd a.fCells i := fun i hi => by rw [gd_lt (by rw [List.length_take]; omega), gd_lt (by omega), List.getElem_take]
  unfold okLib at h ⊢
  simp only [Bool.and_eq_true, decide_eq_true_eq, List.all_eq_true, List.mem_range, List.length_take] at h ⊢
  refine ⟨by omega, by omega, fun k hk => ?_⟩
  obtain ⟨g1, g2⟩ := h.2.2 k (by omega)
  rw [e k (by omega)]
  refine ⟨g1, ?_⟩
  unfold fresh at g2 ⊢
  rw [List.all_eq_true] at g2 ⊢
  intro j hj
  have hj' := List.mem_range.1 hj
  rw [e k (by omega), e j (by omega)]
  exact g2 j hj
theorem small_take {a : TLibrary} (h : SmallL a) (w : Nat) : SmallL ⟨a.fCells.take w⟩ :=
  ⟨by have := h.cells; simp only [List.length_take]; omega, fun c hc => h.cell c (List.mem_of_mem_take hc)⟩
theorem ck_a : F_impl_Checksum16 (ByteArray.mk #[97]) = some 129 := by
  have e1 : L_impl_Checksum16_x3 (ByteArray.mk #[97]) (1, 0) = some (.inl (129, 1)) := by
    simp only [L_impl_Checksum16_x3, letO_eq]
    rw [show std.lt 0 (std.ofN (std.slen (ByteArray.mk #[97]))) = true by decide, br_t, req_of (show std.inR 0 (std.slen (ByteArray.mk #[97])) from ⟨by decide, by decide⟩), req_of (by rw [s_nz]; decide)]
    rfl
  have e2 : L_impl_Checksum16_x3 (ByteArray.mk #[97]) (129, 1) = some (.inr 129) := by
    simp only [L_impl_Checksum16_x3, letO_eq]
    rw [show std.lt 1 (std.ofN (std.slen (ByteArray.mk #[97]))) = false by decide, br_f]
  unfold F_impl_Checksum16
  rw [whileP_unfold, e1]
  simp only
  rw [whileP_unfold, e2]
  rfl
theorem lawW_Salvage (c : List Int) (w : (wfL (wfI .u8)) c) : F_laws_FnSalvage c = some true := by
  unfold F_laws_FnSalvage F_laws_big
  rw [Option.bind_some]
  cases hb : std.lt 4096 (std.ofN (len c)) with
  | true => rfl
  | false =>
    rw [br_f]
    have hl := lt_decf hb
    rw [s_ofN, len_eq] at hl
    have hOK : OKc c := ⟨by omega, fun b hm => wf_byteS (w.2 b hm)⟩
    obtain ⟨a, h1, h2⟩ := drawStream_ok hOK
    rw [h1, Option.bind_some, spec_LibraryStream_ok a h2, Option.bind_some]
    cases hv : okLib a with
    | false =>
      simp only [Bool.false_eq_true, if_false]
      have e : std.seq (ByteArray.mk #[]) (ByteArray.mk #[]) = true := seq_self _
      rw [e, br_t, impl_LibraryStream_ok a h2, Option.bind_some, hv]
      simp only [Bool.false_eq_true, if_false]
      rw [e, br_t, ck_a]
      rfl
    | true =>
      simp only [if_true]
      have h8 := okLib_le hv
      have hsz := libR_len hv
      have hs := libR_size hv
      have hne : std.seq (libR a) (ByteArray.mk #[]) = false := by
        cases hq : std.seq (libR a) (ByteArray.mk #[]) with
        | false => rfl
        | true =>
          have h3 := congrArg ByteArray.size (seq_iff.1 hq)
          have : (ByteArray.mk #[]).size = 0 := rfl
          omega
      rw [hne, br_f]
      obtain ⟨d, hd, hd2⟩ := roll_ok hOK 541
      rw [hd, Option.bind_some]
      have hm : std.add .i64 (std.ofN (std.slen (libR a))) 1 = (((libR a).size + 1 : Nat) : Int) := by rw [s_ofN, s_slen, inc_nat (by omega)]
      rw [hm]
      obtain ⟨⟨cut, d'⟩, hc, hc0, hc1⟩ := below_ok hOK hd2 (m := (((libR a).size + 1 : Nat) : Int)) ⟨by omega, by omega⟩
      simp only at hc0 hc1
      rw [hc, Option.bind_some]
      obtain ⟨c, rfl⟩ : ∃ c : Nat, cut = (c : Int) := ⟨cut.toNat, by omega⟩
      obtain ⟨v, z, m, hr, hvn, hW⟩ := cut_read hv (c := c) (by omega)
      have hend : ∀ i, i ≤ a.fCells.length → endC a i ≤ 100007 := fun i hi => by
        obtain ⟨q, hq⟩ := hdrC_split a hi
        have := congrArg (fun r => (catR r).size) hq
        simp only [catR_app, scat_size] at this
        rw [← libR_catR, hsz] at this
        unfold endC; omega
      have hcr : ∀ i, i < a.fCells.length → F_spec_CellRecords a (i : Int) = some (cellR a (gd a.fCells i)) := fun i hi => by
        rw [spec_CellRecords_ok a _ h2, hv, (wB_iff' _ _ _).2 (show (0 : Int) ≤ (i : Int) ∧ (i : Int) ≤ (a.fCells.length : Int) - 1 by omega), Int.toNat_natCast]
        rfl
      have hloop : whileP (L_laws_FnSalvage_x26 a ((c : Int), d')) (0, 7, 0) = some ((v : Nat) : Int) := by
        refine while_from (fun i => (((min i v : Nat) : Int), ((endC a i : Nat) : Int), (i : Int))) a.fCells.length (by rw [endC_zero]; simp) (fun i hi => ?_) ?_
        · simp only [L_laws_FnSalvage_x26, letO_eq]
          have he := hend (i + 1) (by omega)
          have hes := endC_succ a i
          have e1 : std.add .i64 ((endC a i : Nat) : Int) (std.ofN (std.slen (cellR a (gd a.fCells i)))) = ((endC a (i + 1) : Nat) : Int) := by
            rw [s_ofN, s_slen, add_id (by omega) (by omega)]; omega
          rw [ltl_t hi, br_t, hcr i hi, Option.bind_some, e1, inc_nat (by omega)]
          have hw := hW (i + 1) (by omega) (by omega)
          by_cases hle : endC a (i + 1) ≤ c
          · rw [le_true (by omega), br_t, Option.bind_some]
            have := hw.1 hle
            rw [show min (i + 1) v = i + 1 by omega]
          · rw [le_false (by omega), br_f, Option.bind_some]
            have h3 : ¬ (i + 1 ≤ v) := fun h => hle (hw.2 h)
            rw [show min (i + 1) v = min i v by omega]
        · simp only [L_laws_FnSalvage_x26, letO_eq]
          rw [ltl_f, br_f, show min a.fCells.length v = v by omega]
      rw [hloop, Option.bind_some]
      simp only [letO_eq]
      have hlen : (a.fCells.take v).length = v := by rw [List.length_take]; omega
      have hsal : F_impl_SalvageStream (std.ssub (libR a) 0 (std.toN (c : Int))) = some (⟨a.fCells.take v⟩, (v : Int)) := by
        unfold F_impl_SalvageStream
        rw [s_toNn, hr, Option.bind_some]
        simp only
        rw [s_ofN, len_eq, hlen]
      have hall : F_impl_SalvageStream (libR a) = some (a, (a.fCells.length : Int)) := by
        unfold F_impl_SalvageStream
        rw [readStream_lib hv, Option.bind_some]
        simp only
        rw [s_ofN, len_eq]
      rw [req_of (show std.upTo (c : Int) (std.slen (libR a)) from ⟨by omega, by rw [s_slen]; omega⟩), hsal, Option.bind_some]
      simp only
      rw [notEq (eq_true' rfl), br_f, notEq (eq_true' (by rw [s_ofN, len_eq, hlen])), Option.bind_some, br_f, hall, Option.bind_some, req_of (show std.upTo (v : Int) (len a.fCells) from ⟨by omega, by rw [len_eq]; omega⟩), req_of (show std.upTo 0 (std.toN (v : Int)) from ⟨by omega, by omega⟩)]
      simp only
      rw [eq_true' (by rw [s_ofN, len_eq]), br_t, impl_SameLibrary_ok a h2 hv, Option.bind_some, br_t]
      by_cases hv0 : v = 0
      · subst hv0
        rw [show std.eq ((0 : Nat) : Int) 0 = true from rfl, br_t]; rfl
      · rw [eq_false' (by omega), br_f]
        have e1 : List.take (std.nsub (std.toN (v : Int)) (std.toN 0)) (List.drop (std.nadd 0 (std.toN 0)) a.fCells) = a.fCells.take v := by
          rw [s_toNn]; rfl
        rw [e1, impl_SameLibrary_ok _ (small_take h2 v) (okLib_take hv (by omega) hvn), Option.bind_some, req_of (show std.nsub (std.toN (v : Int)) (std.toN 0) = len (a.fCells.take v) by rw [s_toNn, len_eq, hlen]; rfl)]
        rfl
end Go.Proofs.Ytlenieingkfjaaa.AM
