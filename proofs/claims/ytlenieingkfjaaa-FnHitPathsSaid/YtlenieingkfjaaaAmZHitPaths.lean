/-
  What the functions that the law reaches compute, and that they do. No condition.
-/
import Derived.Test.YtlenieingkfjaaaAmHY
import Derived.Test.YtlenieingkfjaaaAmP
import Derived.Test.YtlenieingkfjaaaAmHZ
namespace Go.Proofs.Ytlenieingkfjaaa.AM
open Go Go.Proofs Go.RowKit
set_option linter.unusedVariables false
set_option linter.unusedSimpArgs false
set_option maxRecDepth 100000

/- what is drawn: it is drawn, and it is small -/
def Tot {α : Type} (x : Option α) (Q : α → Prop) : Prop := ∃ r, x = some r ∧ Q r
theorem Tot.ret {α : Type} {r : α} {Q : α → Prop} (h : Q r) : Tot (some r) Q := ⟨r, rfl, h⟩
theorem Tot.bind {α β : Type} {x : Option α} {f : α → Option β} {P : α → Prop} {Q : β → Prop} (h : Tot x P) (g : ∀ r, P r → Tot (f r) Q) : Tot (x.bind f) Q := by
  obtain ⟨r, h1, h2⟩ := h
  rw [h1]
  exact g r h2
theorem Tot.req {α : Type} {p : Prop} {k : Option α} {Q : α → Prop} (h : p) (g : Tot k Q) : Tot (Go.Proofs.Ytlenieingkfjaaa.AM.req p k) Q := by rw [req_of h]; exact g
theorem Tot.br {α : Type} {b : Bool} {x y : Option α} {Q : α → Prop} (h1 : b = true → Tot x Q) (h2 : b = false → Tot y Q) : Tot (Go.Proofs.Ytlenieingkfjaaa.AM.br b x y) Q := by
  cases b with
  | true => exact h1 rfl
  | false => exact h2 rfl
theorem Tot.letO {α β : Type} {e : α} {f : α → Option β} {Q : β → Prop} (h : Tot (f e) Q) : Tot (Go.Proofs.Ytlenieingkfjaaa.AM.letO e f) Q := h
theorem Tot.mono {α : Type} {x : Option α} {P Q : α → Prop} (h : Tot x P) (g : ∀ r, P r → Q r) : Tot x Q := by
  obtain ⟨r, h1, h2⟩ := h
  exact ⟨r, h1, g r h2⟩
theorem Tot.whileP {σ ρ : Type} {step : σ → Option (σ ⊕ ρ)} {x0 : σ} {Post : ρ → Prop} (Inv : σ → Prop) (μ : σ → Nat) (h0 : Inv x0)
    (h : ∀ x, Inv x → Tot (step x) fun r => match r with | .inl x' => Inv x' ∧ μ x' < μ x | .inr r => Post r) : Tot (Go.Proofs.Ytlenieingkfjaaa.AM.whileP step x0) Post := by
  refine while_ex Inv Post μ h0 fun x hx => ?_
  obtain ⟨r, h1, h2⟩ := h x hx
  cases r with
  | inl x' => exact .inl ⟨x', h1, h2.1, h2.2⟩
  | inr r => exact .inr ⟨r, h1, h2⟩
def OKc (c : List Int) : Prop := c.length ≤ 4096 ∧ ∀ b ∈ c, 0 ≤ b ∧ b ≤ 255
structure OKs (s : Tl01Source) : Prop where
  code : OKc s.gcode
  at0 : 0 ≤ s.gat
  at1 : s.gat ≤ 4096
  seed0 : 0 ≤ s.gseed
  seed1 : s.gseed < 2147483647
theorem lt_dec {x y : Int} (h : std.lt x y = true) : x < y := of_decide_eq_true h
theorem lt_decf {x y : Int} (h : std.lt x y = false) : y ≤ x := by
  have := of_decide_eq_false (show decide (x < y) = false from h); omega
theorem le_dec {x y : Int} (h : std.le x y = true) : x ≤ y := of_decide_eq_true h
theorem le_decf {x y : Int} (h : std.le x y = false) : y < x := by
  have := of_decide_eq_false (show decide (x ≤ y) = false from h); omega
theorem remB {x m : Int} (hx : 0 ≤ x) (hm : 0 < m) : 0 ≤ std.rem x m ∧ std.rem x m < m := by
  show 0 ≤ Int.tmod x m ∧ Int.tmod x m < m
  rw [Int.tmod_eq_emod_of_nonneg hx]
  exact ⟨Int.emod_nonneg _ (by omega), Int.emod_lt_of_pos _ hm⟩
theorem quoB {x m : Int} (hx : 0 ≤ x) (hx2 : x < 4611686018427387904) (hm : 0 < m) : 0 ≤ std.quo .i64 x m := by
  show 0 ≤ IntKind.i64.wrap (Int.tdiv x m)
  have h1 : Int.tdiv x m = x / m := Int.tdiv_eq_ediv_of_nonneg hx
  have h2 : 0 ≤ x / m := Int.ediv_nonneg hx (by omega)
  have h3 : x / m ≤ x := Int.ediv_le_self _ hx
  rw [h1, wrap_id (by omega) (by omega)]
  exact h2
theorem conv_id {x : Int} (h : 0 ≤ x ∧ x ≤ 255) : std.conv .i64 x = x := wrap_id (by omega) (by omega)
theorem gd_byte {c : List Int} (h : OKc c) {i : Int} (h0 : 0 ≤ i) (h1 : i < (c.length : Int)) : 0 ≤ gd c (std.toN i) ∧ gd c (std.toN i) ≤ 255 := by
  obtain ⟨n, rfl⟩ := Int.eq_ofNat_of_zero_le h0
  rw [s_toNn]
  exact h.2 _ (gd_mem (by omega))
theorem mulS {x y : Int} (h : -9223372036854775808 ≤ x * y) (g : x * y < 9223372036854775808) : std.mul .i64 x y = x * y := wrap_id h g
/-- the next number -/
theorem next_ok {s : Tl01Source} (hs : OKs s) {n : Int} (hn : n ≤ 1000000) : Tot (F_spec_l01Next_mPbb s n) fun r => OKs r.2 ∧ 0 ≤ r.1 ∧ (r.1 < n ∨ r.1 = 0) := by
  obtain ⟨hc, h0, h1, s0, s1⟩ := hs
  unfold F_spec_l01Next_mPbb
  have hm : std.mul .i64 s.gseed 48271 = s.gseed * 48271 := mulS (by omega) (by omega)
  refine Tot.br (fun h => Tot.ret ⟨⟨hc, h0, h1, s0, s1⟩, Int.le_refl _, .inr rfl⟩) fun h => ?_
  have hn1 := le_decf h
  have hnz : std.nz n := by show n ≠ 0; omega
  refine Tot.br (fun h => ?_) fun h => ?_
  · have hlt := lt_dec h
    rw [s_ofN, len_eq] at hlt
    obtain ⟨b0, b1⟩ := gd_byte hc h0 hlt
    have hl := hc.1
    have ha : std.add .i64 s.gat 1 = s.gat + 1 := add_id (by omega) (by omega)
    refine Tot.req ⟨h0, by rw [len_eq]; exact hlt⟩ (Tot.br (fun _ => ?_) fun _ => ?_)
    · rw [hm, conv_id ⟨b0, b1⟩, add_id (x := s.gseed * 48271) (by omega) (by omega), add_id (by omega) (by omega), ha]
      obtain ⟨r0, r1⟩ := remB (x := s.gseed * 48271 + gd s.gcode (std.toN s.gat) + 1) (m := 2147483647) (by omega) (by omega)
      obtain ⟨q0, q1⟩ := remB (m := n) r0 (by omega)
      exact Tot.req (by show (2147483647 : Int) ≠ 0; omega) (Tot.req hnz (Tot.ret ⟨⟨hc, by show 0 ≤ s.gat + 1; omega, by show s.gat + 1 ≤ 4096; omega, r0, r1⟩, q0, .inl q1⟩))
    · rw [conv_id ⟨b0, b1⟩, ha]
      obtain ⟨q0, q1⟩ := remB (m := n) b0 (by omega)
      exact Tot.req hnz (Tot.ret ⟨⟨hc, by show 0 ≤ s.gat + 1; omega, by show s.gat + 1 ≤ 4096; omega, s0, s1⟩, q0, .inl q1⟩)
  · rw [hm, add_id (by omega) (by omega)]
    obtain ⟨r0, r1⟩ := remB (x := s.gseed * 48271 + 11) (m := 2147483647) (by omega) (by omega)
    have q := quoB (m := 7) r0 (by omega) (by omega)
    obtain ⟨q0, q1⟩ := remB (m := n) q (by omega)
    exact Tot.req (by show (2147483647 : Int) ≠ 0; omega) (Tot.req (by show (7 : Int) ≠ 0; omega) (Tot.req hnz (Tot.ret ⟨⟨hc, h0, h1, r0, r1⟩, q0, .inl q1⟩)))
theorem from_ok {c : List Int} (hc : OKc c) : Tot (F_spec_l01From c) OKs := by
  unfold F_spec_l01From
  have hl := hc.1
  refine Tot.bind (P := fun v : Int => 0 ≤ v ∧ v < 2147483647) (Tot.whileP (fun x : Int × Int => 0 ≤ x.1 ∧ x.1 ≤ 64 ∧ 0 ≤ x.2 ∧ x.2 < 2147483647) (fun x => (64 - x.1).toNat) (by simp) fun x hx => ?_) fun v hv => Tot.ret ⟨hc, Int.le_refl _, by simp, hv.1, hv.2⟩
  obtain ⟨v1, v2⟩ := x
  obtain ⟨x0, x1, y0, y1⟩ := hx
  simp only at x0 x1 y0 y1
  unfold L_spec_l01From_x3
  simp only [letO_eq]
  refine Tot.bind (P := fun b => b = true → v1 < (c.length : Int) ∧ v1 < 64) (Tot.br (fun h => Tot.ret fun g => ?_) fun h => Tot.ret fun g => by cases g) fun b hb => Tot.br (fun h => ?_) fun h => ?_
  · have h1 := lt_dec h
    rw [s_ofN, len_eq] at h1
    exact ⟨h1, lt_dec g⟩
  · obtain ⟨h1, h2⟩ := hb h
    obtain ⟨b0, b1⟩ := gd_byte hc x0 h1
    have hm : std.mul .i64 v2 31 = v2 * 31 := mulS (by omega) (by omega)
    rw [hm, conv_id ⟨b0, b1⟩, add_id (x := v2 * 31) (by omega) (by omega), add_id (x := v1) (by omega) (by omega)]
    obtain ⟨r0, r1⟩ := remB (x := v2 * 31 + gd c (std.toN v1)) (m := 2147483647) (by omega) (by omega)
    exact Tot.req ⟨x0, by rw [len_eq]; exact h1⟩ (Tot.req (by show (2147483647 : Int) ≠ 0; omega) (Tot.ret ⟨⟨by show 0 ≤ v1 + 1; omega, by show v1 + 1 ≤ 64; omega, r0, r1⟩, by show (64 - (v1 + 1)).toNat < (64 - v1).toNat; omega⟩))
  · exact Tot.ret ⟨y0, y1⟩
/- draws of libraries -/
theorem ofBytes_size (n : Nat) (g : Nat → Int) : (std.ofBytes n g).size = n := by
  show (((List.range n).map fun i => UInt8.ofNat (g i).toNat).toArray).size = n
  simp
theorem roomS {n b : Nat} (hn : n ≤ 1000) (hb : b ≤ 1000) : std.room n b := by
  show n * b ≤ 35184372088832
  exact Nat.le_trans (Nat.mul_le_mul hn hb) (by omega)
theorem nextS {s : Tl01Source} (hs : OKs s) {n : Int} (hn : n ≤ 1000000) {β : Type} {f : Int × Tl01Source → Option β} {Q : β → Prop} (g : ∀ v s', OKs s' → 0 ≤ v → (v < n ∨ v = 0) → Tot (f (v, s')) Q) : Tot ((F_spec_l01Next_mPbb s n).bind f) Q :=
  Tot.bind (next_ok hs hn) fun r hr => g r.1 r.2 hr.1 hr.2.1 hr.2.2
theorem box_ok {s : Tl01Source} (hs : OKs s) : Tot (F_spec_l09DrawBox_mPb s) fun r => OKs r.2 := by
  unfold F_spec_l09DrawBox_mPb
  exact nextS hs (by omega) fun _ _ h _ _ => nextS h (by omega) fun _ _ h _ _ => nextS h (by omega) fun _ _ h _ _ => nextS h (by omega) fun _ _ h _ _ => Tot.ret h
theorem shape_ok {s : Tl01Source} (hs : OKs s) : Tot (F_spec_l09DrawShape_mPb s) fun r => OKs r.2 := by
  unfold F_spec_l09DrawShape_mPb
  exact nextS hs (by omega) fun _ _ h _ _ => Tot.bind (box_ok h) fun r hr => Tot.ret hr
theorem inst_ok {s : Tl01Source} (hs : OKs s) {n : Int} (hn : n ≤ 1000000) : Tot (F_spec_l09DrawInstance_mPbb s n) fun r => OKs r.2 := by
  unfold F_spec_l09DrawInstance_mPbb
  simp only [letO_eq]
  refine nextS hs hn fun _ _ h _ _ => nextS h (by omega) fun _ _ h _ _ => nextS h (by omega) fun _ _ h _ _ => nextS h (by omega) fun _ _ h _ _ => nextS h (by omega) fun _ _ h _ _ => ?_
  refine Tot.bind (P := fun y : List Int × Int × Int × Int × Int => OKs ⟨y.1, y.2.1, y.2.2.1⟩) (Tot.br (fun _ => nextS h (by omega) fun _ _ h _ _ => nextS h (by omega) fun _ _ h _ _ => Tot.ret h) fun _ => Tot.ret h) fun y hy => ?_
  refine nextS hy (by omega) fun _ _ h _ _ => ?_
  refine Tot.bind (P := fun y : List Int × Int × Int × Int × Int => OKs ⟨y.1, y.2.1, y.2.2.1⟩) (Tot.br (fun _ => nextS h (by omega) fun _ _ h _ _ => Tot.ret h) fun _ => Tot.ret h) fun y hy => ?_
  refine nextS hy (by omega) fun _ _ h _ _ => ?_
  exact Tot.bind (P := fun _ : Int => True) (Tot.br (fun _ => Tot.ret trivial) fun _ => Tot.ret trivial) fun _ _ => Tot.ret h
theorem name_ok {s : Tl01Source} (hs : OKs s) : Tot (F_spec_l09DrawName_mPb s) fun r => OKs r.2 ∧ r.1.size ≤ 3 := by
  unfold F_spec_l09DrawName_mPb
  simp only [letO_eq]
  refine nextS hs (by omega) fun v s' h h0 h1 => ?_
  refine Tot.bind (P := fun y : List Int × List Int × Int × Int => OKs ⟨y.2.1, y.2.2.1, y.2.2.2⟩ ∧ y.1.length ≤ 3) (Tot.whileP (fun x : Int × List Int × Int × Int × List Int => OKs ⟨x.2.1, x.2.2.1, x.2.2.2.1⟩ ∧ 0 ≤ x.1 ∧ (x.2.2.2.2.length : Int) + x.1 ≤ 3) (fun x => x.1.toNat) ?_ fun x hx => ?_) fun y hy => Tot.ret ⟨hy.1, by
      rw [ofBytes_size, len_eq]; exact hy.2⟩
  · have : std.add .i64 1 v = 1 + v := add_id (by omega) (by omega)
    refine ⟨h, ?_, ?_⟩
    · simp only [this]; omega
    · simp only [this, List.length_nil]; omega
  · obtain ⟨k, c, at', sd, l⟩ := x
    obtain ⟨g1, g2, g3⟩ := hx
    simp only at g1 g2 g3
    simp only [L_spec_l09DrawName_mPb_x10, letO_eq]
    refine Tot.br (fun hk => ?_) fun hk => Tot.ret ⟨g1, by simp only; omega⟩
    have hk' := lt_dec hk
    refine nextS g1 (by omega) fun w s2 g4 g5 g6 => ?_
    have hsz : (ByteArray.mk #[97, 98, 99, 100, 120, 121, 122, 48, 49, 57]).size = 10 := rfl
    refine Tot.req ⟨g5, by rw [s_slen, hsz]; omega⟩ (Tot.req (roomS (by rw [s_nadd, len_eq, len_eq, List.length_singleton]; omega) (by omega)) (Tot.ret ⟨⟨g4, ?_, ?_⟩, ?_⟩))
    · simp only [sub_id (x := k) (y := 1) (by omega) (by omega)]; omega
    · simp only [sub_id (x := k) (y := 1) (by omega) (by omega), List.length_append, List.length_singleton]; omega
    · simp only [sub_id (x := k) (y := 1) (by omega) (by omega)]; omega
theorem label_ok {s : Tl01Source} (hs : OKs s) : Tot (F_spec_l09DrawLabel_mPb s) fun r => OKs r.2 ∧ r.1.fName.size ≤ 3 := by
  unfold F_spec_l09DrawLabel_mPb
  exact nextS hs (by omega) fun _ _ h _ _ => nextS h (by omega) fun _ _ h _ _ => nextS h (by omega) fun _ _ h _ _ => Tot.bind (name_ok h) fun r hr => Tot.ret hr
/-- what a drawn cell is -/
structure CB (n : Nat) (c : TCell) : Prop where
  name : c.fName.size ≤ 100
  shapes : c.fShapes.length ≤ n
  labels : c.fLabels.length ≤ n
  insts : c.fInstances.length ≤ n
  lnames : ∀ l ∈ c.fLabels, l.fName.size ≤ 100
theorem CB.le {n m : Nat} {c : TCell} (h : CB n c) (hn : n ≤ m) : CB m c := ⟨h.name, Nat.le_trans h.shapes hn, Nat.le_trans h.labels hn, Nat.le_trans h.insts hn, h.lnames⟩
theorem sub1 {k : Int} (h : -1000000 ≤ k ∧ k ≤ 1000000) : std.sub .i64 k 1 = k - 1 := sub_id (by omega) (by omega)
theorem add1 {k : Int} (h : -1000000 ≤ k ∧ k ≤ 1000000) : std.add .i64 k 1 = k + 1 := add_id (by omega) (by omega)
theorem and_dec {a b : Bool} {x y : Option Bool} : True := trivial
theorem library_ok {s : Tl01Source} (hs : OKs s) : Tot (F_spec_l09DrawLibrary_mPb s) fun r => OKs r.2 ∧ 1 ≤ r.1.fCells.length ∧ r.1.fCells.length ≤ 4 ∧ ∀ c ∈ r.1.fCells, CB 4 c := by
  unfold F_spec_l09DrawLibrary_mPb
  simp only [letO_eq]
  refine nextS hs (by omega) fun v s' h h0 h1 => ?_
  refine Tot.bind (P := fun y : List Int × Int × Int × List TCell => OKs ⟨y.1, y.2.1, y.2.2.1⟩ ∧ 1 ≤ y.2.2.2.length ∧ y.2.2.2.length ≤ 4 ∧ ∀ c ∈ y.2.2.2, CB 4 c)
    (Tot.whileP (fun x : Int × List Int × Int × Int × List TCell => OKs ⟨x.2.1, x.2.2.1, x.2.2.2.1⟩ ∧ (x.2.2.2.2.length : Int) = x.1 ∧ x.1 ≤ 1 + v ∧ ∀ c ∈ x.2.2.2.2, CB 4 c) (fun x => (5 - x.1).toNat) ?_ fun x hx => ?_) fun y hy => Tot.ret hy
  · exact ⟨h, rfl, by show (0 : Int) ≤ 1 + v; omega, fun c hc => by cases hc⟩
  · obtain ⟨i, c, at', sd, l⟩ := x
    obtain ⟨g1, g2, g3, g4⟩ := hx
    simp only at g1 g2 g3 g4
    have e1 : std.add .i64 1 v = 1 + v := add_id (by omega) (by omega)
    simp only [L_spec_l09DrawLibrary_mPb_x8, letO_eq, e1]
    refine Tot.br (fun hk => ?_) fun hk => ?_
    · have hk' := lt_dec hk
      refine Tot.bind (name_ok g1) fun r hr => ?_
      refine Tot.req (roomS (by rw [s_nadd, s_slen, s_slen, ofBytes_size, len_eq, List.length_singleton]; omega) (by omega)) ?_
      refine nextS hr.1 (by omega) fun v2 s2 k1 k2 k3 => ?_
      -- shapes
      refine Tot.bind (P := fun y : List Int × Int × Int × List TShape => OKs ⟨y.1, y.2.1, y.2.2.1⟩ ∧ y.2.2.2.length ≤ 4) (Tot.whileP (fun x : Int × List Int × Int × Int × List TShape => OKs ⟨x.2.1, x.2.2.1, x.2.2.2.1⟩ ∧ 0 ≤ x.1 ∧ (x.2.2.2.2.length : Int) + x.1 ≤ 4) (fun x => x.1.toNat) ⟨k1, k2, by simp only [List.length_nil]; omega⟩ fun x hx => ?_) fun y1 p1 => ?_
      · obtain ⟨k, c, at', sd, l⟩ := x
        obtain ⟨q1, q2, q3⟩ := hx
        simp only at q1 q2 q3
        simp only [L_spec_l09DrawLibrary_mPb_x32, letO_eq]
        refine Tot.br (fun hk => ?_) fun hk => Tot.ret ⟨q1, by simp only; omega⟩
        have hk' := lt_dec hk
        refine Tot.bind (shape_ok q1) fun r hr => Tot.req (roomS (by rw [s_nadd, len_eq, len_eq, List.length_singleton]; omega) (by omega)) (Tot.ret ?_)
        rw [sub1 (by omega)]
        exact ⟨⟨hr, by simp only; omega, by simp only [List.length_append, List.length_singleton]; omega⟩, by simp only; omega⟩
      refine nextS p1.1 (by omega) fun v3 s3 k4 k5 k6 => ?_
      -- labels
      refine Tot.bind (P := fun y : List Int × Int × Int × List TLabel => OKs ⟨y.1, y.2.1, y.2.2.1⟩ ∧ y.2.2.2.length ≤ 4 ∧ ∀ l ∈ y.2.2.2, l.fName.size ≤ 100) (Tot.whileP (fun x : Int × List Int × Int × Int × List TLabel => OKs ⟨x.2.1, x.2.2.1, x.2.2.2.1⟩ ∧ 0 ≤ x.1 ∧ (x.2.2.2.2.length : Int) + x.1 ≤ 4 ∧ ∀ l ∈ x.2.2.2.2, l.fName.size ≤ 100) (fun x => x.1.toNat) ⟨k4, k5, by simp only [List.length_nil]; omega, fun l hl => by cases hl⟩ fun x hx => ?_) fun y2 p2 => ?_
      · obtain ⟨k, c, at', sd, l⟩ := x
        obtain ⟨q1, q2, q3, q4⟩ := hx
        simp only at q1 q2 q3 q4
        simp only [L_spec_l09DrawLibrary_mPb_x63, letO_eq]
        refine Tot.br (fun hk => ?_) fun hk => Tot.ret ⟨q1, by simp only; omega, q4⟩
        have hk' := lt_dec hk
        refine Tot.bind (label_ok q1) fun r hr => Tot.req (roomS (by rw [s_nadd, len_eq, len_eq, List.length_singleton]; omega) (by omega)) (Tot.ret ?_)
        rw [sub1 (by omega)]
        refine ⟨⟨hr.1, by simp only; omega, by simp only [List.length_append, List.length_singleton]; omega, fun l hl => ?_⟩, by simp only; omega⟩
        rcases List.mem_append.1 hl with hl | hl
        · exact q4 l hl
        · rw [List.mem_singleton] at hl; rw [hl]; have := hr.2; omega
      refine nextS p2.1 (by omega) fun v4 s4 k7 k8 k9 => ?_
      -- instances
      refine Tot.bind (P := fun y : List Int × Int × Int × List TInstance => OKs ⟨y.1, y.2.1, y.2.2.1⟩ ∧ y.2.2.2.length ≤ 4) (Tot.whileP (fun x : Int × List Int × Int × Int × List TInstance => OKs ⟨x.2.1, x.2.2.1, x.2.2.2.1⟩ ∧ 0 ≤ x.1 ∧ (x.2.2.2.2.length : Int) + x.1 ≤ 4) (fun x => x.1.toNat) ⟨k7, k8, by simp only [List.length_nil]; omega⟩ fun x hx => ?_) fun y3 p3 => ?_
      · obtain ⟨k, c, at', sd, l⟩ := x
        obtain ⟨q1, q2, q3⟩ := hx
        simp only at q1 q2 q3
        simp only [L_spec_l09DrawLibrary_mPb_x94, letO_eq]
        refine Tot.bind (P := fun b => b = true → 0 < k) (Tot.br (fun hh => Tot.ret fun _ => lt_dec hh) fun _ => Tot.ret fun hh => by cases hh) fun b hb => Tot.br (fun hk => ?_) fun hk => Tot.ret ⟨q1, by simp only; omega⟩
        have hk' := hb hk
        refine Tot.bind (inst_ok q1 (by omega)) fun r hr => Tot.req (roomS (by rw [s_nadd, len_eq, len_eq, List.length_singleton]; omega) (by omega)) (Tot.ret ?_)
        rw [sub1 (by omega)]
        exact ⟨⟨hr, by simp only; omega, by simp only [List.length_append, List.length_singleton]; omega⟩, by simp only; omega⟩
      have hcb : CB 4 (TCell.mk (std.scat (std.ofBytes (len [std.conv .u8 (std.add .i64 97 i)]) (fun j => gd [std.conv .u8 (std.add .i64 97 i)] (0 + j))) r.1) y1.2.2.2 y2.2.2.2 y3.2.2.2) := by
        refine ⟨?_, p1.2, p2.2.1, p3.2, p2.2.2⟩
        show (_ ++ _ : ByteArray).size ≤ 100
        rw [ByteArray.size_append, ofBytes_size, len_eq, List.length_singleton]
        have := hr.2; omega
      refine Tot.bind (P := fun y => y = l ++ [TCell.mk (std.scat (std.ofBytes (len [std.conv .u8 (std.add .i64 97 i)]) (fun j => gd [std.conv .u8 (std.add .i64 97 i)] (0 + j))) r.1) y1.2.2.2 y2.2.2.2 y3.2.2.2]) (Tot.req (roomS (by rw [s_nadd, len_eq, len_eq, List.length_singleton]; omega) (by omega)) (Tot.ret rfl)) fun y hy => Tot.ret ?_
      subst hy
      rw [add1 (by omega)]
      refine ⟨⟨p3.1, ?_, by simp only; omega, fun c hc => ?_⟩, by simp only; omega⟩
      · simp only [List.length_append, List.length_singleton]; omega
      · rcases List.mem_append.1 hc with hc | hc
        · exact g4 c hc
        · rw [List.mem_singleton] at hc; rw [hc]; exact hcb
    · have := lt_decf hk
      exact Tot.ret ⟨g1, by simp only; omega, by simp only; omega, g4⟩
/- draws of libraries that are mostly valid -/
theorem set_CB {n : Nat} {l : List TCell} {i : Nat} {x : TCell} (h : ∀ c ∈ l, CB n c) (hx : CB n x) : ∀ c ∈ l.set i x, CB n c := by
  intro c hc
  rcases List.mem_or_eq_of_mem_set hc with h1 | h1
  · exact h c h1
  · rw [h1]; exact hx
def PB (m : Nat) (y : List Int × Int × Int × List TCell) : Prop := OKs ⟨y.1, y.2.1, y.2.2.1⟩ ∧ y.2.2.2.length = m ∧ ∀ c ∈ y.2.2.2, CB 40 c
theorem index_ok {s : Tl01Source} (hs : OKs s) (a : TLibrary) (ha : a.fCells.length ≤ 1000) : Tot (F_spec_l09DrawIndex_mPbo s a) fun r => OKs r.2.1 ∧ r.2.2 = a.fCells := by
  unfold F_spec_l09DrawIndex_mPbo
  simp only [letO_eq]
  refine nextS hs (by omega) fun v s' h h0 h1 => Tot.br (fun _ => ?_) fun _ => ?_
  · refine nextS h (by omega) fun w s2 g g0 g1 => Tot.req ⟨g0, by rw [len_eq]; simp only [List.length_cons, List.length_nil]; omega⟩ (Tot.ret ⟨g, rfl⟩)
  · exact nextS h (by rw [s_ofN, len_eq]; omega) fun w s2 g g0 g1 => Tot.ret ⟨g, rfl⟩
set_option maxHeartbeats 1000000 in
theorem any_ok {s : Tl01Source} (hs : OKs s) : Tot (F_spec_l09DrawAny_mPb s) fun r => OKs r.2 ∧ r.1.fCells.length ≤ 4 ∧ ∀ c ∈ r.1.fCells, CB 40 c := by
  unfold F_spec_l09DrawAny_mPb
  simp only [letO_eq]
  refine Tot.bind (library_ok hs) fun y1 hy1 => ?_
  obtain ⟨⟨L⟩, s1⟩ := y1
  obtain ⟨k1, k2, k3, k4⟩ := hy1
  simp only at k1 k2 k3 k4
  refine nextS k1 (by rw [s_ofN, len_eq]; simp only; omega) fun v s2 g g0 g1 => ?_
  have hv : v < (L.length : Int) := by rw [s_ofN, len_eq] at g1; simp only at g1; omega
  obtain ⟨i, rfl⟩ := Int.eq_ofNat_of_zero_le g0
  have hi : i < L.length := by omega
  refine Tot.req (inRl hi) ?_
  simp only [s_toNn, s_nadd, Nat.zero_add]
  have c0 : CB 4 (gd L i) := k4 _ (gd_mem hi)
  have all40 : ∀ c ∈ L, CB 40 c := fun c hc => (k4 c hc).le (by omega)
  refine nextS g (by omega) fun w s3 h h0 h1 => ?_
  refine Tot.bind (P := fun y : List TCell × List Int × Int × Int => OKs ⟨y.2.1, y.2.2.1, y.2.2.2⟩ ∧ y.1.length = L.length ∧ ∀ c ∈ y.1, CB 40 c) (Tot.br (fun _ => ?_) fun _ => ?_) fun y hy => Tot.req (by rw [len_eq, len_eq, hy.2.1]) (Tot.ret ⟨hy.1, by show y.1.length ≤ 4; omega, hy.2.2⟩)
  · refine Tot.bind (P := fun y : List TCell => y.length = L.length ∧ ∀ c ∈ y, CB 40 c) (Tot.req (inRl (i := 0) (by omega)) (Tot.ret ⟨by simp, set_CB all40 ?_⟩)) fun y hy => Tot.ret ⟨h, hy⟩
    have := (k4 _ (gd_mem (show 0 < L.length by omega))).name
    exact CB.le ⟨by show (gd L (std.toN 0)).fName.size ≤ 100; rw [show std.toN 0 = 0 from rfl]; exact this, c0.shapes, c0.labels, c0.insts, c0.lnames⟩ (by omega)
  · refine Tot.bind (P := PB L.length) (Tot.br (fun _ => ?_) fun _ => ?_) fun y hy => Tot.ret hy
    · refine Tot.bind (P := PB L.length) (nextS h (by omega) fun q s4 e e0 e1 => ?_) fun y hy => Tot.ret hy
      obtain ⟨q, rfl⟩ := Int.eq_ofNat_of_zero_le e0
      have hq : q < ([(ByteArray.mk #[]), (ByteArray.mk #[65]), (ByteArray.mk #[97, 98, 99, 100, 101, 102, 103, 104, 105]), (ByteArray.mk #[97, 32, 98])] : List ByteArray).length := by simp only [List.length_cons, List.length_nil]; omega
      refine Tot.req (inRl hq) (Tot.ret ⟨e, by simp, set_CB all40 ?_⟩)
      rw [s_toNn]
      have hm := gd_mem hq
      refine CB.le ⟨?_, c0.shapes, c0.labels, c0.insts, c0.lnames⟩ (by omega)
      have hz : ∀ x ∈ ([(ByteArray.mk #[]), (ByteArray.mk #[65]), (ByteArray.mk #[97, 98, 99, 100, 101, 102, 103, 104, 105]), (ByteArray.mk #[97, 32, 98])] : List ByteArray), x.size ≤ 100 := by decide
      exact hz _ hm
    · refine Tot.bind (P := PB L.length) (Tot.br (fun _ => ?_) fun _ => ?_) fun y hy => Tot.ret hy
      · refine Tot.bind (P := PB L.length) (nextS h (by omega) fun _ _ h _ _ => nextS h (by omega) fun _ _ h _ _ => nextS h (by omega) fun _ _ h _ _ => nextS h (by omega) fun _ _ h _ _ => nextS h (by omega) fun _ _ h _ _ => ?_) fun y hy => Tot.ret hy
        have := c0.shapes
        refine Tot.req (roomS (by simp only [s_nadd, len_eq, List.length_singleton]; omega) (by omega)) (Tot.ret ⟨h, by simp, set_CB all40 ⟨c0.name, by simp only [List.length_append, List.length_singleton]; omega, by have := c0.labels; simp only; omega, by have := c0.insts; simp only; omega, c0.lnames⟩⟩)
      · refine Tot.bind (P := PB L.length) (Tot.br (fun _ => ?_) fun _ => ?_) fun y hy => Tot.ret hy
        · have e1 : std.add .i64 (i : Int) 1 = (i : Int) + 1 := add1 (by omega)
          refine Tot.bind (inst_ok h (by rw [e1]; omega)) fun r hr => nextS hr (by omega) fun _ _ h _ _ => nextS h (by omega) fun _ _ h _ _ => ?_
          have := c0.insts
          refine Tot.bind (P := fun y : List TCell => y.length = L.length ∧ ∀ c ∈ y, CB 40 c) (Tot.req (roomS (by simp only [s_nadd, len_eq, List.length_singleton]; omega) (by omega)) (Tot.ret ⟨by simp, set_CB all40 ⟨c0.name, by have := c0.shapes; simp only; omega, by have := c0.labels; simp only; omega, by simp only [List.length_append, List.length_singleton]; omega, c0.lnames⟩⟩)) fun y hy => Tot.ret ⟨h, hy⟩
        · refine Tot.bind (P := PB L.length) (Tot.br (fun _ => ?_) fun _ => ?_) fun y hy => Tot.ret hy
          · refine Tot.bind (P := PB L.length) (nextS h (by omega) fun _ _ h _ _ => nextS h (by omega) fun _ _ h _ _ => nextS h (by omega) fun _ _ h _ _ => Tot.bind (name_ok h) fun r hr => ?_) fun y hy => Tot.ret hy
            have := c0.labels
            refine Tot.req (roomS (by simp only [s_nadd, len_eq, List.length_singleton]; omega) (by omega)) (Tot.ret ⟨hr.1, by simp, set_CB all40 ⟨c0.name, by have := c0.shapes; simp only; omega, by simp only [List.length_append, List.length_singleton]; omega, by have := c0.insts; simp only; omega, fun l hl => ?_⟩⟩)
            rcases List.mem_append.1 hl with hl | hl
            · exact c0.lnames l hl
            · rw [List.mem_singleton] at hl; rw [hl]; have := hr.2; simp only; omega
          · refine Tot.bind (P := PB L.length) (Tot.br (fun _ => ?_) fun _ => Tot.ret ⟨h, rfl, all40⟩) fun y hy => Tot.ret hy
            refine Tot.bind (P := PB L.length) (Tot.whileP (fun x : Int × List Int × Int × Int × List TCell => OKs ⟨x.2.1, x.2.2.1, x.2.2.2.1⟩ ∧ 0 ≤ x.1 ∧ x.1 ≤ 25 ∧ x.2.2.2.2.length = L.length ∧ ∀ c ∈ x.2.2.2.2, CB (4 + x.1.toNat) c) (fun x => (25 - x.1).toNat) ⟨h, Int.le_refl _, by simp, rfl, k4⟩ fun x hx => ?_) fun y hy => Tot.ret hy
            obtain ⟨j, c, at', sd, l⟩ := x
            obtain ⟨q1, q2, q3, q4, q5⟩ := hx
            simp only at q1 q2 q3 q4 q5
            simp only [L_spec_l09DrawAny_mPb_x167, letO_eq, s_toNn, s_nadd, Nat.zero_add]
            refine Tot.br (fun hk => ?_) fun hk => Tot.ret ⟨q1, q4, fun c hc => (q5 c hc).le (by omega)⟩
            have hk' := lt_dec hk
            have hil : i < l.length := by omega
            have ci := q5 _ (gd_mem hil)
            have hsh := ci.shapes
            refine Tot.bind (P := fun y : List Int × Int × Int × List TCell => OKs ⟨y.1, y.2.1, y.2.2.1⟩ ∧ y.2.2.2.length = L.length ∧ ∀ c ∈ y.2.2.2, CB (4 + (j.toNat + 1)) c) (Tot.bind (shape_ok q1) fun r hr => Tot.req (roomS (by simp only [s_nadd, len_eq, List.length_singleton]; omega) (by omega)) (Tot.req (by rw [len_eq, len_eq, q4]) (Tot.ret ⟨hr, by simp [q4], set_CB (n := 4 + (j.toNat + 1)) (fun c hc => (q5 c hc).le (by omega)) ⟨ci.name, by simp only [List.length_append, List.length_singleton]; omega, by have := ci.labels; simp only; omega, by have := ci.insts; simp only; omega, ci.lnames⟩⟩))) fun y hy => Tot.ret ?_
            rw [add1 (by omega)]
            exact ⟨⟨hy.1, by simp only; omega, by simp only; omega, hy.2.1, fun c hc => (hy.2.2 c hc).le (by simp only; omega)⟩, by simp only; omega⟩
theorem deep_ok {s : Tl01Source} (hs : OKs s) : Tot (F_spec_l10DrawDeep_mPb s) fun r => OKs r.2 ∧ r.1.fCells.length ≤ 4 ∧ ∀ c ∈ r.1.fCells, CB 40 c := by
  unfold F_spec_l10DrawDeep_mPb
  simp only [letO_eq]
  refine Tot.bind (P := fun y : List Int × Int × Int × List TCell => OKs ⟨y.1, y.2.1, y.2.2.1⟩ ∧ y.2.2.2.length ≤ 4 ∧ ∀ c ∈ y.2.2.2, CB 40 c)
    (Tot.whileP (fun x : Int × List Int × Int × Int × List TCell => OKs ⟨x.2.1, x.2.2.1, x.2.2.2.1⟩ ∧ (x.2.2.2.2.length : Int) = x.1 ∧ x.1 ≤ 4 ∧ ∀ c ∈ x.2.2.2.2, CB 40 c) (fun x => (4 - x.1).toNat) ⟨hs, rfl, by simp, fun c hc => by cases hc⟩ fun x hx => ?_) fun y hy => Tot.ret hy
  obtain ⟨i, c, at', sd, l⟩ := x
  obtain ⟨g1, g2, g3, g4⟩ := hx
  simp only at g1 g2 g3 g4
  simp only [L_spec_l10DrawDeep_mPb_x6, letO_eq]
  refine Tot.br (fun hk => ?_) fun hk => Tot.ret ⟨g1, by simp only; omega, g4⟩
  have hk' := lt_dec hk
  refine Tot.bind (shape_ok g1) fun r hr => nextS hr (by omega) fun v s2 h h0 h1 => ?_
  refine Tot.bind (P := fun y : List Int × Int × Int × List TInstance => OKs ⟨y.1, y.2.1, y.2.2.1⟩ ∧ y.2.2.2.length ≤ 4) (Tot.whileP (fun x : Int × List Int × Int × Int × List TInstance => OKs ⟨x.2.1, x.2.2.1, x.2.2.2.1⟩ ∧ 0 ≤ x.1 ∧ (x.2.2.2.2.length : Int) + x.1 ≤ 4) (fun x => x.1.toNat) ?_ fun x hx => ?_) fun y p => ?_
  · have e : std.add .i64 1 v = 1 + v := add_id (by omega) (by omega)
    exact ⟨h, by simp only [e]; omega, by simp only [e, List.length_nil]; omega⟩
  · obtain ⟨k, c, at', sd, l⟩ := x
    obtain ⟨q1, q2, q3⟩ := hx
    simp only at q1 q2 q3
    simp only [L_spec_l10DrawDeep_mPb_x31, letO_eq]
    refine Tot.bind (P := fun b => b = true → 0 < k) (Tot.br (fun hh => Tot.ret fun _ => lt_dec hh) fun _ => Tot.ret fun hh => by cases hh) fun b hb => Tot.br (fun hk => ?_) fun hk => Tot.ret ⟨q1, by simp only; omega⟩
    have hk' := hb hk
    refine Tot.bind (inst_ok q1 (by omega)) fun r hr => nextS hr (by omega) fun _ _ h _ _ => nextS h (by omega) fun _ _ h _ _ => nextS h (by omega) fun _ _ h _ _ => ?_
    refine Tot.bind (P := fun y : List Int × Int × Int × Int × Int => OKs ⟨y.1, y.2.1, y.2.2.1⟩) (Tot.br (fun _ => nextS h (by omega) fun _ _ h _ _ => nextS h (by omega) fun _ _ h _ _ => Tot.ret h) fun _ => Tot.ret h) fun y hy => ?_
    refine Tot.req (roomS (by simp only [s_nadd, len_eq, List.length_singleton]; omega) (by omega)) (Tot.ret ?_)
    rw [sub1 (by omega)]
    exact ⟨⟨hy, by simp only; omega, by simp only [List.length_append, List.length_singleton]; omega⟩, by simp only; omega⟩
  · refine Tot.bind (P := fun z => z.length = l.length + 1 ∧ ∀ c ∈ z, CB 40 c) (Tot.req (roomS (by simp only [s_nadd, len_eq, List.length_singleton]; omega) (by omega)) (Tot.ret ⟨by simp, fun c hc => ?_⟩)) fun z hz => Tot.ret ?_
    · rcases List.mem_append.1 hc with hc | hc
      · exact g4 c hc
      · rw [List.mem_singleton] at hc
        rw [hc]
        exact ⟨by show (std.ofBytes _ _).size ≤ 100; rw [ofBytes_size, len_eq]; simp, by simp, by simp, by have := p.2; simp only; omega, fun l hl => by cases hl⟩
    · rw [add1 (by omega)]
      exact ⟨⟨p.1, by have := hz.1; simp only; omega, by simp only; omega, hz.2⟩, by simp only; omega⟩
def OKl (a : TLibrary) : Prop := a.fCells.length ≤ 4 ∧ ∀ c ∈ a.fCells, CB 40 c
theorem OKl.small {a : TLibrary} (h : OKl a) : SmallL a := ⟨by have := h.1; omega, fun c hc => by
  have g := h.2 c hc
  exact ⟨by have := g.name; omega, by have := g.shapes; omega, by have := g.labels; omega, by have := g.insts; omega, fun l hl => by have := g.lnames l hl; omega⟩⟩
theorem top10_ok {s : Tl01Source} (hs : OKs s) : Tot (F_spec_l10DrawTop_mPb s) fun r => OKs r.2.2 ∧ OKl r.1 := by
  unfold F_spec_l10DrawTop_mPb
  refine nextS hs (by omega) fun _ _ h _ _ => Tot.br (fun _ => ?_) fun _ => ?_
  · refine Tot.bind (any_ok h) fun r hr => Tot.bind (index_ok hr.1 r.1 (by have := hr.2.1; omega)) fun q hq => ?_
    exact Tot.req (by rw [hq.2]) (Tot.req (by rw [hq.2]) (Tot.ret ⟨hq.1, by rw [hq.2]; exact hr.2⟩))
  · unfold F_spec_l10DrawLibrary_mPb
    refine Tot.bind (P := fun r : TLibrary × Tl01Source => OKs r.2 ∧ OKl r.1) (Tot.bind (library_ok h) fun r hr => Tot.ret ⟨hr.1, hr.2.2.1, fun c hc => (hr.2.2.2 c hc).le (by omega)⟩) fun r hr => ?_
    refine nextS hr.1 (by omega) fun _ _ h _ _ => Tot.br (fun _ => ?_) fun _ => Tot.ret ⟨h, hr.2⟩
    refine Tot.bind (index_ok h r.1 (by have := hr.2.1; omega)) fun q hq => ?_
    exact Tot.req (by rw [hq.2]) (Tot.req (by rw [hq.2]) (Tot.ret ⟨hq.1, by rw [hq.2]; exact hr.2⟩))
theorem top12_ok {s : Tl01Source} (hs : OKs s) : Tot (F_spec_l12DrawTop_mPb s) fun r => OKs r.2.2 ∧ OKl r.1 := by
  unfold F_spec_l12DrawTop_mPb
  refine nextS hs (by omega) fun _ _ h _ _ => Tot.br (fun _ => ?_) fun _ => ?_
  · exact Tot.bind (deep_ok h) fun r hr => Tot.ret hr
  · exact Tot.bind (top10_ok h) fun r hr => Tot.ret hr
/- FnHitPaths: the place of a path -/
noncomputable def kidO (o : TOccurrence) (e : Telement) (s : Int) : TOccurrence := ⟨e.gcell, cmpT o.fPlace e.gplace, o.fPath ++ [s]⟩
/-- the path q leads from o to o' -/
noncomputable def Steps (a : TLibrary) : TOccurrence → List Int → TOccurrence → Prop
  | o, [], o' => o = o'
  | o, s :: q, o' => ∃ i : Nat, s = (i : Int) ∧ i < (elemsC (gd a.fCells o.fCell.toNat)).length ∧ Steps a (kidO o (gd (elemsC (gd a.fCells o.fCell.toNat)) i) s) q o'
theorem occG_steps (a : TLibrary) (p : Nat → TTransform → Bool) : ∀ n o, ∀ o' ∈ occG a p n o, ∃ q, o'.fPath = o.fPath ++ q ∧ Steps a o q o' := by
  intro n
  induction n with
  | zero => intro o o' h; simp [occG] at h
  | succ n ih =>
    intro o o' h
    rw [occG] at h
    rcases List.mem_cons.1 h with rfl | h
    · exact ⟨[], by simp, rfl⟩
    · rw [ctr_range] at h
      obtain ⟨i, hi, h⟩ := List.mem_flatMap.1 h
      rw [List.mem_range] at hi
      rw [Nat.zero_add] at h
      split at h
      · obtain ⟨q, hq, hs⟩ := ih _ o' h
        refine ⟨(i : Int) :: q, ?_, i, rfl, hi, hs⟩
        rw [hq]; simp
      · cases h
theorem gd_mid (pre : List Int) (s : Int) (q : List Int) : gd (pre ++ s :: q) pre.length = s := by
  rw [gd_lt (by simp)]; simp
theorem path_loop (a : TLibrary) (hv : okLib a = true) : ∀ (q pre : List Int) (o o' : TOccurrence), GO a o → Steps a o q o' → (pre ++ q).length ≤ 1000 →
    whileP (L_impl_PathPlace_x10 a (pre ++ q)) ((pre.length : Int), o.fCell, o.fPlace.fOrientation, o.fPlace.fX, o.fPlace.fY) = some (.inr (o'.fCell, o'.fPlace.fOrientation, o'.fPlace.fX, o'.fPlace.fY)) := by
  intro q
  induction q with
  | nil =>
    intro pre o o' ho hs _
    have e : o = o' := hs
    subst e
    rw [whileP_unfold]
    simp only [L_impl_PathPlace_x10, letO_eq]
    rw [List.append_nil, ltl_f, br_f]
  | cons s q ih =>
    intro pre o o' ho hs hl
    obtain ⟨i, rfl, hi, hs⟩ := hs
    obtain ⟨c, hc, hcn, hpl⟩ := ho.cell
    have hvc := vc_of hv hcn
    rw [hc, Int.toNat_natCast] at hi hs
    have hL128 := elemsC_le hvc
    have hmem := gd_mem hi
    have hmem' : gd (elemsC (gd a.fCells c)) i ∈ elemsC (gd a.fCells o.fCell.toNat) := by rw [hc, Int.toNat_natCast]; exact hmem
    have hch := (ho.child hv hmem' (i : Int)).1
    have hlt : pre.length < (pre ++ (i : Int) :: q).length := by simp
    rw [whileP_unfold]
    simp only [L_impl_PathPlace_x10, letO_eq, s_toNn, s_nadd, Nat.zero_add, gd_mid, hc]
    have hcp : F_impl_compose (gd (elemsC (gd a.fCells c)) i).gplace o.fPlace = some (cmpT o.fPlace (gd (elemsC (gd a.fCells c)) i).gplace) := impl_compose_ok _ _
    have hw : wB (i : Int) 0 (((elemsC (gd a.fCells c)).length : Int) - 1) = true := (wB_iffG _ _ _).2 (by omega)
    rw [ltl_t hlt, br_t, req_of (inRl hlt), req_of (inRl hcn), impl_elements_ok _ hvc, Option.bind_some, s_ofN, len_eq, sub_id (by omega) (by omega), impl_within_ok, Option.bind_some, hw, Bool.not_true, br_f,
      ← len_eq, req_of (inRl hi), req_of (inRl hi), show TTransform.mk o.fPlace.fOrientation o.fPlace.fX o.fPlace.fY = o.fPlace from rfl, hcp, Option.bind_some, inc_nat (by simp at hl; omega)]
    have := ih (pre ++ [(i : Int)]) (kidO o (gd (elemsC (gd a.fCells c)) i) (i : Int)) o' hch hs (by simpa using hl)
    rw [List.append_assoc, List.length_append] at this
    exact this
theorem impl_PathPlace_ok (a : TLibrary) (h : SmallL a) (hv : okLib a = true) {m : Nat} (hm : m < a.fCells.length) {wd : TRect} {o : TOccurrence} (ho : o ∈ visL a m wd) :
    F_impl_PathPlace a (m : Int) o.fPath = some (if okTr o.fPlace then (o, 0) else (⟨0, ⟨0, 0, 0⟩, []⟩, 2)) := by
  have hg := visL_good a hv wd hm o ho
  have hp8 := path_le hg
  have h8 := (okLib_leG hv).2
  obtain ⟨q, hq, hs⟩ := occG_steps a _ 64 _ o ho
  have hq' : o.fPath = q := by rw [hq]; rfl
  have hw : wB (m : Int) 0 ((a.fCells.length : Int) - 1) = true := (wB_iffG _ _ _).2 (by omega)
  have hc : F_impl_cellCode a (m : Int) = some 0 := by
    unfold F_impl_cellCode
    rw [impl_IsValidLibrary_ok _ h, Option.bind_some, hv, Bool.not_true, br_f, s_ofN, len_eq, sub_id (by omega) (by omega), impl_within_ok, Option.bind_some, hw, Bool.not_true, br_f]
  have hl := path_loop a hv q [] (rootO m) o (rootO_good a hv hm) hs (by rw [← hq']; simp; omega)
  rw [List.nil_append, ← hq'] at hl
  have hl' : whileP (L_impl_PathPlace_x10 a o.fPath) (0, (m : Int), 0, 0, 0) = _ := hl
  unfold F_impl_PathPlace
  rw [hc, Option.bind_some, notEq (eq_true' rfl), br_f, cloneI_ok _ (by omega), Option.bind_some, hl', Option.bind_some]
  simp only [letO_eq]
  rw [show TTransform.mk o.fPlace.fOrientation o.fPlace.fX o.fPlace.fY = o.fPlace from rfl, impl_IsValidTransform_ok, Option.bind_some]
  cases okTr o.fPlace <;> rfl
theorem hit_mem {a : TLibrary} {k y : Int} {wd : TRect} {x : TWindowHit} (h : x ∈ hitL a k y wd) : ∃ o ∈ visL a k.toNat wd, ∃ j : Nat, j < (gd a.fCells o.fCell.toNat).fShapes.length ∧ (gd (gd a.fCells o.fCell.toNat).fShapes j).fLayer = y ∧ x = ⟨o.fCell, (j : Int), y, mvR o.fPlace (gd (gd a.fCells o.fCell.toNat).fShapes j).fBox, o.fPath⟩ := by
  unfold hitL at h
  obtain ⟨o, ho, h⟩ := List.mem_flatMap.1 h
  unfold hitsOf at h
  obtain ⟨j, hj, h⟩ := List.mem_flatMap.1 h
  rw [List.mem_range] at hj
  unfold hitF at h
  split at h
  · rename_i hc
    rw [Bool.and_eq_true] at hc
    rw [List.mem_singleton] at h
    have h1 := hc.1
    rw [s_eq, decide_eq_true_eq] at h1
    exact ⟨o, ho, j, hj, h1, h⟩
  · cases h
theorem prb_mem (a : TLibrary) (k : Int) (wd : TRect) : ∀ n acc l, prb a k wd n acc = .inr l → ∀ x ∈ l, x ∈ acc ∨ ∃ y : Nat, y < n ∧ x ∈ hitL a k (y : Int) wd
  | 0, acc, l, e, x, hx => by injection e with e; subst e; exact .inl hx
  | n + 1, acc, l, e, x, hx => by
    unfold prb at e
    split at e
    · cases e
    · rcases prb_mem a k wd n _ l e x hx with h | ⟨y, hy, h⟩
      · rcases List.mem_append.1 h with h | h
        · exact .inl h
        · exact .inr ⟨n, by omega, h⟩
      · exact .inr ⟨y, by omega, h⟩
theorem prb_sorted (a : TLibrary) (k : Int) (wd : TRect) : ∀ n acc l, prb a k wd n acc = .inr l → (∀ x ∈ acc, (n : Int) ≤ x.fLayer) → acc.Pairwise (fun x y => y.fLayer ≤ x.fLayer) → l.Pairwise (fun x y => y.fLayer ≤ x.fLayer)
  | 0, acc, l, e, _, h2 => by injection e with e; subst e; exact h2
  | n + 1, acc, l, e, h1, h2 => by
    unfold prb at e
    split at e
    · cases e
    · have hy : ∀ x ∈ hitL a k (n : Int) wd, x.fLayer = (n : Int) := fun x hx => by
        obtain ⟨o, _, j, _, _, rfl⟩ := hit_mem hx; rfl
      refine prb_sorted a k wd n _ l e (fun x hx => ?_) ?_
      · rcases List.mem_append.1 hx with h | h
        · have := h1 x h; omega
        · rw [hy x h]; omega
      · refine List.pairwise_append.2 ⟨h2, ?_, fun x hx z hz => ?_⟩
        · exact List.pairwise_iff_forall_sublist.2 fun {x z} hs => by
            have hx := hy x (hs.subset (by simp))
            have hz := hy z (hs.subset (by simp))
            omega
        · have := h1 x hx
          rw [hy z hz]; omega
theorem drawProbe_ok {c : List Int} (hc : OKc c) : Tot (F_spec_DrawProbeUnit c) fun r => SmallL r.1 := by
  unfold F_spec_DrawProbeUnit
  refine Tot.bind (from_ok hc) fun s hs => Tot.bind (top12_ok hs) fun r hr => nextS hr.1 (by omega) fun _ _ h _ _ => nextS h (by omega) fun _ _ h _ _ => nextS h (by omega) fun _ _ h _ _ => ?_
  refine Tot.bind (P := fun _ => True) (Tot.br (fun _ => Tot.ret trivial) fun _ => Tot.ret trivial) fun _ _ => Tot.ret hr.2.small
theorem around_ok {p : TPoint} (h : okPoint p = true) : F_laws_w5Around p 0 = some (unitR p) := by
  unfold okPoint at h
  rw [Bool.and_eq_true, wB_iffG, wB_iffG] at h
  unfold F_laws_w5Around unitR
  rw [sub_id (by omega) (by omega), sub_id (by omega) (by omega), add_id (x := p.fX) (y := 0) (by omega) (by omega), add_id (x := p.fY) (y := 0) (by omega) (by omega), add_id (by omega) (by omega), add_id (by omega) (by omega), add_id (by omega) (by omega), add_id (by omega) (by omega), s_imax, s_imax, s_imin, s_imin]
  rw [Int.max_eq_left (by omega), Int.max_eq_left (by omega), Int.min_eq_left (by omega), Int.min_eq_left (by omega)]
  simp
theorem rect_same (r : TRect) : std.not (std.band (std.eq r.fX0 r.fX0) (std.band (std.eq r.fY0 r.fY0) (std.band (std.eq r.fX1 r.fX1) (std.band (std.eq r.fY1 r.fY1) true)))) = false := by simp [std]
theorem impl_MoveRect_in (t : TTransform) (r : TRect) (ht : okTr t = true) (hr : okRect r = true) : ∃ z b, F_impl_MoveRect t r = some (z, b) ∧ (b = true → z = mvR t r) := by
  unfold F_impl_MoveRect
  rw [impl_IsValidTransform_ok, Option.bind_some, ht, Bool.not_true, br_f, impl_IsValidRect_ok, Option.bind_some, hr, Option.bind_some]
  simp only [letO_eq, Bool.not_true, br_f]
  rw [impl_moveRect_ok, Option.bind_some, impl_IsValidRect_ok, Option.bind_some]
  cases okRect (mvR t r) with
  | false => exact ⟨_, _, rfl, fun h => by cases h⟩
  | true => exact ⟨_, _, rfl, fun _ => rfl⟩
theorem hp_step (a : TLibrary) (p : TPoint) (h : SmallL a) (hv : okLib a = true) {m : Nat} (hm : m < a.fCells.length) {wd : TRect} {l : List TWindowHit} (hl : l.length ≤ 800)
    (h1 : ∀ x ∈ l, ∃ y : Nat, x ∈ hitL a (m : Int) (y : Int) wd) (h2 : l.Pairwise (fun x y => y.fLayer ≤ x.fLayer)) {i : Nat} (hi : i < l.length) :
    L_laws_FnHitPaths_x8 (a, (m : Int), p) (l, 0) (i : Int) = some (.inl ((i + 1 : Nat) : Int)) := by
  obtain ⟨x, hx⟩ : ∃ x, x = gd l i := ⟨_, rfl⟩
  have hxm := gd_mem hi
  rw [← hx] at hxm
  obtain ⟨y, hy⟩ := h1 x hxm
  obtain ⟨o, ho, j, hj, hlay, hxe⟩ := hit_mem hy
  rw [Int.toNat_natCast] at ho
  have hg := visL_good a hv wd hm o ho
  obtain ⟨c, hc, hcn, _⟩ := hg.cell
  rw [hc, Int.toNat_natCast] at hj hlay hxe
  have hvc := vc_of hv hcn
  have h8 := (okLib_leG hv).2
  have hsh := hvc.shape _ (gd_mem hj)
  unfold okShape at hsh
  rw [Bool.and_eq_true] at hsh
  obtain ⟨S, hS⟩ : ∃ S, S = gd (gd a.fCells c).fShapes j := ⟨_, rfl⟩
  rw [← hS] at hsh hlay hxe
  have hprev : ∀ {b : Int}, std.lt 0 (i : Int) = true → b = std.sub .i64 (i : Int) 1 → std.inR b (len l) ∧ std.lt (gd l (std.toN b)).fLayer (gd l i).fLayer = false := by
    intro b hb e
    rw [s_lt, decide_eq_true_eq] at hb
    rw [sub_id (by omega) (by omega)] at e
    obtain ⟨i', rfl⟩ : ∃ i', i = i' + 1 := ⟨i - 1, by omega⟩
    have e2 : b = (i' : Int) := by omega
    subst e2
    refine ⟨inRl (by omega), ?_⟩
    rw [s_toNn]
    have := List.pairwise_iff_getElem.1 h2 i' (i' + 1) (by omega) hi (by omega)
    rw [gd_lt (by omega), gd_lt hi]
    exact lt_false (by omega)
  have hpth : F_impl_PathPlace a (m : Int) o.fPath = _ := impl_PathPlace_ok a h hv hm ho
  have hxp : x.fPath = o.fPath := by rw [hxe]
  simp only [L_laws_FnHitPaths_x8, letO_eq, s_toNn, s_nadd, Nat.zero_add]
  rw [ltl_t hi, br_t, req_of (inRl hi), ← hx, hxp, hpth, Option.bind_some, inc_nat (by omega)]
  cases hT : okTr o.fPlace with
  | false =>
    simp only [Option.bind_some, if_neg (show ¬ (false = true) by simp)]
    rw [eq_true' rfl, br_t]
  | true =>
    simp only [Option.bind_some, if_true]
    rw [eq_false' (by decide), br_f, notEq (eq_true' rfl), br_f, req_of (inRl hi), hc]
    have e1 : x.fCell = (c : Int) := by rw [hxe]
    have e2 : x.fShape = (j : Int) := by rw [hxe]
    have e3 : x.fLayer = S.fLayer := by rw [hxe]; exact hlay.symm
    have e4 : x.fBox = mvR o.fPlace S.fBox := by rw [hxe]
    rw [e1, notEq (eq_true' rfl), br_f, lt_false (by omega), br_f, le_false (by rw [s_ofN, len_eq]; omega), br_f, req_of (inRl hi), e2, lt_false (by omega), br_f, req_of (inRl hi), req_of (inRl hcn), s_toNn,
      le_false (by rw [s_ofN, len_eq]; omega), Option.bind_some, br_f, req_of (inRl hcn), req_of (inRl hi), req_of (inRl hj), s_toNn, Option.bind_some, ← hS]
    obtain ⟨z, b, hz, hzb⟩ := impl_MoveRect_in o.fPlace S.fBox hT hsh.2
    have hz' : F_impl_MoveRect (TTransform.mk o.fPlace.fOrientation o.fPlace.fX o.fPlace.fY) (TRect.mk S.fBox.fX0 S.fBox.fY0 S.fBox.fX1 S.fBox.fY1) = some (z, b) := hz
    simp only
    rw [hz', Option.bind_some, req_of (inRl hi), e3, notEq (eq_true' rfl), br_f]
    have htail : (br (std.lt 0 (i : Int)) (req (std.inR (std.sub .i64 (i : Int) 1) (len l)) <| req (std.inR (i : Int) (len l)) <| some (std.lt (gd l (std.toN (std.sub .i64 (i : Int) 1))).fLayer S.fLayer)) (some false) : Option Bool) = some false := by
      cases hb : std.lt 0 (i : Int) with
      | false => rfl
      | true =>
        obtain ⟨g1, g2⟩ := hprev hb rfl
        rw [← hx, e3] at g2
        rw [br_t, req_of g1, req_of (inRl hi), g2]
    cases b with
    | false =>
      simp only [br_f]
      rw [htail, Option.bind_some, br_f]
    | true =>
      have hzz := hzb rfl
      subst hzz
      simp only [br_t]
      rw [req_of (inRl hi), e4, rect_same, br_f, htail, Option.bind_some, br_f]
theorem wf_byteH {x : Int} (h : wfI .u8 x) : 0 ≤ x ∧ x ≤ 255 := by
  have h' : (Lit.int .u8 x).wf = true := h
  have e1 : IntKind.min .u8 = 0 := rfl
  have e2 : IntKind.max .u8 = 255 := rfl
  simp [Lit.wf] at h'
  omega
theorem lawW_HitPaths (c : List Int) (w : (wfL (wfI .u8)) c) : F_laws_FnHitPaths c = some true := by
  unfold F_laws_FnHitPaths F_laws_big
  rw [Option.bind_some]
  cases hb : std.lt 4096 (std.ofN (len c)) with
  | true => rfl
  | false =>
    rw [br_f]
    have hl := lt_decf hb
    rw [s_ofN, len_eq] at hl
    obtain ⟨⟨a, k, p⟩, h1, h2⟩ := drawProbe_ok (c := c) ⟨by omega, fun b hm => wf_byteH (w.2 b hm)⟩
    have h2 : SmallL a := h2
    rw [h1, Option.bind_some]
    show (F_impl_ProbeUnit a k p).bind _ = _
    rw [impl_ProbeUnit_ok a k p h2, Option.bind_some]
    by_cases hc : puC a k p = 0
    · have hp : okPoint p = true := by
        unfold puC at hc
        split at hc
        · assumption
        · cases hc
      have hc' : wCode a k 0 (unitR p) = 0 := by unfold puC at hc; rw [if_pos hp] at hc; exact hc
      obtain ⟨hv, hw, ⟨m, rfl, hm, hcn⟩, _⟩ := wCode_zero hc'
      unfold puR
      rw [if_pos hc]
      cases hpr : prb a (m : Int) (unitR p) 8 [] with
      | inl z =>
        have hz : z = 3 := by
          have key : ∀ n acc, prb a (m : Int) (unitR p) n acc = .inl z → z = 3 := by
            intro n
            induction n with
            | zero => intro acc e; cases e
            | succ n ih =>
              intro acc e
              unfold prb at e
              split at e
              · injection e with e; exact e.symm
              · exact ih _ e
          exact key 8 [] hpr
        subst hz
        rfl
      | inr l =>
        have hlen := prb_len a (m : Int) (unitR p) 8 [] l hpr
        have hl8 : l.length ≤ 800 := by simpa using hlen
        have hm1 : ∀ x ∈ l, ∃ y : Nat, x ∈ hitL a (m : Int) (y : Int) (unitR p) := fun x hx => by
          rcases prb_mem a (m : Int) (unitR p) 8 [] l hpr x hx with h | ⟨y, _, h⟩
          · cases h
          · exact ⟨y, h⟩
        have hs := prb_sorted a (m : Int) (unitR p) 8 [] l hpr (fun x hx => by cases hx) List.Pairwise.nil
        simp only
        rw [notEq (eq_true' rfl), br_f]
        rw [while_eq (r := .inr ()) l.length (fun i hi => hp_step a p h2 hv hm hl8 hm1 hs hi) (by
          simp only [L_laws_FnHitPaths_x8, letO_eq]
          rw [ltl_f, br_f]), Option.bind_some]
        simp only
        rw [around_ok hp, Option.bind_some, impl_VisitedCount_ok a _ _ h2, Option.bind_some]
        unfold visC hasC
        rw [hv, (wB_iffG _ _ _).2 (show (0 : Int) ≤ (m : Int) ∧ (m : Int) ≤ (a.fCells.length : Int) - 1 by omega), hw, Int.toNat_natCast, decide_eq_true hcn]
        simp only [Bool.and_self, if_true]
        have hpos : 1 ≤ (visL a m (unitR p)).length := by
          unfold visL
          rw [occG, List.length_cons]
          omega
        rw [lt_true (by omega)]
    · have e : puR a k p = ([], puC a k p) := by unfold puR; rw [if_neg hc]
      rw [e]
      simp only
      rw [eq_false' hc, s_not, Bool.not_false, br_t]; rfl
end Go.Proofs.Ytlenieingkfjaaa.AM
