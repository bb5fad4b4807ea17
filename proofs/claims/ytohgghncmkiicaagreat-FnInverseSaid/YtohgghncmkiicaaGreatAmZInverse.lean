/-
  What the functions that the law reaches compute, and that they do. No condition.
-/
import Derived.Test.YtohgghncmkiicaaGreatAmSU
import Derived.Test.YtohgghncmkiicaaGreatAmP
import Derived.Test.YtohgghncmkiicaaGreatAmSZ
import Derived.Test.YtohgghncmkiicaaGreatAmZJ
namespace Go.Proofs.YtohgghncmkiicaaGreat.AM
open Go Go.Proofs Go.RowKit
set_option linter.unusedVariables false
set_option linter.unusedSimpArgs false
set_option maxRecDepth 100000

/- what is drawn: it is drawn, and it is small -/
def Tot {α : Type} (x : Option α) (Q : α -> Prop) : Prop := ∃ r, x = some r /\ Q r
theorem Tot.ret {α : Type} {r : α} {Q : α -> Prop} (h : Q r) : Tot (some r) Q := ⟨r, rfl, h⟩
theorem Tot.bind {α β : Type} {x : Option α} {f : α -> Option β} {P : α -> Prop} {Q : β -> Prop} (h : Tot x P) (g : ∀ r, P r -> Tot (f r) Q) : Tot (x.bind f) Q := by
  obtain ⟨r, h1, h2⟩ := h
  rw [h1]
  exact g r h2
theorem Tot.req {α : Type} {p : Prop} {k : Option α} {Q : α -> Prop} (h : p) (g : Tot k Q) : Tot (Go.Proofs.YtohgghncmkiicaaGreat.AM.req p k) Q := by rw [req_of h]; exact g
theorem Tot.br {α : Type} {b : Bool} {x y : Option α} {Q : α -> Prop} (h1 : b = true -> Tot x Q) (h2 : b = false -> Tot y Q) : Tot (Go.Proofs.YtohgghncmkiicaaGreat.AM.br b x y) Q := by
  cases b with
  | true => exact h1 rfl
  | false => exact h2 rfl
theorem Tot.letO {α β : Type} {e : α} {f : α -> Option β} {Q : β -> Prop} (h : Tot (f e) Q) : Tot (Go.Proofs.YtohgghncmkiicaaGreat.AM.letO e f) Q := h
theorem Tot.mono {α : Type} {x : Option α} {P Q : α -> Prop} (h : Tot x P) (g : ∀ r, P r -> Q r) : Tot x Q := by
  obtain ⟨r, h1, h2⟩ := h
  exact ⟨r, h1, g r h2⟩
theorem Tot.whileP {σ ρ : Type} {step : σ -> Option (σ ⊕ ρ)} {x0 : σ} {Post : ρ -> Prop} (Inv : σ -> Prop) (μ : σ -> Nat) (h0 : Inv x0)
    (h : ∀ x, Inv x -> Tot (step x) fun r => match r with | .inl x' => Inv x' /\ μ x' < μ x | .inr r => Post r) : Tot (Go.Proofs.YtohgghncmkiicaaGreat.AM.whileP step x0) Post := by
  refine while_ex Inv Post μ h0 fun x hx => ?_
  obtain ⟨r, h1, h2⟩ := h x hx
  cases r with
  | inl x' => exact .inl ⟨x', h1, h2.1, h2.2⟩
  | inr r => exact .inr ⟨r, h1, h2⟩
def OKc (c : List Int) : Prop := c.length <= 4096 /\ ∀ b ∈ c, 0 <= b /\ b <= 255
structure OKs (s : Tl01Source) : Prop where
  code : OKc s.gcode
  at0 : 0 <= s.gat
  at1 : s.gat <= 4096
  seed0 : 0 <= s.gseed
  seed1 : s.gseed < 2147483647
theorem lt_dec {x y : Int} (h : std.lt x y = true) : x < y := of_decide_eq_true h
theorem lt_decf {x y : Int} (h : std.lt x y = false) : y <= x := by
  have := of_decide_eq_false (show decide (x < y) = false from h); omega
theorem le_dec {x y : Int} (h : std.le x y = true) : x <= y := of_decide_eq_true h
theorem le_decf {x y : Int} (h : std.le x y = false) : y < x := by
  have := of_decide_eq_false (show decide (x <= y) = false from h); omega
theorem remB {x m : Int} (hx : 0 <= x) (hm : 0 < m) : 0 <= std.rem x m /\ std.rem x m < m := by
  show 0 <= Int.tmod x m /\ Int.tmod x m < m
  rw [Int.tmod_eq_emod_of_nonneg hx]
  exact ⟨Int.emod_nonneg _ (by omega), Int.emod_lt_of_pos _ hm⟩
theorem quoB {x m : Int} (hx : 0 <= x) (hx2 : x < 4611686018427387904) (hm : 0 < m) : 0 <= std.quo .i64 x m := by
  show 0 <= IntKind.i64.wrap (Int.tdiv x m)
  have h1 : Int.tdiv x m = x / m := Int.tdiv_eq_ediv_of_nonneg hx
  have h2 : 0 <= x / m := Int.ediv_nonneg hx (by omega)
  have h3 : x / m <= x := Int.ediv_le_self _ hx
  rw [h1, wrap_id (by omega) (by omega)]
  exact h2
theorem conv_id {x : Int} (h : 0 <= x /\ x <= 255) : std.conv .i64 x = x := wrap_id (by omega) (by omega)
theorem gd_byte {c : List Int} (h : OKc c) {i : Int} (h0 : 0 <= i) (h1 : i < (c.length : Int)) : 0 <= gd c (std.toN i) /\ gd c (std.toN i) <= 255 := by
  obtain ⟨n, rfl⟩ := Int.eq_ofNat_of_zero_le h0
  rw [s_toNn]
  exact h.2 _ (gd_mem (by omega))
theorem mulS {x y : Int} (h : -9223372036854775808 <= x * y) (g : x * y < 9223372036854775808) : std.mul .i64 x y = x * y := wrap_id h g
/-- the next number -/
theorem next_ok {s : Tl01Source} (hs : OKs s) {n : Int} (hn : n <= 1000000) : Tot (Fq0 s n) fun r => OKs r.2 /\ 0 <= r.1 /\ (r.1 < n \/ r.1 = 0) := by
  obtain ⟨hc, h0, h1, s0, s1⟩ := hs
  unfold Fq0
  have hm : std.mul .i64 s.gseed 48271 = s.gseed * 48271 := mulS (by omega) (by omega)
  refine Tot.br (fun h => Tot.ret ⟨⟨hc, h0, h1, s0, s1⟩, Int.le_refl _, .inr rfl⟩) fun h => ?_
  have hn1 := le_decf h
  have hnz : std.nz n := by show n ≠ 0; omega
  refine Tot.br (fun h => ?_) fun h => ?_
  · have hlt := lt_dec h
    rw [s_ofN, len_eq] at hlt
    obtain ⟨b0, b1⟩ := gd_byte hc h0 hlt
    have hl := hc.1
    have ha : std.add .i64 s.gat 1 = s.gat + 1 := add_id (by omega) (by omega)
    refine Tot.req ⟨h0, by rw [len_eq]; exact hlt⟩ (Tot.br (fun _ => ?_) fun _ => ?_)
    · rw [hm, conv_id ⟨b0, b1⟩, add_id (x := s.gseed * 48271) (by omega) (by omega), add_id (by omega) (by omega), ha]
      obtain ⟨r0, r1⟩ := remB (x := s.gseed * 48271 + gd s.gcode (std.toN s.gat) + 1) (m := 2147483647) (by omega) (by omega)
      obtain ⟨q0, q1⟩ := remB (m := n) r0 (by omega)
      exact Tot.req (by show (2147483647 : Int) ≠ 0; omega) (Tot.req hnz (Tot.ret ⟨⟨hc, by show 0 <= s.gat + 1; omega, by show s.gat + 1 <= 4096; omega, r0, r1⟩, q0, .inl q1⟩))
    · rw [conv_id ⟨b0, b1⟩, ha]
      obtain ⟨q0, q1⟩ := remB (m := n) b0 (by omega)
      exact Tot.req hnz (Tot.ret ⟨⟨hc, by show 0 <= s.gat + 1; omega, by show s.gat + 1 <= 4096; omega, s0, s1⟩, q0, .inl q1⟩)
  · rw [hm, add_id (by omega) (by omega)]
    obtain ⟨r0, r1⟩ := remB (x := s.gseed * 48271 + 11) (m := 2147483647) (by omega) (by omega)
    have q := quoB (m := 7) r0 (by omega) (by omega)
    obtain ⟨q0, q1⟩ := remB (m := n) q (by omega)
    exact Tot.req (by show (2147483647 : Int) ≠ 0; omega) (Tot.req (by show (7 : Int) ≠ 0; omega) (Tot.req hnz (Tot.ret ⟨⟨hc, h0, h1, r0, r1⟩, q0, .inl q1⟩)))
theorem from_ok {c : List Int} (hc : OKc c) : Tot (Fq44 c) OKs := by
  unfold Fq44
  have hl := hc.1
  refine Tot.bind (P := fun v : Int => 0 <= v /\ v < 2147483647) (Tot.whileP (fun x : Int × Int => 0 <= x.1 /\ x.1 <= 64 /\ 0 <= x.2 /\ x.2 < 2147483647) (fun x => (64 - x.1).toNat) (by simp) fun x hx => ?_) fun v hv => Tot.ret ⟨hc, Int.le_refl _, by simp, hv.1, hv.2⟩
  obtain ⟨v1, v2⟩ := x
  obtain ⟨x0, x1, y0, y1⟩ := hx
  simp only at x0 x1 y0 y1
  unfold Lq44_x3
  simp only [letO_eq]
  refine Tot.bind (P := fun b => b = true -> v1 < (c.length : Int) /\ v1 < 64) (Tot.br (fun h => Tot.ret fun g => ?_) fun h => Tot.ret fun g => by cases g) fun b hb => Tot.br (fun h => ?_) fun h => ?_
  · have h1 := lt_dec h
    rw [s_ofN, len_eq] at h1
    exact ⟨h1, lt_dec g⟩
  · obtain ⟨h1, h2⟩ := hb h
    obtain ⟨b0, b1⟩ := gd_byte hc x0 h1
    have hm : std.mul .i64 v2 31 = v2 * 31 := mulS (by omega) (by omega)
    rw [hm, conv_id ⟨b0, b1⟩, add_id (x := v2 * 31) (by omega) (by omega), add_id (x := v1) (by omega) (by omega)]
    obtain ⟨r0, r1⟩ := remB (x := v2 * 31 + gd c (std.toN v1)) (m := 2147483647) (by omega) (by omega)
    exact Tot.req ⟨x0, by rw [len_eq]; exact h1⟩ (Tot.req (by show (2147483647 : Int) ≠ 0; omega) (Tot.ret ⟨⟨by show 0 <= v1 + 1; omega, by show v1 + 1 <= 64; omega, r0, r1⟩, by show (64 - (v1 + 1)).toNat < (64 - v1).toNat; omega⟩))
  · exact Tot.ret ⟨y0, y1⟩
/- draws of libraries -/
theorem ofBytes_size (n : Nat) (g : Nat -> Int) : (std.ofBytes n g).size = n := by
  show (((List.range n).map fun i => UInt8.ofNat (g i).toNat).toArray).size = n
  simp
theorem roomS {n b : Nat} (hn : n <= 1000) (hb : b <= 1000) : std.room n b := by
  show n * b <= 35184372088832
  exact Nat.le_trans (Nat.mul_le_mul hn hb) (by omega)
theorem nextS {s : Tl01Source} (hs : OKs s) {n : Int} (hn : n <= 1000000) {β : Type} {f : Int × Tl01Source -> Option β} {Q : β -> Prop} (g : ∀ v s', OKs s' -> 0 <= v -> (v < n \/ v = 0) -> Tot (f (v, s')) Q) : Tot ((Fq0 s n).bind f) Q :=
  Tot.bind (next_ok hs hn) fun r hr => g r.1 r.2 hr.1 hr.2.1 hr.2.2
theorem box_ok {s : Tl01Source} (hs : OKs s) : Tot (Fq72 s) fun r => OKs r.2 := by
  unfold Fq72
  exact nextS hs (by omega) fun _ _ h _ _ => nextS h (by omega) fun _ _ h _ _ => nextS h (by omega) fun _ _ h _ _ => nextS h (by omega) fun _ _ h _ _ => Tot.ret h
theorem shape_ok {s : Tl01Source} (hs : OKs s) : Tot (Fq18 s) fun r => OKs r.2 := by
  unfold Fq18
  exact nextS hs (by omega) fun _ _ h _ _ => Tot.bind (box_ok h) fun r hr => Tot.ret hr
theorem inst_ok {s : Tl01Source} (hs : OKs s) {n : Int} (hn : n <= 1000000) : Tot (Fq19 s n) fun r => OKs r.2 := by
  unfold Fq19
  simp only [letO_eq]
  refine nextS hs hn fun _ _ h _ _ => nextS h (by omega) fun _ _ h _ _ => nextS h (by omega) fun _ _ h _ _ => nextS h (by omega) fun _ _ h _ _ => nextS h (by omega) fun _ _ h _ _ => ?_
  refine Tot.bind (P := fun y : List Int × Int × Int × Int × Int => OKs ⟨y.1, y.2.1, y.2.2.1⟩) (Tot.br (fun _ => nextS h (by omega) fun _ _ h _ _ => nextS h (by omega) fun _ _ h _ _ => Tot.ret h) fun _ => Tot.ret h) fun y hy => ?_
  refine nextS hy (by omega) fun _ _ h _ _ => ?_
  refine Tot.bind (P := fun y : List Int × Int × Int × Int × Int => OKs ⟨y.1, y.2.1, y.2.2.1⟩) (Tot.br (fun _ => nextS h (by omega) fun _ _ h _ _ => Tot.ret h) fun _ => Tot.ret h) fun y hy => ?_
  refine nextS hy (by omega) fun _ _ h _ _ => ?_
  exact Tot.bind (P := fun _ : Int => True) (Tot.br (fun _ => Tot.ret trivial) fun _ => Tot.ret trivial) fun _ _ => Tot.ret h
theorem name_ok {s : Tl01Source} (hs : OKs s) : Tot (Fq6 s) fun r => OKs r.2 /\ r.1.size <= 3 := by
  unfold Fq6
  simp only [letO_eq]
  refine nextS hs (by omega) fun v s' h h0 h1 => ?_
  refine Tot.bind (P := fun y : List Int × List Int × Int × Int => OKs ⟨y.2.1, y.2.2.1, y.2.2.2⟩ /\ y.1.length <= 3) (Tot.whileP (fun x : Int × List Int × Int × Int × List Int => OKs ⟨x.2.1, x.2.2.1, x.2.2.2.1⟩ /\ 0 <= x.1 /\ (x.2.2.2.2.length : Int) + x.1 <= 3) (fun x => x.1.toNat) ?_ fun x hx => ?_) fun y hy => Tot.ret ⟨hy.1, by
      rw [ofBytes_size, len_eq]; exact hy.2⟩
  · have : std.add .i64 1 v = 1 + v := add_id (by omega) (by omega)
    refine ⟨h, ?_, ?_⟩
    · simp only [this]; omega
    · simp only [this, List.length_nil]; omega
  · obtain ⟨k, c, at', sd, l⟩ := x
    obtain ⟨g1, g2, g3⟩ := hx
    simp only at g1 g2 g3
    simp only [Lq6_x10, letO_eq]
    refine Tot.br (fun hk => ?_) fun hk => Tot.ret ⟨g1, by simp only; omega⟩
    have hk' := lt_dec hk
    refine nextS g1 (by omega) fun w s2 g4 g5 g6 => ?_
    have hsz : (ByteArray.mk #[97, 98, 99, 100, 120, 121, 122, 48, 49, 57]).size = 10 := rfl
    refine Tot.req ⟨g5, by rw [s_slen, hsz]; omega⟩ (Tot.req (roomS (by rw [s_nadd, len_eq, len_eq, List.length_singleton]; omega) (by omega)) (Tot.ret ⟨⟨g4, ?_, ?_⟩, ?_⟩))
    · simp only [sub_id (x := k) (y := 1) (by omega) (by omega)]; omega
    · simp only [sub_id (x := k) (y := 1) (by omega) (by omega), List.length_append, List.length_singleton]; omega
    · simp only [sub_id (x := k) (y := 1) (by omega) (by omega)]; omega
theorem label_ok {s : Tl01Source} (hs : OKs s) : Tot (Fq37 s) fun r => OKs r.2 /\ r.1.fN.size <= 3 := by
  unfold Fq37
  exact nextS hs (by omega) fun _ _ h _ _ => nextS h (by omega) fun _ _ h _ _ => nextS h (by omega) fun _ _ h _ _ => Tot.bind (name_ok h) fun r hr => Tot.ret hr
/-- what a drawn cell is -/
structure CB (n : Nat) (c : TC) : Prop where
  name : c.fN.size <= 100
  shapes : c.fS.length <= n
  labels : c.fL.length <= n
  insts : c.fI.length <= n
  lnames : ∀ l ∈ c.fL, l.fN.size <= 100
theorem CB.le {n m : Nat} {c : TC} (h : CB n c) (hn : n <= m) : CB m c := ⟨h.name, Nat.le_trans h.shapes hn, Nat.le_trans h.labels hn, Nat.le_trans h.insts hn, h.lnames⟩
theorem sub1 {k : Int} (h : -1000000 <= k /\ k <= 1000000) : std.sub .i64 k 1 = k - 1 := sub_id (by omega) (by omega)
theorem add1 {k : Int} (h : -1000000 <= k /\ k <= 1000000) : std.add .i64 k 1 = k + 1 := add_id (by omega) (by omega)
theorem and_dec {a b : Bool} {x y : Option Bool} : True := trivial
theorem library_ok {s : Tl01Source} (hs : OKs s) : Tot (Fq4 s) fun r => OKs r.2 /\ 1 <= r.1.fC.length /\ r.1.fC.length <= 4 /\ ∀ c ∈ r.1.fC, CB 4 c := by
  unfold Fq4
  simp only [letO_eq]
  refine nextS hs (by omega) fun v s' h h0 h1 => ?_
  refine Tot.bind (P := fun y : List Int × Int × Int × List TC => OKs ⟨y.1, y.2.1, y.2.2.1⟩ /\ 1 <= y.2.2.2.length /\ y.2.2.2.length <= 4 /\ ∀ c ∈ y.2.2.2, CB 4 c)
    (Tot.whileP (fun x : Int × List Int × Int × Int × List TC => OKs ⟨x.2.1, x.2.2.1, x.2.2.2.1⟩ /\ (x.2.2.2.2.length : Int) = x.1 /\ x.1 <= 1 + v /\ ∀ c ∈ x.2.2.2.2, CB 4 c) (fun x => (5 - x.1).toNat) ?_ fun x hx => ?_) fun y hy => Tot.ret hy
  · exact ⟨h, rfl, by show (0 : Int) <= 1 + v; omega, fun c hc => by cases hc⟩
  · obtain ⟨i, c, at', sd, l⟩ := x
    obtain ⟨g1, g2, g3, g4⟩ := hx
    simp only at g1 g2 g3 g4
    have e1 : std.add .i64 1 v = 1 + v := add_id (by omega) (by omega)
    simp only [Lq4_x8, letO_eq, e1]
    refine Tot.br (fun hk => ?_) fun hk => ?_
    · have hk' := lt_dec hk
      refine Tot.bind (name_ok g1) fun r hr => ?_
      refine Tot.req (roomS (by rw [s_nadd, s_slen, s_slen, ofBytes_size, len_eq, List.length_singleton]; omega) (by omega)) ?_
      refine nextS hr.1 (by omega) fun v2 s2 k1 k2 k3 => ?_
      -- shapes
      refine Tot.bind (P := fun y : List Int × Int × Int × List TS => OKs ⟨y.1, y.2.1, y.2.2.1⟩ /\ y.2.2.2.length <= 4) (Tot.whileP (fun x : Int × List Int × Int × Int × List TS => OKs ⟨x.2.1, x.2.2.1, x.2.2.2.1⟩ /\ 0 <= x.1 /\ (x.2.2.2.2.length : Int) + x.1 <= 4) (fun x => x.1.toNat) ⟨k1, k2, by simp only [List.length_nil]; omega⟩ fun x hx => ?_) fun y1 p1 => ?_
      · obtain ⟨k, c, at', sd, l⟩ := x
        obtain ⟨q1, q2, q3⟩ := hx
        simp only at q1 q2 q3
        simp only [Lq4_x32, letO_eq]
        refine Tot.br (fun hk => ?_) fun hk => Tot.ret ⟨q1, by simp only; omega⟩
        have hk' := lt_dec hk
        refine Tot.bind (shape_ok q1) fun r hr => Tot.req (roomS (by rw [s_nadd, len_eq, len_eq, List.length_singleton]; omega) (by omega)) (Tot.ret ?_)
        rw [sub1 (by omega)]
        exact ⟨⟨hr, by simp only; omega, by simp only [List.length_append, List.length_singleton]; omega⟩, by simp only; omega⟩
      refine nextS p1.1 (by omega) fun v3 s3 k4 k5 k6 => ?_
      -- labels
      refine Tot.bind (P := fun y : List Int × Int × Int × List TB => OKs ⟨y.1, y.2.1, y.2.2.1⟩ /\ y.2.2.2.length <= 4 /\ ∀ l ∈ y.2.2.2, l.fN.size <= 100) (Tot.whileP (fun x : Int × List Int × Int × Int × List TB => OKs ⟨x.2.1, x.2.2.1, x.2.2.2.1⟩ /\ 0 <= x.1 /\ (x.2.2.2.2.length : Int) + x.1 <= 4 /\ ∀ l ∈ x.2.2.2.2, l.fN.size <= 100) (fun x => x.1.toNat) ⟨k4, k5, by simp only [List.length_nil]; omega, fun l hl => by cases hl⟩ fun x hx => ?_) fun y2 p2 => ?_
      · obtain ⟨k, c, at', sd, l⟩ := x
        obtain ⟨q1, q2, q3, q4⟩ := hx
        simp only at q1 q2 q3 q4
        simp only [Lq4_x63, letO_eq]
        refine Tot.br (fun hk => ?_) fun hk => Tot.ret ⟨q1, by simp only; omega, q4⟩
        have hk' := lt_dec hk
        refine Tot.bind (label_ok q1) fun r hr => Tot.req (roomS (by rw [s_nadd, len_eq, len_eq, List.length_singleton]; omega) (by omega)) (Tot.ret ?_)
        rw [sub1 (by omega)]
        refine ⟨⟨hr.1, by simp only; omega, by simp only [List.length_append, List.length_singleton]; omega, fun l hl => ?_⟩, by simp only; omega⟩
        rcases List.mem_append.1 hl with hl | hl
        · exact q4 l hl
        · rw [List.mem_singleton] at hl; rw [hl]; have := hr.2; omega
      refine nextS p2.1 (by omega) fun v4 s4 k7 k8 k9 => ?_
      -- instances
      refine Tot.bind (P := fun y : List Int × Int × Int × List TI => OKs ⟨y.1, y.2.1, y.2.2.1⟩ /\ y.2.2.2.length <= 4) (Tot.whileP (fun x : Int × List Int × Int × Int × List TI => OKs ⟨x.2.1, x.2.2.1, x.2.2.2.1⟩ /\ 0 <= x.1 /\ (x.2.2.2.2.length : Int) + x.1 <= 4) (fun x => x.1.toNat) ⟨k7, k8, by simp only [List.length_nil]; omega⟩ fun x hx => ?_) fun y3 p3 => ?_
      · obtain ⟨k, c, at', sd, l⟩ := x
        obtain ⟨q1, q2, q3⟩ := hx
        simp only at q1 q2 q3
        simp only [Lq4_x94, letO_eq]
        refine Tot.bind (P := fun b => b = true -> 0 < k) (Tot.br (fun hh => Tot.ret fun _ => lt_dec hh) fun _ => Tot.ret fun hh => by cases hh) fun b hb => Tot.br (fun hk => ?_) fun hk => Tot.ret ⟨q1, by simp only; omega⟩
        have hk' := hb hk
        refine Tot.bind (inst_ok q1 (by omega)) fun r hr => Tot.req (roomS (by rw [s_nadd, len_eq, len_eq, List.length_singleton]; omega) (by omega)) (Tot.ret ?_)
        rw [sub1 (by omega)]
        exact ⟨⟨hr, by simp only; omega, by simp only [List.length_append, List.length_singleton]; omega⟩, by simp only; omega⟩
      have hcb : CB 4 (TC.mk (std.scat (std.ofBytes (len [std.conv .u8 (std.add .i64 97 i)]) (fun j => gd [std.conv .u8 (std.add .i64 97 i)] (0 + j))) r.1) y1.2.2.2 y2.2.2.2 y3.2.2.2) := by
        refine ⟨?_, p1.2, p2.2.1, p3.2, p2.2.2⟩
        show (_ ++ _ : ByteArray).size <= 100
        rw [ByteArray.size_append, ofBytes_size, len_eq, List.length_singleton]
        have := hr.2; omega
      refine Tot.bind (P := fun y => y = l ++ [TC.mk (std.scat (std.ofBytes (len [std.conv .u8 (std.add .i64 97 i)]) (fun j => gd [std.conv .u8 (std.add .i64 97 i)] (0 + j))) r.1) y1.2.2.2 y2.2.2.2 y3.2.2.2]) (Tot.req (roomS (by rw [s_nadd, len_eq, len_eq, List.length_singleton]; omega) (by omega)) (Tot.ret rfl)) fun y hy => Tot.ret ?_
      subst hy
      rw [add1 (by omega)]
      refine ⟨⟨p3.1, ?_, by simp only; omega, fun c hc => ?_⟩, by simp only; omega⟩
      · simp only [List.length_append, List.length_singleton]; omega
      · rcases List.mem_append.1 hc with hc | hc
        · exact g4 c hc
        · rw [List.mem_singleton] at hc; rw [hc]; exact hcb
    · have := lt_decf hk
      exact Tot.ret ⟨g1, by simp only; omega, by simp only; omega, g4⟩
/- draws of libraries that are mostly valid -/
theorem set_CB {n : Nat} {l : List TC} {i : Nat} {x : TC} (h : ∀ c ∈ l, CB n c) (hx : CB n x) : ∀ c ∈ l.set i x, CB n c := by
  intro c hc
  rcases List.mem_or_eq_of_mem_set hc with h1 | h1
  · exact h c h1
  · rw [h1]; exact hx
def PB (m : Nat) (y : List Int × Int × Int × List TC) : Prop := OKs ⟨y.1, y.2.1, y.2.2.1⟩ /\ y.2.2.2.length = m /\ ∀ c ∈ y.2.2.2, CB 40 c
set_option maxHeartbeats 1000000 in
theorem any_ok {s : Tl01Source} (hs : OKs s) : Tot (Fq30 s) fun r => OKs r.2 /\ r.1.fC.length <= 4 /\ (∀ c ∈ r.1.fC, CB 40 c) /\ 1 <= r.1.fC.length := by
  unfold Fq30
  simp only [letO_eq]
  refine Tot.bind (library_ok hs) fun y1 hy1 => ?_
  obtain ⟨⟨L⟩, s1⟩ := y1
  obtain ⟨k1, k2, k3, k4⟩ := hy1
  simp only at k1 k2 k3 k4
  refine nextS k1 (by rw [s_ofN, len_eq]; simp only; omega) fun v s2 g g0 g1 => ?_
  have hv : v < (L.length : Int) := by rw [s_ofN, len_eq] at g1; simp only at g1; omega
  obtain ⟨i, rfl⟩ := Int.eq_ofNat_of_zero_le g0
  have hi : i < L.length := by omega
  refine Tot.req (inRl hi) ?_
  simp only [s_toNn, s_nadd, Nat.zero_add]
  have c0 : CB 4 (gd L i) := k4 _ (gd_mem hi)
  have all40 : ∀ c ∈ L, CB 40 c := fun c hc => (k4 c hc).le (by omega)
  refine nextS g (by omega) fun w s3 h h0 h1 => ?_
  refine Tot.bind (P := fun y : List TC × List Int × Int × Int => OKs ⟨y.2.1, y.2.2.1, y.2.2.2⟩ /\ y.1.length = L.length /\ ∀ c ∈ y.1, CB 40 c) (Tot.br (fun _ => ?_) fun _ => ?_) fun y hy => Tot.req (by rw [len_eq, len_eq, hy.2.1]) (Tot.ret ⟨hy.1, by show y.1.length <= 4; omega, hy.2.2, by show 1 <= y.1.length; omega⟩)
  · refine Tot.bind (P := fun y : List TC => y.length = L.length /\ ∀ c ∈ y, CB 40 c) (Tot.req (inRl (i := 0) (by omega)) (Tot.ret ⟨by simp, set_CB all40 ?_⟩)) fun y hy => Tot.ret ⟨h, hy⟩
    have := (k4 _ (gd_mem (show 0 < L.length by omega))).name
    exact CB.le ⟨by show (gd L (std.toN 0)).fN.size <= 100; rw [show std.toN 0 = 0 from rfl]; exact this, c0.shapes, c0.labels, c0.insts, c0.lnames⟩ (by omega)
  · refine Tot.bind (P := PB L.length) (Tot.br (fun _ => ?_) fun _ => ?_) fun y hy => Tot.ret hy
    · refine Tot.bind (P := PB L.length) (nextS h (by omega) fun q s4 e e0 e1 => ?_) fun y hy => Tot.ret hy
      obtain ⟨q, rfl⟩ := Int.eq_ofNat_of_zero_le e0
      have hq : q < ([(ByteArray.mk #[]), (ByteArray.mk #[65]), (ByteArray.mk #[97, 98, 99, 100, 101, 102, 103, 104, 105]), (ByteArray.mk #[97, 32, 98])] : List ByteArray).length := by simp only [List.length_cons, List.length_nil]; omega
      refine Tot.req (inRl hq) (Tot.ret ⟨e, by simp, set_CB all40 ?_⟩)
      rw [s_toNn]
      have hm := gd_mem hq
      refine CB.le ⟨?_, c0.shapes, c0.labels, c0.insts, c0.lnames⟩ (by omega)
      have hz : ∀ x ∈ ([(ByteArray.mk #[]), (ByteArray.mk #[65]), (ByteArray.mk #[97, 98, 99, 100, 101, 102, 103, 104, 105]), (ByteArray.mk #[97, 32, 98])] : List ByteArray), x.size <= 100 := by decide
      exact hz _ hm
    · refine Tot.bind (P := PB L.length) (Tot.br (fun _ => ?_) fun _ => ?_) fun y hy => Tot.ret hy
      · refine Tot.bind (P := PB L.length) (nextS h (by omega) fun _ _ h _ _ => nextS h (by omega) fun _ _ h _ _ => nextS h (by omega) fun _ _ h _ _ => nextS h (by omega) fun _ _ h _ _ => nextS h (by omega) fun _ _ h _ _ => ?_) fun y hy => Tot.ret hy
        have := c0.shapes
        refine Tot.req (roomS (by simp only [s_nadd, len_eq, List.length_singleton]; omega) (by omega)) (Tot.ret ⟨h, by simp, set_CB all40 ⟨c0.name, by simp only [List.length_append, List.length_singleton]; omega, by have := c0.labels; simp only; omega, by have := c0.insts; simp only; omega, c0.lnames⟩⟩)
      · refine Tot.bind (P := PB L.length) (Tot.br (fun _ => ?_) fun _ => ?_) fun y hy => Tot.ret hy
        · have e1 : std.add .i64 (i : Int) 1 = (i : Int) + 1 := add1 (by omega)
          refine Tot.bind (inst_ok h (by rw [e1]; omega)) fun r hr => nextS hr (by omega) fun _ _ h _ _ => nextS h (by omega) fun _ _ h _ _ => ?_
          have := c0.insts
          refine Tot.bind (P := fun y : List TC => y.length = L.length /\ ∀ c ∈ y, CB 40 c) (Tot.req (roomS (by simp only [s_nadd, len_eq, List.length_singleton]; omega) (by omega)) (Tot.ret ⟨by simp, set_CB all40 ⟨c0.name, by have := c0.shapes; simp only; omega, by have := c0.labels; simp only; omega, by simp only [List.length_append, List.length_singleton]; omega, c0.lnames⟩⟩)) fun y hy => Tot.ret ⟨h, hy⟩
        · refine Tot.bind (P := PB L.length) (Tot.br (fun _ => ?_) fun _ => ?_) fun y hy => Tot.ret hy
          · refine Tot.bind (P := PB L.length) (nextS h (by omega) fun _ _ h _ _ => nextS h (by omega) fun _ _ h _ _ => nextS h (by omega) fun _ _ h _ _ => Tot.bind (name_ok h) fun r hr => ?_) fun y hy => Tot.ret hy
            have := c0.labels
            refine Tot.req (roomS (by simp only [s_nadd, len_eq, List.length_singleton]; omega) (by omega)) (Tot.ret ⟨hr.1, by simp, set_CB all40 ⟨c0.name, by have := c0.shapes; simp only; omega, by simp only [List.length_append, List.length_singleton]; omega, by have := c0.insts; simp only; omega, fun l hl => ?_⟩⟩)
            rcases List.mem_append.1 hl with hl | hl
            · exact c0.lnames l hl
            · rw [List.mem_singleton] at hl; rw [hl]; have := hr.2; simp only; omega
          · refine Tot.bind (P := PB L.length) (Tot.br (fun _ => ?_) fun _ => Tot.ret ⟨h, rfl, all40⟩) fun y hy => Tot.ret hy
            refine Tot.bind (P := PB L.length) (Tot.whileP (fun x : Int × List Int × Int × Int × List TC => OKs ⟨x.2.1, x.2.2.1, x.2.2.2.1⟩ /\ 0 <= x.1 /\ x.1 <= 25 /\ x.2.2.2.2.length = L.length /\ ∀ c ∈ x.2.2.2.2, CB (4 + x.1.toNat) c) (fun x => (25 - x.1).toNat) ⟨h, Int.le_refl _, by simp, rfl, k4⟩ fun x hx => ?_) fun y hy => Tot.ret hy
            obtain ⟨j, c, at', sd, l⟩ := x
            obtain ⟨q1, q2, q3, q4, q5⟩ := hx
            simp only at q1 q2 q3 q4 q5
            simp only [Lq30_x167, letO_eq, s_toNn, s_nadd, Nat.zero_add]
            refine Tot.br (fun hk => ?_) fun hk => Tot.ret ⟨q1, q4, fun c hc => (q5 c hc).le (by omega)⟩
            have hk' := lt_dec hk
            have hil : i < l.length := by omega
            have ci := q5 _ (gd_mem hil)
            have hsh := ci.shapes
            refine Tot.bind (P := fun y : List Int × Int × Int × List TC => OKs ⟨y.1, y.2.1, y.2.2.1⟩ /\ y.2.2.2.length = L.length /\ ∀ c ∈ y.2.2.2, CB (4 + (j.toNat + 1)) c) (Tot.bind (shape_ok q1) fun r hr => Tot.req (roomS (by simp only [s_nadd, len_eq, List.length_singleton]; omega) (by omega)) (Tot.req (by rw [len_eq, len_eq, q4]) (Tot.ret ⟨hr, by simp [q4], set_CB (n := 4 + (j.toNat + 1)) (fun c hc => (q5 c hc).le (by omega)) ⟨ci.name, by simp only [List.length_append, List.length_singleton]; omega, by have := ci.labels; simp only; omega, by have := ci.insts; simp only; omega, ci.lnames⟩⟩))) fun y hy => Tot.ret ?_
            rw [add1 (by omega)]
            exact ⟨⟨hy.1, by simp only; omega, by simp only; omega, hy.2.1, fun c hc => (hy.2.2 c hc).le (by simp only; omega)⟩, by simp only; omega⟩
def OKl (a : TL) : Prop := a.fC.length <= 4 /\ (∀ c ∈ a.fC, CB 40 c) /\ 1 <= a.fC.length
theorem OKl.small {a : TL} (h : OKl a) : SmallL a := ⟨by have := h.1; omega, fun c hc => by
  have g := h.2.1 c hc
  exact ⟨by have := g.name; omega, by have := g.shapes; omega, by have := g.labels; omega, by have := g.insts; omega, fun l hl => by have := g.lnames l hl; omega⟩⟩
/- what is drawn for an edit -/
def GoodD (a : TL) : Prop := 1 <= a.fC.length /\ a.fC.length <= 4 /\ ∀ c ∈ a.fC, CB 40 c
theorem GoodD.small {a : TL} (h : GoodD a) : SmallL a := OKl.small ⟨h.2.1, h.2.2, h.1⟩
theorem addL {n : Nat} (h : n <= 1000) : std.add .i64 (std.ofN n) 1 <= 1000000 := by
  rw [s_ofN, add_id (by omega) (by omega)]; omega
theorem imaxB {x : Int} (h : x <= 1000) : std.imax x 1 <= 1000000 := by
  unfold std
  simp only
  first | omega | (split <;> omega)
theorem empS : (ByteArray.mk #[]).size <= 1000 := by decide
theorem oneS : (ByteArray.mk #[120]).size <= 1000 := by decide
set_option maxHeartbeats 4000000 in
theorem drawEdit_ok {s : Tl01Source} (hs : OKs s) (a : TL) (ha : GoodD a) : Tot (Fq48 s a) fun r => OKs r.2.1 /\ r.2.2 = a.fC /\ SmallE r.1 := by
  obtain ⟨a1, a2, a3⟩ := ha
  unfold Fq48
  refine nextS hs (by omega) fun v1 _ h _ _ => nextS h (by rw [s_ofN, len_eq]; omega) fun v3 s3 h v0 v3b => ?_
  rw [s_ofN, len_eq] at v3b
  obtain ⟨j, rfl⟩ := Int.eq_ofNat_of_zero_le v0
  have hj : j < a.fC.length := by omega
  have hcb := a3 _ (gd_mem hj)
  have e1 := hcb.shapes
  have e2 := hcb.labels
  have e3 := hcb.insts
  refine Tot.req (inRl hj) ?_
  simp only [s_nadd, s_toNn, Nat.zero_add]
  refine Tot.bind (P := fun y => OKs ⟨y.1, y.2.1, y.2.2.1⟩ /\ y.2.2.2.2.2.2.2.2.2.1 = a.fC /\ y.2.2.2.2.2.2.2.2.2.2.2.1.size <= 1000 /\ y.2.2.2.2.2.2.2.2.2.2.2.2.2.2.2.1.size <= 1000) (Tot.br (fun _ => ?_) fun _ => ?_) fun y hy => ?_
  · exact nextS h (addL (by rw [len_eq]; omega)) fun _ _ h _ _ => Tot.bind (shape_ok h) fun r hr => Tot.ret ⟨hr, rfl, empS, empS⟩
  · refine Tot.bind (P := fun y => OKs ⟨y.1, y.2.1, y.2.2.1⟩ /\ y.2.2.2.2.1 = a.fC /\ y.2.2.2.2.2.2.1.size <= 1000 /\ y.2.2.2.2.2.2.2.2.2.2.1.size <= 1000) (Tot.br (fun _ => ?_) fun _ => ?_) fun y hy => Tot.ret ⟨hy.1, hy.2.1, hy.2.2.1, hy.2.2.2⟩
    · exact nextS h (addL (by rw [len_eq]; omega)) fun _ _ h _ _ => Tot.ret ⟨h, rfl, empS, empS⟩
    · refine Tot.bind (P := fun y => OKs ⟨y.1, y.2.1, y.2.2.1⟩ /\ y.2.2.2.2.2.2.2.2.1 = a.fC /\ y.2.2.2.2.2.2.2.2.2.2.1.size <= 1000 /\ y.2.2.2.2.2.2.2.1.size <= 1000) (Tot.br (fun _ => ?_) fun _ => ?_) fun y hy => Tot.ret ⟨hy.1, hy.2.1, hy.2.2.1, hy.2.2.2⟩
      · exact nextS h (addL (by rw [len_eq]; omega)) fun _ _ h _ _ => Tot.bind (label_ok h) fun r hr => Tot.ret ⟨hr.1, rfl, empS, by have := hr.2; show r.1.fN.size <= 1000; omega⟩
      · refine Tot.bind (P := fun y => OKs ⟨y.1, y.2.1, y.2.2.1⟩ /\ y.2.2.2.2.1 = a.fC /\ y.2.2.2.2.2.2.1.size <= 1000) (Tot.br (fun _ => ?_) fun _ => ?_) fun y hy => Tot.ret ⟨hy.1, hy.2.1, hy.2.2, empS⟩
        · exact nextS h (addL (by rw [len_eq]; omega)) fun _ _ h _ _ => Tot.ret ⟨h, rfl, empS⟩
        · refine Tot.bind (P := fun y => OKs ⟨y.1, y.2.1, y.2.2.1⟩ /\ y.2.2.2.2.2.2.2.2.2.2.2.2.1 = a.fC /\ y.2.2.2.2.2.2.2.2.2.2.2.2.2.2.size <= 1000) (Tot.br (fun _ => ?_) fun _ => ?_) fun y hy => Tot.ret ⟨hy.1, hy.2.1, hy.2.2⟩
          · exact nextS h (addL (by rw [len_eq]; omega)) fun _ _ h _ _ => Tot.bind (inst_ok h (imaxB (by omega))) fun r hr => Tot.ret ⟨hr, rfl, empS⟩
          · refine Tot.bind (P := fun y => OKs ⟨y.1, y.2.1, y.2.2.1⟩ /\ y.2.2.2.2.1 = a.fC /\ y.2.2.2.2.2.2.size <= 1000) (Tot.br (fun _ => ?_) fun _ => ?_) fun y hy => Tot.ret ⟨hy.1, hy.2.1, hy.2.2⟩
            · exact nextS h (addL (by rw [len_eq]; omega)) fun _ _ h _ _ => Tot.ret ⟨h, rfl, empS⟩
            · refine Tot.bind (P := fun y => OKs ⟨y.1, y.2.1, y.2.2.1⟩ /\ y.2.2.2.2.1 = a.fC /\ y.2.2.2.1.size <= 1000) (Tot.br (fun _ => ?_) fun _ => ?_) fun y hy => Tot.ret ⟨hy.1, hy.2.1, hy.2.2⟩
              · exact Tot.bind (name_ok h) fun r hr => Tot.ret ⟨hr.1, rfl, by have := hr.2; show r.1.size <= 1000; omega⟩
              · refine Tot.bind (P := fun y => OKs ⟨y.1, y.2.1, y.2.2.1⟩ /\ y.2.2.2.2.2 = a.fC /\ y.2.2.2.2.1.size <= 1000) (Tot.br (fun _ => ?_) fun _ => ?_) fun y hy => Tot.ret ⟨hy.1, hy.2.1, hy.2.2⟩
                · exact nextS h (addL (by rw [len_eq]; omega)) fun _ _ h _ _ => Tot.bind (name_ok h) fun r hr => Tot.ret ⟨hr.1, rfl, by have := hr.2; show r.1.size <= 1000; omega⟩
                · exact Tot.ret ⟨h, rfl, empS⟩
  · simp only [letO_eq]
    obtain ⟨y1, y2, y3, y4⟩ := hy
    refine nextS y1 (by omega) fun w sw hw _ _ => ?_
    refine Tot.bind (P := fun z => z.2.2.2.1.size <= 1000 /\ OKs ⟨z.2.2.2.2.1, z.2.2.2.2.2.1, z.2.2.2.2.2.2⟩) (Tot.br (fun _ => Tot.ret ⟨y3, hw⟩) fun _ => ?_) fun z hz => ?_
    · refine Tot.bind (P := fun z => z.2.2.1.size <= 1000 /\ OKs ⟨z.2.2.2.1, z.2.2.2.2.1, z.2.2.2.2.2⟩) (Tot.br (fun _ => Tot.ret ⟨y3, hw⟩) fun _ => ?_) fun z hz => Tot.ret ⟨hz.1, hz.2⟩
      refine Tot.bind (P := fun z => z.1.size <= 1000 /\ OKs ⟨z.2.2.1, z.2.2.2.1, z.2.2.2.2⟩) (Tot.br (fun _ => Tot.ret ⟨oneS, hw⟩) fun _ => ?_) fun z hz => Tot.ret ⟨hz.1, hz.2⟩
      refine Tot.bind (P := fun z => OKs ⟨z.2.1, z.2.2.1, z.2.2.2⟩) (Tot.br (fun _ => nextS hw (by omega) fun _ _ h _ _ => Tot.ret h) fun _ => Tot.ret hw) fun z hz => Tot.ret ⟨y3, hz⟩
    · refine Tot.req (by rw [y2]) (Tot.ret ⟨hz.2, y2, ?_⟩)
      exact ⟨by have := hz.1; show z.2.2.2.1.size <= 1048576; omega, by show y.2.2.2.2.2.2.2.2.2.2.2.2.2.2.2.1.size <= 1048576; omega⟩
/- libraries compared by the program; FnStream -/
theorem eqShapes (l : List TS) (h : l.length <= 10000000) : Fq26 l l = some true := by
  unfold Fq26
  rw [notEq (eq_true' rfl), br_f, while_eq (r := .inr ()) l.length (fun i hi => by
    simp only [Lq26_x2, letO_eq, s_toNn, eq_true' rfl, s_band, Bool.and_self, s_not, Bool.not_true]
    rw [ltl_t hi, br_t, req_of (inRl hi), req_of (inRl hi), br_f, inc_nat (by omega)]) (by
    simp only [Lq26_x2, letO_eq]
    rw [ltl_f, br_f]), obs]
theorem eqLabels (l : List TB) (h : l.length <= 10000000) : Fq24 l l = some true := by
  unfold Fq24
  rw [notEq (eq_true' rfl), br_f, while_eq (r := .inr ()) l.length (fun i hi => by
    simp only [Lq24_x2, letO_eq, s_toNn, eq_true' rfl, seq_self, s_band, Bool.and_self, s_not, Bool.not_true]
    rw [ltl_t hi, br_t, req_of (inRl hi), req_of (inRl hi), br_f, inc_nat (by omega)]) (by
    simp only [Lq24_x2, letO_eq]
    rw [ltl_f, br_f]), obs]
theorem eqInsts (l : List TI) (h : l.length <= 10000000) : Fq25 l l = some true := by
  unfold Fq25
  rw [notEq (eq_true' rfl), br_f, while_eq (r := .inr ()) l.length (fun i hi => by
    simp only [Lq25_x2, letO_eq, s_toNn, eq_true' rfl, s_band, Bool.and_self, s_not, Bool.not_true]
    rw [ltl_t hi, br_t, req_of (inRl hi), req_of (inRl hi), br_f, inc_nat (by omega)]) (by
    simp only [Lq25_x2, letO_eq]
    rw [ltl_f, br_f]), obs]
theorem sameCell_ok (c : TC) (h : SmallC c) : Fq74 c c = some true := by
  unfold Fq74
  rw [seq_self, br_t, eqShapes _ (by have := h.shapes; omega), obs, br_t, eqLabels _ (by have := h.labels; omega), obs, br_t, eqInsts _ (by have := h.insts; omega)]
  rfl
theorem impl_SameLibrary_ok (a : TL) (h : SmallL a) (hv : okLib a = true) : Fq65 a a = some true := by
  have h8 := (okLib_len hv).2
  unfold Fq65
  rw [show TL.mk a.fC = a from rfl, impl_IsValidLibrary_ok _ h, obs, hv, br_t, obs, br_t]
  unfold Fq29
  rw [notEq (eq_true' rfl), br_f, while_eq (r := .inr ()) a.fC.length (fun i hi => by
    simp only [Lq29_x2, letO_eq, s_toNn]
    rw [ltl_t hi, br_t, req_of (inRl hi), req_of (inRl hi), sameCell_ok _ (h.cell _ (gd_mem hi)), obs, Bool.not_true, br_f, inc_nat (by omega)]) (by
    simp only [Lq29_x2, letO_eq]
    rw [ltl_f, br_f]), obs]
  rfl
theorem wf_byteS {x : Int} (h : wfI .u8 x) : 0 <= x /\ x <= 255 := by
  have h' : (Lit.int .u8 x).wf = true := h
  have e1 : IntKind.min .u8 = 0 := rfl
  have e2 : IntKind.max .u8 = 255 := rfl
  simp [Lit.wf] at h'
  omega
/- the law Inverse -/
theorem drawApply_ok {c : List Int} (hc : OKc c) : Tot (Fq81 c) fun r => SmallL r.1 /\ SmallE r.2 := by
  unfold Fq81
  refine Tot.bind (from_ok hc) fun s hs => Tot.bind (library_ok hs) fun r hr => nextS hr.1 (by omega) fun v s2 h _ _ => ?_
  refine Tot.bind (P := fun y => OKs ⟨y.1, y.2.1, y.2.2.1⟩ /\ GoodD ⟨y.2.2.2⟩) (Tot.br (fun _ => Tot.bind (any_ok h) fun q hq => Tot.ret ⟨hq.1, hq.2.2.2, hq.2.1, hq.2.2.1⟩) fun _ => Tot.ret ⟨h, hr.2.1, hr.2.2.1, fun c hc => (hr.2.2.2 c hc).le (by omega)⟩) fun y hy => ?_
  simp only [letO_eq]
  obtain ⟨y1, y2⟩ := hy
  refine Tot.bind (drawEdit_ok y1 ⟨y.2.2.2⟩ y2) fun e he => ?_
  obtain ⟨e1, e2, e3⟩ := he
  have e2' : e.2.2 = y.2.2.2 := e2
  refine Tot.req (by rw [e2']) ?_
  rw [e2']
  refine Tot.bind (P := fun z => OKs ⟨z.2.1, z.2.2.1, z.2.2.2⟩) (nextS e1 (by omega) fun w sw hw _ _ => Tot.br (fun _ => ?_) fun _ => Tot.ret hw) fun z hz => ?_
  · rw [spec_l13Code_ok _ _ y2.small e3, obs]
    exact Tot.req rfl (Tot.ret hw)
  · refine Tot.bind (P := fun t => t.2.2.2.1.size <= 1048576 /\ t.2.2.2.2.2.2.2.2.2.2.2.2.1.size <= 1048576 /\ t.2.2.2.2.2.2.2.2.2.2.2.2.2.2.2.2.2.2.2.2.2 = y.2.2.2) (Tot.br (fun _ => ?_) fun _ => Tot.ret ⟨e3.name, e3.lname, rfl⟩) fun t ht => ?_
    · refine Tot.bind (drawEdit_ok hz ⟨y.2.2.2⟩ y2) fun e he => ?_
      obtain ⟨f1, f2, f3⟩ := he
      have f2' : e.2.2 = y.2.2.2 := f2
      exact Tot.req rfl (Tot.req (by rw [f2']) (Tot.ret ⟨f3.name, f3.lname, f2'⟩))
    · refine Tot.req (by rw [ht.2.2]) (Tot.ret ⟨?_, ⟨ht.1, ht.2.1⟩⟩)
      rw [ht.2.2]
      exact y2.small
theorem impl_InverseEdit_ok (a : TL) (e : TE) (h : SmallL a) (g : SmallE e) : Fq75 a e = some (if eCode a e = 0 then (invE a e, 0) else (⟨0, 0, 0, ByteArray.mk #[], zSh, zLa, zIn⟩, eCode a e)) := by
  unfold Fq75
  rw [impl_editCode_ok a e h g, obs]
  by_cases hc : eCode a e = 0
  · rw [if_pos hc, hc, notEq (eq_true' rfl), br_f, impl_inverse_ok a e hc]
    rfl
  · rw [if_neg hc, eq_false' hc, s_not, Bool.not_false, br_t]
    rfl
theorem small_invE (a : TL) (e : TE) (h : SmallL a) (hc : eCode a e = 0) : SmallE (invE a e) := by
  obtain ⟨hv, he, hcell⟩ := eCode_zero hc
  have hz : (ByteArray.mk #[]).size <= 1048576 := by decide
  have hcz : ∀ m : Nat, (gd a.fC m).fN.size <= 1048576 := by
    intro m
    by_cases hm : m < a.fC.length
    · exact (h.cell _ (gd_mem hm)).name
    · unfold gd
      rw [List.getD_eq_getElem?_getD, List.getElem?_eq_none (by omega)]
      exact Nat.zero_le _
  unfold invE
  split
  · exact ⟨hz, hz⟩
  split
  · exact ⟨hz, hz⟩
  split
  · exact ⟨hz, hz⟩
  split
  · rename_i k1 k2 k3 k4
    obtain ⟨m, hm, hlt⟩ := hcell (by omega)
    obtain ⟨q, hq, hql⟩ := (eCode_index hc hm hlt).2.1 k4
    have e1 : e.fc.toNat = m := by omega
    have e2 : e.fx.toNat = q := by omega
    rw [e1, e2]
    exact ⟨hz, (h.cell _ (gd_mem hlt)).lnames _ (gd_mem hql)⟩
  split
  · exact ⟨hz, hz⟩
  split
  · exact ⟨hz, hz⟩
  split
  · exact ⟨hcz _, hz⟩
  split
  · exact ⟨hz, hz⟩
  · exact ⟨hcz _, hz⟩
theorem wf_byteI {x : Int} (h : wfI .u8 x) : 0 <= x /\ x <= 255 := wf_byteS h
theorem lawW_Inverse (c : List Int) (w : (wfL (wfI .u8)) c) : Fq92 c = some true := by
  unfold Fq92 Fq87
  rw [obs, len_eq, s_ofN, s_lt, br_dec]
  by_cases h0 : (4096 : Int) < (c.length : Int)
  · rw [if_pos h0]
  · rw [if_neg h0]
    have hc : OKc c := ⟨by omega, fun b hb => wf_byteI (w.2 b hb)⟩
    obtain ⟨⟨a, e⟩, hd, ha, he⟩ := drawApply_ok hc
    simp only at ha he
    rw [hd, obs]
    simp only
    rw [impl_ApplyEdit_ok a e ha he, impl_InverseEdit_ok a e ha he, obs, obs]
    unfold apR
    by_cases hcd : eCode a e = 0
    · obtain ⟨g1, g2, g3⟩ := inverse_law a e hcd
      have hsm := small_appE a e ha he hcd
      have hv : okLib a = true := (eCode_zero hcd).1
      simp only [if_pos hcd]
      rw [notEq (eq_true' rfl), br_f, br_f, impl_ApplyEdit_ok _ _ hsm (small_invE a e ha hcd), obs]
      unfold apR
      simp only [if_pos g2, g3]
      rw [eq_true' rfl, br_t, impl_SameLibrary_ok a ha hv, obs, br_t, impl_IsValidLibrary_ok _ hsm, g1]
      rfl
    · simp only [if_neg hcd]
      rw [notEq (eq_true' rfl), br_f, eq_false' hcd, s_not, Bool.not_false, br_t]
      rfl
end Go.Proofs.YtohgghncmkiicaaGreat.AM
