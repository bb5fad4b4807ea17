/-
  What the functions that the law reaches compute, and that they do. No condition.
-/
import Derived.Test.YtnmfighfidaglaaAmV
import Derived.Test.YtnmfighfidaglaaAmP
import Derived.Test.YtnmfighfidaglaaAmE
namespace Go.Proofs.Ytnmfighfidaglaa.AM
open Go Go.Proofs Go.RowKit
set_option linter.unusedVariables false
set_option linter.unusedSimpArgs false
set_option maxRecDepth 100000

/-- behind the line, or a space -/
noncomputable def bl (a : ByteArray) (i : Nat) : Bool := decide (a.size ≤ i) || std.eq (std.sat a i) 32
/-- the words and columns from i on, m places; fr: where the open word begins -/
noncomputable def spl (a : ByteArray) : Nat → Nat → Option Nat → List (ByteArray × Int)
  | 0, _, _ => []
  | m + 1, i, fr => if bl a i then (match fr with | some f => (std.ssub a f i, (f : Int) + 1) :: spl a m (i + 1) none | none => spl a m (i + 1) none) else spl a m (i + 1) (some (fr.getD i))
noncomputable def frI : Option Nat → Int
  | none => -1
  | some f => f
theorem frI_n : frI none = -1 := rfl
theorem frI_s (f : Nat) : frI (some f) = f := rfl
theorem bl_end (a : ByteArray) : bl a a.size = true := by simp [bl]
theorem spec_split (a : ByteArray) (hn : a.size ≤ 1048576) : F_spec_SplitColumns a = some ((spl a (a.size + 1) 0 none).map Prod.fst, (spl a (a.size + 1) 0 none).map Prod.snd) := by
  unfold F_spec_SplitColumns
  obtain ⟨R, hR⟩ : ∃ R, R = spl a (a.size + 1) 0 none := ⟨_, rfl⟩
  rw [← hR]
  simp only [letO_eq]
  refine Eq.trans (bind_of (while_inv (r := (R.map Prod.fst, R.map Prod.snd))
    (fun x => ∃ (m i : Nat) (fr : Option Nat) (ws : List ByteArray) (cs : List Int), x = (frI fr, (i : Int), ws, cs) ∧ i + m = a.size + 1 ∧ (∀ f, fr = some f → f ≤ i) ∧ ws.length ≤ i ∧ cs.length ≤ i ∧
      R.map Prod.fst = ws ++ (spl a m i fr).map Prod.fst ∧ R.map Prod.snd = cs ++ (spl a m i fr).map Prod.snd)
    (fun x => a.size + 2 - x.2.1.toNat) ⟨a.size + 1, 0, none, [], [], rfl, by omega, by simp, by simp, by simp, by rw [hR]; rfl, by rw [hR]; rfl⟩ ?_)) rfl
  rintro _ ⟨m, i, fr, ws, cs, rfl, him, hfr, hws, hcs, h1, h2⟩
  cases m with
  | zero =>
    right
    have e : std.le (i : Int) (std.ofN (std.slen a)) = false := le_false (by rw [s_ofN, s_slen]; omega)
    simp only [L_spec_SplitColumns_x9, letO_eq, e, br_f]
    simp only [spl, List.map_nil, List.append_nil] at h1 h2
    rw [h1, h2]
  | succ m =>
    left
    have e : std.le (i : Int) (std.ofN (std.slen a)) = true := le_true (by rw [s_ofN, s_slen]; omega)
    have e2 : ((br (std.eq (i : Int) (std.ofN (std.slen a))) (some true) (req (std.inR (i : Int) (std.slen a)) (some (std.eq (std.sat a (std.toN (i : Int))) 32)))) : Option Bool) = some (bl a i) := by
      rw [s_eq, s_ofN, s_slen, br_bool]
      by_cases hi : i = a.size
      · subst hi; simp [bl]
      · have : ¬ ((i : Int) = (a.size : Int)) := by omega
        rw [if_neg (by simpa using this), req_of (inRn (by omega)), s_toNn]
        simp [bl]; omega
    have e3 : std.add .i64 (i : Int) 1 = ((i + 1 : Nat) : Int) := inc_nat (by omega)
    simp only [L_spec_SplitColumns_x9, letO_eq, e, br_t, e2, Option.bind_some, e3]
    unfold spl at h1 h2
    cases hb : bl a i with
    | false =>
      rw [hb] at h1 h2
      simp only [Bool.false_eq_true, if_false] at h1 h2
      cases fr with
      | none =>
        have e4 : std.lt (frI none) 0 = true := lt_true (by simp only [frI_n, frI_s]; omega)
        simp only [Bool.not_false, br_t, br_f, Option.bind_some, e4]
        exact ⟨_, rfl, ⟨m, i + 1, some i, ws, cs, rfl, by omega, by simp, by omega, by omega, h1, h2⟩, by simp only [Int.toNat_natCast]; omega⟩
      | some f =>
        have e4 : std.lt (frI (some f)) 0 = false := lt_false (by simp only [frI_n, frI_s]; omega)
        simp only [Bool.not_false, br_t, br_f, Option.bind_some, e4]
        exact ⟨_, rfl, ⟨m, i + 1, some f, ws, cs, rfl, by omega, fun g hg => by have := hfr g hg; omega, by omega, by omega, h1, h2⟩, by simp only [Int.toNat_natCast]; omega⟩
    | true =>
      rw [hb] at h1 h2
      simp only [if_true] at h1 h2
      cases fr with
      | none =>
        have e4 : std.le 0 (frI none) = false := le_false (by simp only [frI_n, frI_s]; omega)
        simp only [Bool.not_true, br_t, br_f, Option.bind_some, e4]
        exact ⟨_, rfl, ⟨m, i + 1, none, ws, cs, rfl, by omega, by simp, by omega, by omega, h1, h2⟩, by simp only [Int.toNat_natCast]; omega⟩
      | some f =>
        have hf := hfr f rfl
        have e4 : std.le 0 (frI (some f)) = true := le_true (by simp only [frI_n, frI_s]; omega)
        have e5 : std.upTo (i : Int) (std.slen a) := ⟨by omega, by rw [s_slen]; omega⟩
        have e6 : std.upTo (frI (some f)) (std.toN (i : Int)) := ⟨by simp only [frI_n, frI_s]; omega, by rw [frI_s, s_toNn]; omega⟩
        have e7 : std.add .i64 (frI (some f)) 1 = (f : Int) + 1 := add_id (by simp only [frI_n, frI_s]; omega) (by simp only [frI_n, frI_s]; omega)
        simp only [Bool.not_true, br_t, br_f, Option.bind_some, e4, req_of e5, req_of e6, e7]
        rw [req_of (by rw [s_room, s_nadd, len_eq, len_eq]; simp; omega), req_of (by rw [s_room, s_nadd, len_eq, len_eq]; simp; omega)]
        refine ⟨_, rfl, ⟨m, i + 1, none, ws ++ [std.ssub a f i], cs ++ [(f : Int) + 1], ?_, by omega, by simp, by simp; omega, by simp; omega, ?_, ?_⟩, by simp only [Int.toNat_natCast]; omega⟩
        · simp only [frI, s_toNn]
        · rw [h1]; simp
        · rw [h2]; simp
/-- without a blank the open word goes on -/
theorem spl_skip (a : ByteArray) (f e : Nat) (he : e ≤ a.size) : ∀ d i, i + d = e → (∀ j, i ≤ j → j < e → bl a j = false) → spl a (a.size + 1 - i) i (some f) = spl a (a.size + 1 - e) e (some f)
  | 0, i, hi, _ => by rw [show i = e by omega]
  | d + 1, i, hi, h => by
    rw [← spl_skip a f e he d (i + 1) (by omega) (fun j h1 h2 => h j (by omega) h2)]
    have e1 : a.size + 1 - i = (a.size + 1 - (i + 1)) + 1 := by omega
    rw [e1]
    conv => lhs; unfold spl
    rw [h i (Nat.le_refl _) (by omega)]
    simp
theorem spl_word (a : ByteArray) (i e : Nat) (hi : i < e) (he : e ≤ a.size) (h : ∀ j, i ≤ j → j < e → bl a j = false) (hb : bl a e = true) : spl a (a.size + 1 - i) i none = (std.ssub a i e, (i : Int) + 1) :: spl a (a.size + 1 - e) e none := by
  have e1 : a.size + 1 - i = (a.size + 1 - (i + 1)) + 1 := by omega
  rw [e1]
  conv => lhs; unfold spl
  rw [h i (Nat.le_refl _) hi]
  simp only [Bool.false_eq_true, if_false, Option.getD_none]
  rw [spl_skip a i e he (e - (i + 1)) (i + 1) (by omega) (fun j h1 h2 => h j (by omega) h2)]
  have e2 : a.size + 1 - e = (a.size - e) + 1 := by omega
  rw [e2]
  unfold spl
  rw [hb]
  simp
theorem bl_in (a : ByteArray) {i : Nat} (h : i < a.size) : bl a i = std.eq (std.sat a i) 32 := by
  unfold bl
  have : decide (a.size ≤ i) = false := by simp; omega
  rw [this, Bool.false_or]
theorem impl_split (a : ByteArray) (hn : a.size ≤ 1048576) : F_impl_SplitColumns a = some ((spl a (a.size + 1) 0 none).map Prod.fst, (spl a (a.size + 1) 0 none).map Prod.snd) := by
  unfold F_impl_SplitColumns
  obtain ⟨R, hR⟩ : ∃ R, R = spl a (a.size + 1) 0 none := ⟨_, rfl⟩
  rw [← hR]
  simp only [letO_eq]
  refine Eq.trans (bind_of (while_inv (r := (R.map Prod.fst, R.map Prod.snd))
    (fun x => ∃ (i : Nat) (ws : List ByteArray) (cs : List Int), x = ((i : Int), ws, cs) ∧ i ≤ a.size ∧ ws.length ≤ i ∧ cs.length ≤ i ∧
      R.map Prod.fst = ws ++ (spl a (a.size + 1 - i) i none).map Prod.fst ∧ R.map Prod.snd = cs ++ (spl a (a.size + 1 - i) i none).map Prod.snd)
    (fun x => a.size + 2 - x.1.toNat) ⟨0, [], [], rfl, by omega, by simp, by simp, by rw [hR]; rfl, by rw [hR]; rfl⟩ ?_)) rfl
  rintro _ ⟨i, ws, cs, rfl, hi, hws, hcs, h1, h2⟩
  by_cases hlt : i < a.size
  · left
    have e : std.lt (i : Int) (std.ofN (std.slen a)) = true := lt_true (by rw [s_ofN, s_slen]; omega)
    have e3 : std.add .i64 (i : Int) 1 = ((i + 1 : Nat) : Int) := inc_nat (by omega)
    simp only [L_impl_SplitColumns_x8, letO_eq, e, br_t, req_of (show std.inR (i : Int) (std.slen a) from inRn hlt), s_toNn]
    cases hb : std.eq (std.sat a i) 32 with
    | true =>
      have hb' : bl a i = true := by rw [bl_in a hlt]; exact hb
      simp only [br_t, e3]
      have e4 : spl a (a.size + 1 - i) i none = spl a (a.size + 1 - (i + 1)) (i + 1) none := by
        rw [show a.size + 1 - i = (a.size + 1 - (i + 1)) + 1 by omega]
        conv => lhs; unfold spl
        rw [hb']; rfl
      exact ⟨_, rfl, ⟨i + 1, ws, cs, rfl, by omega, by omega, by omega, by rw [← e4]; exact h1, by rw [← e4]; exact h2⟩, by simp only [Int.toNat_natCast]; omega⟩
    | false =>
      have hb' : bl a i = false := by rw [bl_in a hlt]; exact hb
      simp only [br_f]
      have hex : ∃ r, whileP (L_impl_SplitColumns_x22 a) (i : Int) = some r ∧ ∃ e : Nat, r = (e : Int) ∧ i ≤ e ∧ e ≤ a.size ∧ (∀ j, i ≤ j → j < e → bl a j = false) ∧ bl a e = true := by
        refine while_ex (fun x => ∃ v : Nat, x = (v : Int) ∧ i ≤ v ∧ v ≤ a.size ∧ ∀ j, i ≤ j → j < v → bl a j = false) _ (fun x => a.size + 1 - x.toNat) ⟨i, rfl, Nat.le_refl _, hi, fun j _ _ => by omega⟩ ?_
        rintro _ ⟨v, rfl, h3, h4, h5⟩
        by_cases hv : v < a.size
        · have e5 : std.lt (v : Int) (std.ofN (std.slen a)) = true := lt_true (by rw [s_ofN, s_slen]; omega)
          have e6 : std.add .i64 (v : Int) 1 = ((v + 1 : Nat) : Int) := inc_nat (by omega)
          simp only [L_impl_SplitColumns_x22, letO_eq, e5, br_t, req_of (show std.inR (v : Int) (std.slen a) from inRn hv), s_toNn, Option.bind_some, s_not, e6]
          rw [← bl_in a hv]
          cases hbv : bl a v with
          | true => exact .inr ⟨_, rfl, v, rfl, h3, h4, h5, hbv⟩
          | false => exact .inl ⟨_, rfl, ⟨v + 1, rfl, by omega, by omega, fun j h6 h7 => by rcases Nat.lt_or_ge j v with h8 | h8; exact h5 j h6 h8; rw [show j = v by omega]; exact hbv⟩, by simp only [Int.toNat_natCast]; omega⟩
        · have e5 : std.lt (v : Int) (std.ofN (std.slen a)) = false := lt_false (by rw [s_ofN, s_slen]; omega)
          simp only [L_impl_SplitColumns_x22, letO_eq, e5, br_f, Option.bind_some]
          exact .inr ⟨_, rfl, v, rfl, h3, h4, h5, by rw [show v = a.size by omega]; exact bl_end a⟩
      obtain ⟨_, hw, e, rfl, h3, h4, h5, h6⟩ := hex
      have hie : i < e := by
        rcases Nat.lt_or_ge i e with h | h
        · exact h
        · rw [show e = i by omega, hb'] at h6; cases h6
      rw [bind_of hw]
      have e5 : std.upTo (e : Int) (std.slen a) := ⟨by omega, by rw [s_slen]; omega⟩
      have e6 : std.upTo (i : Int) (std.toN (e : Int)) := ⟨by omega, by rw [s_toNn]; omega⟩
      have e7 : std.add .i64 (i : Int) 1 = (i : Int) + 1 := add_id (by omega) (by omega)
      simp only [req_of e5, req_of e6, e7]
      rw [req_of (by rw [s_room, s_nadd, len_eq, len_eq]; simp; omega), req_of (by rw [s_room, s_nadd, len_eq, len_eq]; simp; omega)]
      rw [spl_word a i e hie h4 h5 h6] at h1 h2
      refine ⟨_, rfl, ⟨e, ws ++ [std.ssub a i e], cs ++ [(i : Int) + 1], ?_, h4, by simp; omega, by simp; omega, ?_, ?_⟩, by simp only [Int.toNat_natCast]; omega⟩
      · simp only [s_toNn]
      · rw [h1]; simp
      · rw [h2]; simp
  · right
    have e : std.lt (i : Int) (std.ofN (std.slen a)) = false := lt_false (by rw [s_ofN, s_slen]; omega)
    have hie : i = a.size := by omega
    subst hie
    have e4 : spl a (a.size + 1 - a.size) a.size none = [] := by
      rw [show a.size + 1 - a.size = 0 + 1 by omega]
      unfold spl
      rw [bl_end]; rfl
    rw [e4] at h1 h2
    simp only [L_impl_SplitColumns_x8, letO_eq, e, br_f]
    rw [h1, h2]
    simp
theorem spl_len (a : ByteArray) : ∀ m i fr, (spl a m i fr).length ≤ m
  | 0, i, fr => by simp [spl]
  | m + 1, i, fr => by
    unfold spl
    split
    · cases fr with
      | none => have := spl_len a m (i + 1) none; simp only; omega
      | some f => have := spl_len a m (i + 1) none; simp only [List.length_cons]; omega
    · have := spl_len a m (i + 1) (some (fr.getD i)); omega
theorem eqStringS_self (l : List ByteArray) (h : l.length ≤ 1000000000) : F_laws_eqStringS l l = some true := by
  unfold F_laws_eqStringS
  have e1 : std.not (std.eq (std.ofN (len l)) (std.ofN (len l))) = false := by rw [eq_true' rfl]; rfl
  rw [e1, br_f]
  refine Eq.trans (bind_of (while_from (r := .inr ()) (fun i => (i : Int)) l.length rfl (fun i hi => ?_) ?_)) rfl
  · simp only [L_laws_eqStringS_x2, letO_eq, s_toNn, seq_self]
    rw [lt_true (by rw [s_ofN, len_eq]; omega), br_t, req_of (inRl hi), req_of (inRl hi), inc_nat (by omega)]; rfl
  · simp only [L_laws_eqStringS_x2, letO_eq]
    rw [lt_false (by rw [s_ofN, len_eq]; omega)]; rfl
theorem eqInt64S_self (l : List Int) (h : l.length ≤ 1000000000) : F_laws_eqInt64S l l = some true := by
  unfold F_laws_eqInt64S
  have e1 : std.not (std.eq (std.ofN (len l)) (std.ofN (len l))) = false := by rw [eq_true' rfl]; rfl
  rw [e1, br_f]
  refine Eq.trans (bind_of (while_from (r := .inr ()) (fun i => (i : Int)) l.length rfl (fun i hi => ?_) ?_)) rfl
  · simp only [L_laws_eqInt64S_x2, letO_eq, s_toNn, eq_true' rfl]
    rw [lt_true (by rw [s_ofN, len_eq]; omega), br_t, req_of (inRl hi), req_of (inRl hi), inc_nat (by omega)]; rfl
  · simp only [L_laws_eqInt64S_x2, letO_eq]
    rw [lt_false (by rw [s_ofN, len_eq]; omega)]; rfl
theorem markText_ok (v : Int) (h0 : 0 < v) (h : v ≤ 1000000000) : ∃ s, F_laws_markText v = some s := by
  unfold F_laws_markText
  rw [le_false (by omega), br_f]
  obtain ⟨r, h1, h2⟩ := while_ex (step := L_laws_markText_x3) (x0 := (v, ByteArray.mk #[])) (fun x => 0 ≤ x.1 ∧ x.2.size + x.1.toNat ≤ v.toNat) (fun r => r.size ≤ v.toNat) (fun x => x.1.toNat) ⟨by simp only; omega, by show 0 + v.toNat ≤ v.toNat; omega⟩ (by
    rintro ⟨n, o⟩ ⟨g1, g2⟩
    simp only at g1 g2
    by_cases hn : 0 < n
    · left
      have e1 : std.quo .i64 n 10 = n / 10 := by
        show IntKind.i64.wrap (n.tdiv 10) = _
        rw [Int.tdiv_eq_ediv_of_nonneg (by omega), wrap_id (by omega) (by omega)]
      simp only [L_laws_markText_x3, letO_eq]
      rw [lt_true (by omega), br_t, req_of (show std.nz 10 by rw [s_nz]; decide), req_of (show std.nz 10 by rw [s_nz]; decide), req_of, e1]
      · refine ⟨_, rfl, ⟨by simp only; omega, ?_⟩, by simp only; omega⟩
        simp only
        show (ByteArray.size (_ ++ o)) + _ ≤ _
        rw [ByteArray.size_append]
        have : (std.ofBytes (len [std.conv .u8 (std.add .i64 48 (std.rem n 10))]) fun i => gd [std.conv .u8 (std.add .i64 48 (std.rem n 10))] (0 + i)).size = 1 := rfl
        rw [this]; omega
      · rw [s_room, s_nadd, s_slen, s_slen]
        have : (std.ofBytes (len [std.conv .u8 (std.add .i64 48 (std.rem n 10))]) fun i => gd [std.conv .u8 (std.add .i64 48 (std.rem n 10))] (0 + i)).size = 1 := rfl
        rw [this]; omega
    · right
      refine ⟨o, ?_, by omega⟩
      simp only [L_laws_markText_x3, letO_eq]
      rw [lt_false (by omega), br_f])
  rw [bind_of h1]
  simp only [letO_eq]
  rw [req_of (by rw [s_room, s_nadd, s_slen, s_slen]; have : (ByteArray.mk #[109]).size = 1 := rfl; rw [this]; omega)]
  exact ⟨_, rfl⟩
noncomputable def mt (v : Int) : ByteArray := (F_laws_markText v).getD (ByteArray.mk #[])
theorem mt_eq (v : Int) (h0 : 0 < v) (h : v ≤ 1000000000) : F_laws_markText v = some (mt v) := by
  obtain ⟨s, hs⟩ := markText_ok v h0 h
  unfold mt; rw [hs]; rfl
theorem markStringS_ok (l : List ByteArray) (k : Nat) (hk : 0 < k) (h : k + l.length ≤ 1000000000) : F_laws_markStringS_mob l k = some (((k + l.length : Nat) : Int), (List.range l.length).map fun i => mt ((k + i : Nat) : Int)) := by
  unfold F_laws_markStringS_mob
  refine Eq.trans (bind_of (while_from (r := (((k + l.length : Nat) : Int), (List.range l.length).map fun i => mt ((k + i : Nat) : Int))) (fun i => (((k + i : Nat) : Int), (i : Int), markd (fun i => mt ((k + i : Nat) : Int)) l i)) l.length (by simp [markd_zero]) (fun i hi => ?_) ?_)) ?_
  · simp only [L_laws_markStringS_mob_x4, letO_eq, s_toNn, s_nadd, Nat.zero_add]
    rw [lt_true (by rw [s_ofN, len_eq]; omega), br_t, mt_eq _ (by omega) (by omega), Option.bind_some, req_of (inRl hi), req_of (by rw [len_eq, len_eq, markd_len _ _ _ (by omega)]), inc_nat (by omega), inc_nat (by omega), markd_set _ _ _ hi]
    simp [Nat.add_assoc]
  · simp only [L_laws_markStringS_mob_x4, letO_eq]
    rw [lt_false (by rw [s_ofN, len_eq]; omega), br_f, markd_full]
  · simp only [letO_eq]
    rw [req_of (by simp [len_eq])]
theorem markInt64S_ok (l : List Int) (k : Nat) (h : k + l.length ≤ 1000000000) : F_laws_markInt64S_mob l k = some (((k + l.length : Nat) : Int), (List.range l.length).map fun i => ((k + i : Nat) : Int)) := by
  unfold F_laws_markInt64S_mob
  refine Eq.trans (bind_of (while_from (r := (((k + l.length : Nat) : Int), (List.range l.length).map fun i => ((k + i : Nat) : Int))) (fun i => (((k + i : Nat) : Int), (i : Int), markd (fun i => ((k + i : Nat) : Int)) l i)) l.length (by simp [markd_zero]) (fun i hi => ?_) ?_)) ?_
  · simp only [L_laws_markInt64S_mob_x4, letO_eq, s_toNn, s_nadd, Nat.zero_add]
    rw [lt_true (by rw [s_ofN, len_eq]; omega), br_t, req_of (inRl hi), req_of (by rw [len_eq, len_eq, markd_len _ _ _ (by omega)]), inc_nat (by omega), inc_nat (by omega), markd_set _ _ _ hi]
    simp [Nat.add_assoc]
  · simp only [L_laws_markInt64S_mob_x4, letO_eq]
    rw [lt_false (by rw [s_ofN, len_eq]; omega), br_f, markd_full]
  · simp only [letO_eq]
    rw [req_of (by simp [len_eq])]
theorem heldStringS_ok (n k : Nat) (hk : 0 < k) (h : k + n ≤ 1000000000) : F_laws_heldStringS ((List.range n).map fun i => mt ((k + i : Nat) : Int)) k = some ((k + n : Nat) : Int) := by
  unfold F_laws_heldStringS
  refine Eq.trans (bind_of (while_from (r := .inr ((k + n : Nat) : Int)) (fun i => (((k + i : Nat) : Int), (i : Int))) n rfl (fun i hi => ?_) ?_)) rfl
  · simp only [L_laws_heldStringS_x3, letO_eq, s_toNn]
    rw [lt_true (by rw [s_ofN, len_eq]; simp; omega), br_t, req_of (inRl (by simpa using hi)), mt_eq _ (by omega) (by omega), Option.bind_some, range_gd _ _ _ hi, seq_self, inc_nat (by omega), inc_nat (by omega)]
    rfl
  · simp only [L_laws_heldStringS_x3, letO_eq]
    rw [lt_false (by rw [s_ofN, len_eq]; simp), br_f]
theorem heldInt64S_ok (n k : Nat) (h : k + n ≤ 1000000000) : F_laws_heldInt64S ((List.range n).map fun i => ((k + i : Nat) : Int)) k = some ((k + n : Nat) : Int) := by
  unfold F_laws_heldInt64S
  refine Eq.trans (bind_of (while_from (r := .inr ((k + n : Nat) : Int)) (fun i => (((k + i : Nat) : Int), (i : Int))) n rfl (fun i hi => ?_) ?_)) rfl
  · simp only [L_laws_heldInt64S_x3, letO_eq, s_toNn]
    rw [lt_true (by rw [s_ofN, len_eq]; simp; omega), br_t, req_of (inRl (by simpa using hi)), range_gd _ _ _ hi, eq_true' rfl, inc_nat (by omega), inc_nat (by omega)]
    rfl
  · simp only [L_laws_heldInt64S_x3, letO_eq]
    rw [lt_false (by rw [s_ofN, len_eq]; simp), br_f]
theorem law_SplitColumns (a : ByteArray) (_ : a.size ≤ maxLen) : F_laws_FnExactSplitColumns a = some true := by
  unfold F_laws_FnExactSplitColumns
  by_cases hn : a.size ≤ 1048576
  · have hl := spl_len a (a.size + 1) 0 none
    obtain ⟨W, hW⟩ : ∃ W, W = (spl a (a.size + 1) 0 none).map Prod.fst := ⟨_, rfl⟩
    obtain ⟨C, hC⟩ : ∃ C, C = (spl a (a.size + 1) 0 none).map Prod.snd := ⟨_, rfl⟩
    have hWl : W.length ≤ 1048577 := by rw [hW, List.length_map]; omega
    have hCl : C.length ≤ 1048577 := by rw [hC, List.length_map]; omega
    have e1 := spec_split a hn
    have e2 := impl_split a hn
    rw [← hW, ← hC] at e1 e2
    have m1 := markStringS_ok W 1 (by omega) (by omega)
    have m2 := markInt64S_ok C (1 + W.length) (by omega)
    have m3 := heldStringS_ok W.length 1 (by omega) (by omega)
    have m4 := heldInt64S_ok C.length (1 + W.length) (by omega)
    have m1' : F_laws_markStringS_mob W 1 = _ := m1
    have m3' : F_laws_heldStringS ((List.range W.length).map fun i => mt ((1 + i : Nat) : Int)) 1 = _ := m3
    rw [lt_false (by rw [s_ofN, s_slen]; omega), br_f]
    have l1 : ∀ n : Nat, std.lt (n : Int) 0 = false := fun n => lt_false (by omega)
    have q1 : len ((List.range W.length).map fun i => mt ((1 + i : Nat) : Int)) = len W := by simp [len_eq]
    have q2 : len ((List.range C.length).map fun i => ((1 + W.length + i : Nat) : Int)) = len C := by simp [len_eq]
    simp only [e1, e2, Option.bind_some, letO_eq, eqStringS_self W (by omega), eqInt64S_self C (by omega), Bool.not_true, br_f, m1', m2, m3', m4, l1, eq_true' rfl, s_not]
    simp only [q1, q2, req_true]
  · rw [lt_true (by rw [s_ofN, s_slen]; omega), br_t]
theorem op_9 (d : Nat) : Opens T (d + 1) 9 (clS) (wfS) := op_str (show T 9 = some d9 from rfl) rfl
end Go.Proofs.Ytnmfighfidaglaa.AM
