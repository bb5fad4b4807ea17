/-
  What the functions that the law reaches compute, and that they do. No condition.
-/
import Derived.Test.YtohgghncmkiicaaGreatAmSX
namespace Go.Proofs.YtohgghncmkiicaaGreat.AM
noncomputable section
open Go Go.Proofs Go.RowKit
set_option linter.unusedVariables false
set_option linter.unusedSimpArgs false
set_option maxRecDepth 100000

set_option maxHeartbeats 4000000
section
open Go.RowKit Go.Lib
set_option maxRecDepth 1000000 in
/-- slices.Delete: the elements behind those that are taken out lie further ahead, the cells behind are emptied -/
theorem calls_slices_Delete_Limpl_Cell_impl_Cell_mobb (blk off cap n i j : Nat) (D : List Value) (w : World) (hlen : D.length = n * 4) (hD : ∀ t u, D[t]? = some u -> w.cell? ⟨blk, off + t, none⟩ = some u) (h1 : ∀ u ∈ D, u.oneCell' = true) (hfz : ∀ t, t < n * 4 -> w.frozen? ⟨blk, off + t, none⟩ = false) (hcap : n <= cap) (hij : i < j) (hj : j <= n) :
  Calls Tryz.prog 198 #[.slice (some ⟨blk, off, none⟩) n cap, .int .i64 i, .int .i64 j] w fun e w' => e = .returned (.slice (some ⟨blk, off, none⟩) (n - (j - i)) cap) /\ ∃ zs : List Value, zs.length = (j - i) * 4 /\ (∀ u ∈ zs, u.oneCell' = true) /\ w' = (w.drew.setCells blk (off + i * 4) (D.drop (j * 4))).setCells blk (off + (i + (n - j)) * 4) zs := by
 obtain ⟨news, hnews⟩ : ∃ news, news = D.drop (j * 4) := ⟨_, rfl⟩
 have hl : news.length = (n - j) * 4 := by rw [hnews, List.length_drop, hlen, Nat.sub_mul]
 obtain ⟨A, hA, hsrc⟩ : ∃ A : Addr, (if cap = j then some (⟨blk, off, none⟩ : Addr) else some ⟨blk, off + j * 4, none⟩) = some A /\ Hid (∀ t u, news[t]? = some u -> w.drew.cell? (A.add t) = some u) := by
  by_cases h : cap = j
  ·refine ⟨⟨blk, off, none⟩, by simp [h], fun t u hu => ?_⟩
   have h00 : n - j = 0 := by omega
   have h0 : news.length = 0 := by rw [hl, h00, Nat.zero_mul]
   rw [List.length_eq_zero_iff.1 h0] at hu
   simp at hu
  ·refine ⟨⟨blk, off + j * 4, none⟩, by simp [h], fun t u hu => ?_⟩
   rw [Addr.add_lit, Nat.add_assoc]
   exact hD _ u (by rw [hnews, List.getElem?_drop] at hu; exact hu)
 have s1 : Hid (news.length = (n - j) * 4) := hl
 have s2 : Hid (∀ u ∈ news, u.oneCell' = true) := fun u hu => h1 u (List.mem_of_mem_drop (by rw [hnews] at hu; exact hu))
 have hex : ∀ t, t < n * 4 -> (w.cell? ⟨blk, off + t, none⟩).isSome = true := fun t ht => by
  rw [hD t (D[t]'(by omega)) (List.getElem?_eq_getElem (by omega))]; rfl
 have s3 : Hid (∀ t, t < news.length -> (w.drew.cell? ⟨blk, off + i * 4 + t, none⟩).isSome = true /\ w.drew.frozen? ⟨blk, off + i * 4 + t, none⟩ = false) := fun t ht => by
  rw [hl] at ht
  rw [Nat.add_assoc]
  exact ⟨hex _ (by omega), hfz _ (by omega)⟩
 obtain ⟨W1, hW1⟩ : ∃ W1, W1 = w.drew.setCells blk (off + i * 4) news := ⟨_, rfl⟩
 have hW : Hid (W1 = w.drew.setCells blk (off + i * 4) news) := hW1
 obtain ⟨z, hz⟩ : ∃ z, z = (Builtin.zeroCells d149.zero.cells (j - i)).toList := ⟨_, rfl⟩
 have hzs : d149.zero.cells.size = 4 := by kernel_rfl
 have hzl : z.length = (j - i) * 4 := by rw [hz, Array.length_toList, size_zeroCells, hzs]
 have hz1 : ∀ v ∈ z, v.oneCell' = true := by
  rw [hz]
  exact zeroCells_one _ (fun v hv => by
   have := Array.all_eq_true_iff_forall_mem.1 (show d149.zero.cells.all Value.oneCell' = true by kernel_rfl) v hv
   exact this) _
 have hcl : ∀ ty, (Builtin.clear_ #[41] ty #[.slice (some ⟨blk, off + (i + (n - j)) * 4, none⟩) (n - (i + (n - j))) (cap - (i + (n - j)))]).run Tryz.prog W1 = .ok (.tuple #[]) (W1.setCells blk (off + (i + (n - j)) * 4) z) := fun ty => by
  have e : n - (i + (n - j)) = j - i := by omega
  rw [e, hz]
  refine run_clear_cells W1 41 149 ty d149.zero (by kernel_rfl) (fun w => ?_) blk _ _ _ (by omega) ?_ ?_ ?_
  ·exact run_zero tok (show T 149 = some d149 from rfl)
  ·rw [<- hz]; exact hz1
  ·intro t ht
   rw [size_zeroCells, hzs] at ht
   rw [hW1, Nat.add_assoc]
   refine isSome_setCells blk _ _ _ (fun q hq => ?_) _ (hex _ ?_)
   ·rw [hl] at hq
    rw [Nat.add_assoc]; exact hex _ (by omega)
   ·omega
  ·intro t ht
   rw [size_zeroCells, hzs] at ht
   rw [hW1, World.frozen?_setCells, Nat.add_assoc]
   exact hfz _ (by omega)
 have hX : Hid (∃ zs : List Value, zs.length = (j - i) * 4 /\ (∀ u ∈ zs, u.oneCell' = true) /\ W1.setCells blk (off + (i + (n - j)) * 4) z = (w.drew.setCells blk (off + i * 4) (D.drop (j * 4))).setCells blk (off + (i + (n - j)) * 4) zs) := ⟨z, hzl, hz1, by rw [hW1, hnews]⟩
 have hic : i <= cap := by omega
 have hjc : j <= cap := by omega
 have hne : ¬ (i = j) := by omega
 have hI : (Tryz.prog.info? 149).map (·.size) = some 4 := by kernel_rfl
 obtain ⟨i0, hi0, hz5⟩ : ∃ i0, Tryz.prog.info? 149 = some i0 /\ i0.size = 4 := by
  cases h : Tryz.prog.info? 149 with
  | none => rw [h] at hI; cases hI
  | some i0 => rw [h] at hI; exact ⟨i0, rfl, by injection hI⟩
 have mixed : Tryz.prog.follows .mixedOrders = true := by kernel_rfl
 clear hW1 hex hzs hnews hl hz hzl hz1 hD h1 hfz
 go_enter Tryz.func198, Tryz.ntmps198
 go_wp2_with fail
 go_region_law_o (refine step_append_room rfl (.tmp 22) (.tmp 25) 41 rfl 149 i0 4 (by kernel_rfl) hi0 hz5 blk off i cap (by simp [Act.eval, Act.put]) A (n - j) (cap - j) news (by simp [Act.eval, Act.put, hA]) s1.out hsrc.out s2.out (by omega) s3.out ?_; rw [<- hW.out])
 go_wp2
 go_ret
 refine ⟨by rw [show n - (j - i) = i + (n - j) by omega]; rfl, hX.out⟩
end
/-- slices.Delete[[]loop.example/g00890/impl.Cell,loop.example/g00890/impl.Cell] -/
def Fq86 (a0 : List TC) (a1 : Int) (a2 : Int) : Option (List TC) :=
 if 0 <= a1 /\ a1 < a2 /\ a2 <= (a0.length : Int) then some (a0.take a1.toNat ++ a0.drop a2.toNat) else none
theorem runq86 (a0 : List TC) (a1 : Int) (a2 : Int) (r : List TC) (h : Fq86 a0 a1 a2 = some r) : Fun Tryz.prog 198 [.c (.os 5 0 (len a0)), .c (wi a1), .c (wi a2)] [(5, .arr .rw [] (len a0) 4 (row gd (oC len gd) a0))] (.c (.os 64000 0 (len r))) [(64000, .arr .rw [] (len r) 4 (row gd (oC len gd) r))] true := by
 unfold Fq86 at h
 split at h
 ·rename_i h1
  injection h with h
  subst h
  obtain ⟨i, rfl⟩ : ∃ i : Nat, a1 = i := ⟨a1.toNat, by omega⟩
  obtain ⟨j, rfl⟩ : ∃ j : Nat, a2 = j := ⟨a2.toNat, by omega⟩
  rw [Int.toNat_natCast, Int.toNat_natCast]
  have e : len (a0.take i ++ a0.drop j) = len a0 - (j - i) := by
   show List.length _ = List.length _ - _
   rw [List.length_append, List.length_take, List.length_drop]; omega
  rw [e]
  exact Fun.delete Tryz.func198 (by kernel_rfl) (by kernel_rfl) 4 (fun blk off cap n i j D w h1 h2 h3 h4 h5 h6 h7 => calls_slices_Delete_Limpl_Cell_impl_Cell_mobb blk off cap n i j D w h1 h2 h3 h4 h5 h6 h7) (len a0) i j _ _ (by omega) (show j <= a0.length by omega)
   (fun t ht q hq => by show oC len gd (gd _ t) q = oC len gd (gd a0 _) q; rw [cut_get a0 i j t (by omega) (by omega)]) (fun t q => rC _ _) (fun t q => fl_oncCell _ _)
 ·cases h

/-- impl.Cell] -/
def Fq124 (a0 : List TC) (a1 : Int) : Option (List TC) :=
 (Fq86 a0 a1 (std.add .i64 a1 1)).bind fun y1 =>
 some y1
theorem runq124 (a0 : List TC) (a1 : Int) (r : List TC) (h : Fq124 a0 a1 = some r) : Fun Tryz.prog 120 [.c (.os 5 0 (len a0)), .c (wi a1)] [(5, .arr .rw [] (len a0) 4 (row gd (oC len gd) a0))] (.c (.os 64000 0 (len r))) [(64000, .arr .rw [] (len r) 4 (row gd (oC len gd) r))] true := by
 refine Fun.of_wp (oneOf []) tok mixed Tryz.func120 (by kernel_rfl) rfl Tryz.ntmps120 rfl ⟨fun i _ j _ k hk => (noref (rC _ _) hk).elim, tv⟩ (fun _ => ⟨trivial, ⟨fun i _ j _ => fl_oncCell _ _, tv⟩⟩) ?_; unfold Fq124 at h; have hfq86 := @runq86
 generalize hLEN : @len = LEN, hGD : @gd = GD, hA : std = A, hP : Tryz.prog = P at *; cbv; revert h; refine rb fun y1 hy2 h => ?_; refine rc [(5, 5)] [(64000, 576)] (hfq86 _ _ _ _ hy2) zf ⟨_, rfl, _, _, rfl, fun _ _ _ _ => .refl _, ?_⟩; cbv; injection h with h; subst h
 refine ⟨(sp 10 [(4, .c (.os 64000 0 (LEN y1)))] [(64000, .arr .rw [] (LEN y1) 4 (row GD (oC LEN GD) y1))]), ?_, ?_⟩
 ·refine St.le_trans (le_ren 576 64000 (by decide) rfl) ?_; exact zb
 ·exact ⟨lR _, ⟨oS, tv⟩, rfl⟩

section
open Go.RowKit Go.Lib
set_option maxRecDepth 1000000 in
theorem ins_shift_slices_Insert_Limpl_Shape_impl_Shape_mobo (b off n c i vb voff m vc : Nat) (cs vs : List Value) (w : World) (hi : i < n) (hm : 0 < m) (hroom : n + m <= c) (hc63 : n + m <= 9223372036854775807) (hvb : vb ≠ b)
  (hcl : cs.length = n * 5) (hvl : vs.length = m * 5)
  (hcs : ∀ j v, cs[j]? = some v -> w.cell? ⟨b, off + j, none⟩ = some v) (hsp : ∀ j, j < (n + m) * 5 -> (w.cell? ⟨b, off + j, none⟩).isSome = true) (hfz : ∀ j, j < (n + m) * 5 -> w.frozen? ⟨b, off + j, none⟩ = false)
  (hvs : ∀ j v, vs[j]? = some v -> w.cell? ⟨vb, voff + j, none⟩ = some v) (h1c : ∀ v ∈ cs, v.oneCell' = true) (h1v : ∀ v ∈ vs, v.oneCell' = true)
  (tA tB : TypeId) (kA kB : Nat) (hsa : w.shape? vb = some (tA, kA)) (hsb : w.shape? b = some (tB, kB)) (hkB : kB ≠ 0) (hfa : w.frozen? ⟨vb, voff, none⟩ = false) (hfe : w.frozen? ⟨vb, kA, none⟩ = false) :
  Calls Tryz.prog 121 #[.slice (some ⟨b, off, none⟩) n c, .int .i64 i, .slice (some ⟨vb, voff, none⟩) m vc] w fun e w' =>
   e = .returned (.slice (some ⟨b, off, none⟩) (n + m) c) /\ w' = (w.drew.setCells b (off + (i + m) * 5) (cs.drop (i * 5))).setCells b (off + i * 5) vs := by
 have tSl : Tryz.prog.underlying 145 = some (.slice 49) := by kernel_rfl
 have hz1 : ¬ ((m : Int) = 0) := by omega
 have hz2 : ¬ ((i : Int) = (n : Int)) := by omega
 have hsz : (Tryz.prog.info? 49).map (·.size) = some 5 := by kernel_rfl
 have hov : ∀ lb cb, (callFunc 199 #[.slice (some ⟨vb, voff, none⟩) m vc, .slice (some ⟨b, off + (i + m) * 5, none⟩) lb cb]).run Tryz.prog w = .ok (.value (.bool false)) w := fun lb cb => by
  rw [run_callFunc_extern Tryz.func199 (by kernel_rfl) (by kernel_rfl) (by kernel_rfl) (e := Extern.SlicesOverlaps.overlaps #[145, 145] #[4]) (by kernel_rfl),
   Lib.run_overlaps_apart w 145 4 49 tSl 5 (fun w => run_sizeOf tok (show T 49 = some d49 from rfl)) ⟨vb, voff, none⟩ ⟨b, off + (i + m) * 5, none⟩ m vc lb cb hvb tA tB kA kB hsa hsb hkB hfa hfe]
  rfl
 have hdl : (cs.drop (i * 5)).length = (n - i) * 5 := by rw [List.length_drop, hcl, Nat.sub_mul]
 have mixed : Tryz.prog.follows .mixedOrders = true := by kernel_rfl
 have hw1 : IntKind.i64.wrap ((i : Int) + (m : Int)) = (i : Int) + (m : Int) := by rw [IntKind.wrap_i64]; omega
 have hb1 : (0 : Int) <= (i : Int) + (m : Int) := by omega
 have hin : i <= n := by omega
 have htn : ((i : Int) + (m : Int)).toNat = i + m := by omega
 have hb2 : ¬ (c = i + m) := by omega
 have hb3 : (i : Int) <= (n : Int) + (m : Int) := by omega
 have hb4 : ¬ (c = i) := by omega
 have hcp1 : ∀ ty dc sc, (Builtin.copy_ #[145, 145] ty #[.slice (some ⟨b, off + (i + m) * 5, none⟩) (n + m - (i + m)) dc, .slice (some ⟨b, off + i * 5, none⟩) (n + m - i) sc]).run Tryz.prog w.drew = .ok (goInt (Nat.min (n + m - i) (n + m - (i + m)))) (w.drew.setCells b (off + (i + m) * 5) (cs.drop (i * 5))) := fun ty dc sc =>
  run_copy_cellsN 5 w.drew _ _ ty 49 b (off + (i + m) * 5) (n + m - (i + m)) dc ⟨b, off + i * 5, none⟩ (n + m - i) sc (cs.drop (i * 5)) tSl hsz (by rw [hdl, show Nat.min (n + m - i) (n + m - (i + m)) = n - i by simp only [Nat.min_def]; split <;> omega])
   (fun j v hj => by rw [Addr.add_lit, Nat.add_assoc]; exact hcs (i * 5 + j) v (by rwa [List.getElem?_drop] at hj))
   (fun j hj => by rw [Nat.add_assoc]; exact hsp _ (by omega)) (fun j hj => by rw [Nat.add_assoc]; exact hfz _ (by omega)) (fun v hv => h1c v (List.mem_of_mem_drop hv))
 obtain ⟨W1, hW1⟩ : ∃ W1, W1 = w.drew.setCells b (off + (i + m) * 5) (cs.drop (i * 5)) := ⟨_, rfl⟩
 have hsp1 : ∀ k, k < (n + m) * 5 -> (W1.cell? ⟨b, off + k, none⟩).isSome = true := fun k hk => by
  rw [hW1]
  exact isSome_setCells b _ _ _ (fun j hj => by rw [Nat.add_assoc]; exact hsp _ (by omega)) _ (hsp k hk)
 have hcp2 : ∀ (W : World), (∀ x, W.cell? x = W1.cell? x) -> (∀ x, W.frozen? x = W1.frozen? x) -> ∀ ty dc, (Builtin.copy_ #[145, 145] ty #[.slice (some ⟨b, off + i * 5, none⟩) (n + m - i) dc, .slice (some ⟨vb, voff, none⟩) m vc]).run Tryz.prog W = .ok (goInt (Nat.min m (n + m - i))) (W.setCells b (off + i * 5) vs) := fun W hWc hWf ty dc =>
  run_copy_cellsN 5 W _ _ ty 49 b (off + i * 5) (n + m - i) dc ⟨vb, voff, none⟩ m vc vs tSl hsz (by rw [hvl, show Nat.min m (n + m - i) = m by simp only [Nat.min_def]; split <;> omega])
   (fun j v hj => by
    rw [Addr.add_lit, hWc, hW1, World.cell?_setCells_out b _ _ _ _ (fun h _ => absurd h hvb)]
    exact hvs j v hj)
   (fun j hj => by rw [hWc, Nat.add_assoc]; exact hsp1 _ (by omega)) (fun j hj => by rw [hWf, hW1, World.frozen?_setCells, Nat.add_assoc]; exact hfz _ (by omega)) h1v
 rw [<- hW1] at hcp1
 clear hsp hfz hcs hvs h1c h1v
 go_enter Tryz.func121, Tryz.ntmps121
 go_wp2_with (simp only [hov])
 go_region_law_o (refine step_copy_runI rfl _ _ 145 145 rfl _ _ (by simp [Act.eval, Act.put]) (by simp [Act.eval, Act.put]) (hcp1 _ _ _) ?_)
 go_wp2_with (at_builtin; refine wpList_copy_runI _ rfl _ _ 145 145 rfl _ _ rfl rfl (hcp2 _ (fun _ => rfl) (fun _ => rfl) _ _) ?_)
 go_ret
 first | exact ⟨rfl, rfl⟩ | exact ⟨rfl, by rw [hW1]⟩
set_option maxRecDepth 1000000 in
theorem ins_end_room_slices_Insert_Limpl_Shape_impl_Shape_mobo (b off n c vb voff m vc : Nat) (vs : List Value) (w : World) (hm : 0 < m) (hroom : n + m <= c) (hc63 : n + m <= 9223372036854775807)
  (hvl : vs.length = m * 5) (hsp : ∀ j, j < m * 5 -> (w.cell? ⟨b, off + n * 5 + j, none⟩).isSome = true) (hfz : ∀ j, j < m * 5 -> w.frozen? ⟨b, off + n * 5 + j, none⟩ = false)
  (hvs : ∀ j v, vs[j]? = some v -> w.cell? ⟨vb, voff + j, none⟩ = some v) (h1v : ∀ v ∈ vs, v.oneCell' = true) :
  Calls Tryz.prog 121 #[.slice (some ⟨b, off, none⟩) n c, .int .i64 n, .slice (some ⟨vb, voff, none⟩) m vc] w fun e w' =>
   e = .returned (.slice (some ⟨b, off, none⟩) (n + m) c) /\ w' = w.setCells b (off + n * 5) vs := by
 have tSl : Tryz.prog.underlying 145 = some (.slice 49) := by kernel_rfl
 have mixed : Tryz.prog.follows .mixedOrders = true := by kernel_rfl
 have hI : (Tryz.prog.info? 49).map (·.size) = some 5 := by kernel_rfl
 obtain ⟨i0, hi0, hz5⟩ : ∃ i0, Tryz.prog.info? 49 = some i0 /\ i0.size = 5 := by
  cases h : Tryz.prog.info? 49 with
  | none => rw [h] at hI; cases hI
  | some i0 => rw [h] at hI; exact ⟨i0, rfl, by injection hI⟩
 have hz1 : ¬ ((m : Int) = 0) := by omega
 have hsrc : Src Tryz.prog i0.size 145 (.slice (some ⟨vb, voff, none⟩) m vc) m vs w := Src.ofSlice w tSl ⟨vb, voff, none⟩ m vc vs (by rw [hz5]; exact hvl) (fun j u hj => by rw [Addr.add_lit]; exact hvs j u hj) h1v
 have s1 : Hid (∀ j, j < vs.length -> (w.cell? ⟨b, off + n * i0.size + j, none⟩).isSome = true) := by rw [hvl, hz5]; exact hsp
 have s2 : Hid (∀ j, j < vs.length -> w.frozen? ⟨b, off + n * i0.size + j, none⟩ = false) := by rw [hvl, hz5]; exact hfz
 clear hsp hfz hvs
 go_enter Tryz.func121, Tryz.ntmps121
 go_wp2_with (at_builtin; refine wpList_append_room_src _ rfl _ _ 145 145 rfl 49 i0 tSl hi0 b off n c rfl _ rfl m vs hsrc hroom s1.out s2.out ?_)
 go_ret
 exact ⟨rfl, rfl⟩
set_option maxRecDepth 1000000 in
theorem ins_end_grow_slices_Insert_Limpl_Shape_impl_Shape_mobo (base : Option Addr) (n c vb voff m vc : Nat) (cs vs : List Value) (w : World) (hm : 0 < m) (hnc : n <= c) (hroom : c < n + m) (hbig : (n + m) * 40 <= 140737488355328)
  (hcl : cs.length = n * 5) (hvl : vs.length = m * 5) (hnil : base = none -> n = 0)
  (hcs : ∀ a, base = some a -> ∀ j v, cs[j]? = some v -> w.cell? (a.add j) = some v)
  (hvs : ∀ j v, vs[j]? = some v -> w.cell? ⟨vb, voff + j, none⟩ = some v) (h1v : ∀ v ∈ vs, v.oneCell' = true) :
  Calls Tryz.prog 121 #[.slice base n c, .int .i64 n, .slice (some ⟨vb, voff, none⟩) m vc] w fun e w' =>
   e = .returned (.slice (some ⟨w.heap.size, 0, none⟩) (n + m) (grownCap w (n + m) c 49)) /\
   w' = w.drew.alloc (.cells ((cs ++ vs).toArray ++ Builtin.zeroCells d49.zero.cells (grownCap w (n + m) c 49 - (n + m))) 49) := by
 have tSl : Tryz.prog.underlying 145 = some (.slice 49) := by kernel_rfl
 have mixed : Tryz.prog.follows .mixedOrders = true := by kernel_rfl
 obtain ⟨i0, hi0, hzs, hzb, hz0⟩ := (tok 49 d49 rfl).2.1
 have hzs : i0.size = 5 := hzs
 have hzb : i0.bytes = 40 := hzb
 have hz1 : ¬ ((m : Int) = 0) := by omega
 have hsrc : Src Tryz.prog i0.size 145 (.slice (some ⟨vb, voff, none⟩) m vc) m vs w := Src.ofSlice w tSl ⟨vb, voff, none⟩ m vc vs (by rw [hzs]; exact hvl) (fun j u hj => by rw [Addr.add_lit]; exact hvs j u hj) h1v
 have hold : (Builtin.firstCells i0.size n (.slice base n c)).run Tryz.prog w.drew = .ok cs.toArray w.drew := by
  rw [hzs]
  cases base with
  | none =>
   have h0 := hnil rfl
   subst h0
   have hc0 : cs.length = 0 := by rw [hcl, Nat.zero_mul]
   rw [List.length_eq_zero_iff.1 hc0]
   exact run_firstCells_none w.drew 5 0 0 c
  | some a => exact run_firstCells_some w.drew 5 n a n c cs hcl (fun j v hj => hcs a rfl j v hj)
 have hrun : ∀ ty, (Builtin.append_ #[145, 145] ty #[.slice base n c, .slice (some ⟨vb, voff, none⟩) m vc]).run Tryz.prog w = _ := fun ty =>
  run_append_grow_src w 145 145 ty 49 i0 _ tSl hi0 hz0 base n c cs hold _ m vs hsrc hroom (by omega) (by rw [hzb]; exact growslice_fits hroom hbig)
 go_enter Tryz.func121, Tryz.ntmps121
 cases base with
 | none =>
  have h0 := hnil rfl
  subst h0
  go_wp2_with (at_builtin; refine Lib.wpList_append_run _ rfl _ _ _ _ rfl _ _ rfl rfl _ _ (hrun _) ?_)
  go_ret
  exact ⟨rfl, rfl⟩
 | some a =>
  obtain ⟨ab, ao, asp⟩ := a
  go_wp2_with (at_builtin; refine Lib.wpList_append_run _ rfl _ _ _ _ rfl _ _ rfl rfl _ _ (hrun _) ?_)
  all_goals (go_ret; exact ⟨rfl, rfl⟩)
set_option maxRecDepth 1000000 in
theorem ins_grow_slices_Insert_Limpl_Shape_impl_Shape_mobo (b off n c i vb voff m vc : Nat) (cs vs : List Value) (w : World) (hi : i < n) (hm : 0 < m) (hnc : n <= c) (hroom : c < n + m) (hbig : (n + m) * 40 <= 140737488355328)
  (hcl : cs.length = n * 5) (hvl : vs.length = m * 5)
  (hcs : ∀ j v, cs[j]? = some v -> w.cell? ⟨b, off + j, none⟩ = some v)
  (hvs : ∀ j v, vs[j]? = some v -> w.cell? ⟨vb, voff + j, none⟩ = some v) (h1c : ∀ v ∈ cs, v.oneCell' = true) (h1v : ∀ v ∈ vs, v.oneCell' = true) :
  Calls Tryz.prog 121 #[.slice (some ⟨b, off, none⟩) n c, .int .i64 i, .slice (some ⟨vb, voff, none⟩) m vc] w fun e w' =>
   e = .returned (.slice (some ⟨w.heap.size, 0, none⟩) (n + m) (grownCap w (n + m) c 49)) /\
   w' = (((w.alloc (.cells ((cs.take (i * 5)).toArray ++ Builtin.zeroCells d49.zero.cells (n + m - i) ++ Builtin.zeroCells d49.zero.cells (grownCap w (n + m) c 49 - (n + m))) 49)).drew.setCells w.heap.size (i * 5) vs).drew).setCells w.heap.size ((i + m) * 5) (cs.drop (i * 5)) := by
 have tSl : Tryz.prog.underlying 145 = some (.slice 49) := by kernel_rfl
 have t3 : Tryz.prog.underlying 3 = some (.int .i64) := by kernel_rfl
 have mixed : Tryz.prog.follows .mixedOrders = true := by kernel_rfl
 obtain ⟨i0, hi0, hzs, hzb, hz0⟩ := (tok 49 d49 rfl).2.1
 have hzs : i0.size = 5 := hzs
 have hzb : i0.bytes = 40 := hzb
 have hz5 : d49.zero.cells.size = 5 := by kernel_rfl
 have hz1 : ¬ ((m : Int) = 0) := by omega
 have hz2 : ¬ ((i : Int) = (n : Int)) := by omega
 have hz3 : (c : Int) < (n : Int) + (m : Int) := by omega
 have hsz : (Tryz.prog.info? 49).map (·.size) = some 5 := by rw [hi0]; simp [hzs]
 have hbw : b < w.heap.size := block_lt_of_cell (hcs 0 _ (List.getElem?_eq_getElem (by omega)))
 have hvw : vb < w.heap.size := block_lt_of_cell (hvs 0 _ (List.getElem?_eq_getElem (by omega)))
 have hkk : (n : Int) + (m : Int) - (i : Int) = ((n + m - i : Nat) : Int) := by omega
 have hik : i + (n + m - i) = n + m := by omega
 have htl : (cs.take (i * 5)).length = i * 5 := by rw [List.length_take, hcl]; omega
 have hold : (Builtin.firstCells i0.size i (.slice (some ⟨b, off, none⟩) i c)).run Tryz.prog w.drew = .ok (cs.take (i * 5)).toArray w.drew := by
  rw [hzs]
  exact run_firstCells_some w.drew 5 i ⟨b, off, none⟩ i c (cs.take (i * 5)) htl (fun j v hj => by
   rw [Addr.add_lit]
   rw [List.getElem?_take] at hj
   split at hj
   ·exact hcs j v hj
   ·cases hj)
 have hrz : ∀ ty, (Builtin.append_ #[145, 3] ty #[.slice (some ⟨b, off, none⟩) i c, .int .i64 ((n : Int) + (m : Int) - (i : Int))]).run Tryz.prog w =
   .ok (.slice (some ⟨w.heap.size, 0, none⟩) (n + m) (grownCap w (n + m) c 49)) (w.drew.alloc (.cells ((cs.take (i * 5)).toArray ++ Builtin.zeroCells d49.zero.cells (n + m - i) ++ Builtin.zeroCells d49.zero.cells (grownCap w (n + m) c 49 - (n + m))) 49)) := fun ty => by
  have h := Lib.run_append_grow_zeros w 145 3 ty 49 i0 _ .i64 .i64 tSl t3 hi0 hz0 (some ⟨b, off, none⟩) i c (cs.take (i * 5)) hold (n + m - i) (by omega) (by omega) (by omega) (by omega) (by rw [hzb]; omega) (by rw [hzb, hik]; exact growslice_fits hroom hbig)
  rw [hik] at h
  rw [hkk]
  exact h
 obtain ⟨G, hG⟩ : ∃ G, G = grownCap w (n + m) c 49 := ⟨_, rfl⟩
 obtain ⟨ROW, hROW⟩ : ∃ ROW : Array Value, ROW = (cs.take (i * 5)).toArray ++ Builtin.zeroCells d49.zero.cells (n + m - i) ++ Builtin.zeroCells d49.zero.cells (G - (n + m)) := ⟨_, rfl⟩
 rw [<- hG] at hrz ⊢
 rw [<- hROW] at hrz ⊢
 have hRl : (n + m) * 5 <= ROW.size := by
  rw [hROW, Array.size_append, Array.size_append, size_zeroCells, size_zeroCells, hz5, List.size_toArray, htl]
  omega
 obtain ⟨W1, hW1⟩ : ∃ W1, W1 = w.drew.alloc (.cells ROW 49) := ⟨_, rfl⟩
 rw [<- hW1] at hrz
 have hN : ∀ j, j < (n + m) * 5 -> (W1.cell? ⟨w.heap.size, j, none⟩).isSome = true := fun j hj => by
  rw [hW1, World.cell?_alloc_at (w := w.drew) ROW _ w.heap.size j rfl, Array.getElem?_eq_getElem (by omega)]; rfl
 have hNf : ∀ j, W1.frozen? ⟨w.heap.size, j, none⟩ = false := fun j => by rw [hW1]; exact World.frozen?_alloc_at (w := w.drew) ROW _ w.heap.size j rfl
 have hOb : ∀ j v, w.cell? ⟨b, j, none⟩ = some v -> W1.cell? ⟨b, j, none⟩ = some v := fun j v h => by rw [hW1, World.cell?_alloc_past (w := w.drew) _ b j hbw]; exact h
 have hOv : ∀ j v, w.cell? ⟨vb, j, none⟩ = some v -> W1.cell? ⟨vb, j, none⟩ = some v := fun j v h => by rw [hW1, World.cell?_alloc_past (w := w.drew) _ vb j hvw]; exact h
 have hcpA : ∀ (W : World), (∀ x, W.cell? x = W1.cell? x) -> (∀ x, W.frozen? x = W1.frozen? x) -> ∀ ty dc, (Builtin.copy_ #[145, 145] ty #[.slice (some ⟨w.heap.size, i * 5, none⟩) (n + m - i) dc, .slice (some ⟨vb, voff, none⟩) m vc]).run Tryz.prog W = .ok (goInt (Nat.min m (n + m - i))) (W.setCells w.heap.size (i * 5) vs) := fun W hWc hWf ty dc =>
  run_copy_cellsN 5 W _ _ ty 49 w.heap.size (i * 5) (n + m - i) dc ⟨vb, voff, none⟩ m vc vs tSl hsz (by rw [hvl, show Nat.min m (n + m - i) = m by simp only [Nat.min_def]; split <;> omega])
   (fun j v hj => by rw [Addr.add_lit, hWc]; exact hOv _ v (hvs j v hj))
   (fun j hj => by rw [hWc]; exact hN _ (by omega)) (fun j hj => by rw [hWf]; exact hNf _) h1v
 have hGn : n + m <= G := by rw [hG]; exact grownCap_ge w _ _ _
 have hG63 : G <= 9223372036854775807 := by
  have := grownCap_le_maxLen w (n + m) c 49 (by unfold maxLen; omega)
  rw [<- hG] at this
  unfold maxLen at this
  omega
 have hGi : ¬ (G = i) := by omega
 have hGim : ¬ (G = i + m) := by omega
 have hci : ¬ (c = i) := by omega
 have hbN : b ≠ w.heap.size := by omega
 have hdl : (cs.drop (i * 5)).length = (n - i) * 5 := by rw [List.length_drop, hcl, Nat.sub_mul]
 have hcpB : ∀ (W : World), (∀ x, W.cell? x = (W1.setCells w.heap.size (i * 5) vs).cell? x) -> (∀ x, W.frozen? x = (W1.setCells w.heap.size (i * 5) vs).frozen? x) -> ∀ ty dc sc, (Builtin.copy_ #[145, 145] ty #[.slice (some ⟨w.heap.size, (i + m) * 5, none⟩) (n + m - (i + m)) dc, .slice (some ⟨b, off + i * 5, none⟩) (n - i) sc]).run Tryz.prog W = .ok (goInt (Nat.min (n - i) (n + m - (i + m)))) (W.setCells w.heap.size ((i + m) * 5) (cs.drop (i * 5))) := fun W hWc hWf ty dc sc =>
  run_copy_cellsN 5 W _ _ ty 49 w.heap.size ((i + m) * 5) (n + m - (i + m)) dc ⟨b, off + i * 5, none⟩ (n - i) sc (cs.drop (i * 5)) tSl hsz (by rw [hdl, show Nat.min (n - i) (n + m - (i + m)) = n - i by simp only [Nat.min_def]; split <;> omega])
   (fun j v hj => by
    rw [Addr.add_lit, hWc, World.cell?_setCells_out _ _ _ _ _ (fun h _ => absurd h hbN), Nat.add_assoc]
    exact hOb _ v (hcs (i * 5 + j) v (by rwa [List.getElem?_drop] at hj)))
   (fun j hj => by rw [hWc]; exact isSome_setCells _ _ _ _ (fun t ht => hN _ (by omega)) _ (hN _ (by omega)))
   (fun j hj => by rw [hWf, World.frozen?_setCells]; exact hNf _) (fun v hv => h1c v (List.mem_of_mem_drop hv))
 subst hW1
 have hE1 : ∀ x, ((w.alloc (.cells ROW 49)).drew).cell? x = (w.drew.alloc (.cells ROW 49)).cell? x := fun x => rfl
 have hE2 : ∀ x, ((w.alloc (.cells ROW 49)).drew).frozen? x = (w.drew.alloc (.cells ROW 49)).frozen? x := fun x => rfl
 have hF1 : ∀ x, (((w.alloc (.cells ROW 49)).drew.setCells w.heap.size (i * 5) vs).drew).cell? x = ((w.drew.alloc (.cells ROW 49)).setCells w.heap.size (i * 5) vs).cell? x := fun x => rfl
 have hF2 : ∀ x, (((w.alloc (.cells ROW 49)).drew.setCells w.heap.size (i * 5) vs).drew).frozen? x = ((w.drew.alloc (.cells ROW 49)).setCells w.heap.size (i * 5) vs).frozen? x := fun x => rfl
 have hw1 : IntKind.i64.wrap ((i : Int) + (m : Int)) = (i : Int) + (m : Int) := by rw [IntKind.wrap_i64]; omega
 have hb1 : (0 : Int) <= (i : Int) + (m : Int) := by omega
 have hin : i <= n := by omega
 have htn : ((i : Int) + (m : Int)).toNat = i + m := by omega
 have hb3 : (i : Int) <= (n : Int) := by omega
 clear hkk hik hold hROW hG hRl hcs hvs h1c h1v hN hNf hOb hOv htl hdl
 go_enter Tryz.func121, Tryz.ntmps121
 go_wp2_with (first
  | (at_builtin; refine Lib.wpList_append_run _ rfl _ _ _ _ rfl _ _ rfl rfl _ _ (hrz _) ?_)
  | (at_builtin; refine wpList_copy_runI _ rfl _ _ 145 145 rfl _ _ rfl rfl (hcpA _ hE1 hE2 _ _) ?_)
  | (at_builtin; refine wpList_copy_runI _ rfl _ _ 145 145 rfl _ _ rfl rfl (hcpB _ (fun _ => rfl) (fun _ => rfl) _ _ _) ?_))
 go_region_law_o (refine step_copy_runI rfl _ _ 145 145 rfl (.slice (some ⟨w.heap.size, (i + m) * 5, none⟩) (n + m - (i + m)) (G - (i + m))) (.slice (some ⟨b, off + i * 5, none⟩) (n - i) (c - i)) (by simp [Act.eval, Act.put]) (by simp [Act.eval, Act.put]) (hcpB _ hF1 hF2 3 (G - (i + m)) (c - i)) ?_)
 go_wp2
 go_ret
 exact ⟨rfl, rfl⟩
theorem calls_slices_Insert_Limpl_Shape_impl_Shape_mobo (old : Option (Nat × Nat)) (y : Value) (n cap i vb voff m vc : Nat) (cs vs : List Value) (w : World)
  (hold : (old = none /\ n = 0 /\ cap = 0 /\ ∃ ad, y = .slice ad 0 0) \/ ∃ b off C t, old = some (b, off) /\ y = .slice (some ⟨b, off, none⟩) n cap /\ n <= cap /\ w.heap[b]? = some (.cells C t (0, 0)) /\ off + cap * 5 <= C.size /\ (∀ (q : Nat) u, C[q]? = some u -> u.oneCell' = true) /\ (∀ q, q < n * 5 -> C[off + q]? = cs[q]?) /\ vb ≠ b)
  (hi : i <= n) (hm : 0 < m) (hbig : (n + m) * 40 <= 140737488355328) (hcl : cs.length = n * 5) (hvl : vs.length = m * 5) (hvb : ∃ C2 t2, w.heap[vb]? = some (.cells C2 t2 (0, 0)) /\ ∀ q, q < m * 5 -> C2[voff + q]? = vs[q]?) (h1c : ∀ u ∈ cs, u.oneCell' = true) (h1v : ∀ u ∈ vs, u.oneCell' = true) :
  Calls Tryz.prog 121 #[y, .int .i64 i, .slice (some ⟨vb, voff, none⟩) m vc] w (Inserted w old 5 (n + m) (cs.take (i * 5) ++ vs ++ cs.drop (i * 5))) := by
 obtain ⟨C2, t2, hC2, hvs⟩ := hvb
 have hvcell : ∀ j v, vs[j]? = some v -> w.cell? ⟨vb, voff + j, none⟩ = some v := fun j v h => by
  rw [cell_at hC2, hvs j (by have := (List.getElem?_eq_some_iff.1 h).1; omega)]; exact h
 have hz5 : d49.zero.cells.size = 5 := by kernel_rfl
 have hz1 : ∀ k, ∀ v ∈ (Builtin.zeroCells d49.zero.cells k).toList, v.oneCell' = true := fun k => zeroCells_one _ (fun v hv => by
  have := Array.all_eq_true_iff_forall_mem.1 (show d49.zero.cells.all Value.oneCell' = true by kernel_rfl) v hv
  exact this) _
 have hzn : ∀ k, (Builtin.zeroCells d49.zero.cells k).size = k * 5 := fun k => by rw [size_zeroCells, hz5]
 rcases hold with ⟨ho, h0, hc, ad, rfl⟩ | ⟨b, off, C, t, ho, rfl, hnc, hC, hCs, h1C, hcs, hne⟩
 ·subst h0; subst hc
  obtain rfl : i = 0 := by omega
  have hcs0 : cs = [] := List.length_eq_zero_iff.1 (by omega)
  subst hcs0
  refine (ins_end_grow_slices_Insert_Limpl_Shape_impl_Shape_mobo ad 0 0 vb voff m vc [] vs w hm (Nat.le_refl _) (by omega) hbig hcl hvl (fun _ => rfl) (fun a _ j v h => by simp at h) hvcell h1v).mono ?_
  rintro e w' ⟨rfl, rfl⟩
  exact ins_post_endgrow hcl hvl h1v h1c (grownCap_ge _ _ _ _) (hzn _) (hz1 _)
 ·subst ho
  have hccell : ∀ j v, cs[j]? = some v -> w.cell? ⟨b, off + j, none⟩ = some v := fun j v h => by
   rw [cell_at hC, hcs j (by have := (List.getElem?_eq_some_iff.1 h).1; omega)]; exact h
  by_cases hroom : n + m <= cap
  ·have hsp : ∀ j, j < (n + m) * 5 -> (w.cell? ⟨b, off + j, none⟩).isSome = true := fun j hj => by
    rw [cell_at hC, Array.getElem?_eq_getElem (by omega)]; rfl
   by_cases hin : i = n
   ·subst hin
    refine (ins_end_room_slices_Insert_Limpl_Shape_impl_Shape_mobo b off i cap vb voff m vc vs w hm hroom (by omega) hvl (fun j hj => by rw [Nat.add_assoc]; exact hsp _ (by omega)) (fun j hj => frozen_of hC _) hvcell h1v).mono ?_
    rintro e w' ⟨rfl, rfl⟩
    exact ins_post_end hC hCs h1C hcs hcl hvl h1v hroom
   ·refine (ins_shift_slices_Insert_Limpl_Shape_impl_Shape_mobo b off n cap i vb voff m vc cs vs w (by omega) hm hroom (by omega) hne hcl hvl hccell hsp (fun j hj => frozen_of hC _) hvcell h1c h1v t2 t C2.size C.size (by simp [World.shape?, hC2]) (by simp [World.shape?, hC]) (by omega) (frozen_of hC2 _) (frozen_of hC2 _)).mono ?_
    rintro e w' ⟨rfl, rfl⟩
    exact ins_post_shift hC hCs h1C hcs hcl hvl h1v h1c hi hroom
  ·by_cases hin : i = n
   ·subst hin
    refine (ins_end_grow_slices_Insert_Limpl_Shape_impl_Shape_mobo (some ⟨b, off, none⟩) i cap vb voff m vc cs vs w hm hnc (by omega) hbig hcl hvl (fun h => by cases h) (fun a h j v hv => by injection h with h; subst h; rw [Addr.add_lit]; exact hccell j v hv) hvcell h1v).mono ?_
    rintro e w' ⟨rfl, rfl⟩
    exact ins_post_endgrow hcl hvl h1v h1c (grownCap_ge _ _ _ _) (hzn _) (hz1 _)
   ·refine (ins_grow_slices_Insert_Limpl_Shape_impl_Shape_mobo b off n cap i vb voff m vc cs vs w (by omega) hm hnc (by omega) hbig hcl hvl hccell hvcell h1c h1v).mono ?_
    rintro e w' ⟨rfl, rfl⟩
    exact ins_post_grow hcl hvl h1v h1c hi (grownCap_ge _ _ _ _) (hzn _) (hzn _) (hz1 _) (hz1 _)
end
/-- slices.Insert[[]loop.example/g00890/impl.Shape,loop.example/g00890/impl.Shape] -/
def Fq28 (a0 : List TS) (a1 : Int) (a2 : List TS) : Option (List TS) :=
 if 0 <= a1 /\ a1 <= (a0.length : Int) /\ 0 < a2.length /\ (a0.length + a2.length) * 40 <= 140737488355328 then some (a0.take a1.toNat ++ a2 ++ a0.drop a1.toNat) else none
theorem runq28 (a0 : List TS) (a1 : Int) (a2 : List TS) (r : List TS) (h : Fq28 a0 a1 a2 = some r) : Fun Tryz.prog 121 [.c (.os 5 0 (len a0)), .c (wi a1), .c (.os 7 0 (len a2))] [(5, .arr .rw [] (len a0) 5 (row gd (eS) a0)), (7, .arr .rw [] (len a2) 5 (row gd (eS) a2))] (.c (.os 64000 0 (len r))) [(64000, .arr .rw [] (len r) 5 (row gd (eS) r))] true := by
 unfold Fq28 at h
 split at h
 ·rename_i h1
  injection h with h
  subst h
  obtain ⟨i, rfl⟩ : ∃ i : Nat, a1 = i := ⟨a1.toNat, by omega⟩
  rw [Int.toNat_natCast]
  have e : len (a0.take i ++ a2 ++ a0.drop i) = len a0 + len a2 := by
   show List.length _ = List.length _ + List.length _
   rw [List.length_append, List.length_append, List.length_take, List.length_drop]; omega
  rw [e]
  exact Fun.insert Tryz.func121 (by kernel_rfl) (by kernel_rfl) 5 40 (fun old y n cap i vb voff m vc cs vs w h1 h2 h3 h4 h5 h6 h7 h8 h9 => calls_slices_Insert_Limpl_Shape_impl_Shape_mobo old y n cap i vb voff m vc cs vs w h1 h2 h3 h4 h5 h6 h7 h8 h9) (len a0) i (len a2) _ _ _ (show i <= a0.length by omega) (show 0 < a2.length by omega) (show (a0.length + a2.length) * 40 <= _ by omega)
   (fun t ht q hq => by
    show eS (gd _ t) q = if t < i then eS (gd a0 t) q else if t < i + a2.length then eS (gd a2 (t - i)) q else eS (gd a0 (t - a2.length)) q
    rw [ins_get a0 a2 i t (by omega)]
    split
    ·rfl
    ·split <;> rfl) (fun t q => plain_nil (val_plain (vl_encShape _ _))) (fun t q => plain_nil (val_plain (vl_encShape _ _))) (fun t q => val_flat (vl_encShape _ _))
 ·cases h

section
open Go.RowKit Go.Lib
set_option maxRecDepth 1000000 in
/-- slices.Delete: the elements behind those that are taken out lie further ahead, the cells behind are emptied -/
theorem calls_slices_Delete_Limpl_Shape_impl_Shape_mobb (blk off cap n i j : Nat) (D : List Value) (w : World) (hlen : D.length = n * 5) (hD : ∀ t u, D[t]? = some u -> w.cell? ⟨blk, off + t, none⟩ = some u) (h1 : ∀ u ∈ D, u.oneCell' = true) (hfz : ∀ t, t < n * 5 -> w.frozen? ⟨blk, off + t, none⟩ = false) (hcap : n <= cap) (hij : i < j) (hj : j <= n) :
  Calls Tryz.prog 201 #[.slice (some ⟨blk, off, none⟩) n cap, .int .i64 i, .int .i64 j] w fun e w' => e = .returned (.slice (some ⟨blk, off, none⟩) (n - (j - i)) cap) /\ ∃ zs : List Value, zs.length = (j - i) * 5 /\ (∀ u ∈ zs, u.oneCell' = true) /\ w' = (w.drew.setCells blk (off + i * 5) (D.drop (j * 5))).setCells blk (off + (i + (n - j)) * 5) zs := by
 obtain ⟨news, hnews⟩ : ∃ news, news = D.drop (j * 5) := ⟨_, rfl⟩
 have hl : news.length = (n - j) * 5 := by rw [hnews, List.length_drop, hlen, Nat.sub_mul]
 obtain ⟨A, hA, hsrc⟩ : ∃ A : Addr, (if cap = j then some (⟨blk, off, none⟩ : Addr) else some ⟨blk, off + j * 5, none⟩) = some A /\ Hid (∀ t u, news[t]? = some u -> w.drew.cell? (A.add t) = some u) := by
  by_cases h : cap = j
  ·refine ⟨⟨blk, off, none⟩, by simp [h], fun t u hu => ?_⟩
   have h00 : n - j = 0 := by omega
   have h0 : news.length = 0 := by rw [hl, h00, Nat.zero_mul]
   rw [List.length_eq_zero_iff.1 h0] at hu
   simp at hu
  ·refine ⟨⟨blk, off + j * 5, none⟩, by simp [h], fun t u hu => ?_⟩
   rw [Addr.add_lit, Nat.add_assoc]
   exact hD _ u (by rw [hnews, List.getElem?_drop] at hu; exact hu)
 have s1 : Hid (news.length = (n - j) * 5) := hl
 have s2 : Hid (∀ u ∈ news, u.oneCell' = true) := fun u hu => h1 u (List.mem_of_mem_drop (by rw [hnews] at hu; exact hu))
 have hex : ∀ t, t < n * 5 -> (w.cell? ⟨blk, off + t, none⟩).isSome = true := fun t ht => by
  rw [hD t (D[t]'(by omega)) (List.getElem?_eq_getElem (by omega))]; rfl
 have s3 : Hid (∀ t, t < news.length -> (w.drew.cell? ⟨blk, off + i * 5 + t, none⟩).isSome = true /\ w.drew.frozen? ⟨blk, off + i * 5 + t, none⟩ = false) := fun t ht => by
  rw [hl] at ht
  rw [Nat.add_assoc]
  exact ⟨hex _ (by omega), hfz _ (by omega)⟩
 obtain ⟨W1, hW1⟩ : ∃ W1, W1 = w.drew.setCells blk (off + i * 5) news := ⟨_, rfl⟩
 have hW : Hid (W1 = w.drew.setCells blk (off + i * 5) news) := hW1
 obtain ⟨z, hz⟩ : ∃ z, z = (Builtin.zeroCells d49.zero.cells (j - i)).toList := ⟨_, rfl⟩
 have hzs : d49.zero.cells.size = 5 := by kernel_rfl
 have hzl : z.length = (j - i) * 5 := by rw [hz, Array.length_toList, size_zeroCells, hzs]
 have hz1 : ∀ v ∈ z, v.oneCell' = true := by
  rw [hz]
  exact zeroCells_one _ (fun v hv => by
   have := Array.all_eq_true_iff_forall_mem.1 (show d49.zero.cells.all Value.oneCell' = true by kernel_rfl) v hv
   exact this) _
 have hcl : ∀ ty, (Builtin.clear_ #[145] ty #[.slice (some ⟨blk, off + (i + (n - j)) * 5, none⟩) (n - (i + (n - j))) (cap - (i + (n - j)))]).run Tryz.prog W1 = .ok (.tuple #[]) (W1.setCells blk (off + (i + (n - j)) * 5) z) := fun ty => by
  have e : n - (i + (n - j)) = j - i := by omega
  rw [e, hz]
  refine run_clear_cells W1 145 49 ty d49.zero (by kernel_rfl) (fun w => ?_) blk _ _ _ (by omega) ?_ ?_ ?_
  ·exact run_zero tok (show T 49 = some d49 from rfl)
  ·rw [<- hz]; exact hz1
  ·intro t ht
   rw [size_zeroCells, hzs] at ht
   rw [hW1, Nat.add_assoc]
   refine isSome_setCells blk _ _ _ (fun q hq => ?_) _ (hex _ ?_)
   ·rw [hl] at hq
    rw [Nat.add_assoc]; exact hex _ (by omega)
   ·omega
  ·intro t ht
   rw [size_zeroCells, hzs] at ht
   rw [hW1, World.frozen?_setCells, Nat.add_assoc]
   exact hfz _ (by omega)
 have hX : Hid (∃ zs : List Value, zs.length = (j - i) * 5 /\ (∀ u ∈ zs, u.oneCell' = true) /\ W1.setCells blk (off + (i + (n - j)) * 5) z = (w.drew.setCells blk (off + i * 5) (D.drop (j * 5))).setCells blk (off + (i + (n - j)) * 5) zs) := ⟨z, hzl, hz1, by rw [hW1, hnews]⟩
 have hic : i <= cap := by omega
 have hjc : j <= cap := by omega
 have hne : ¬ (i = j) := by omega
 have hI : (Tryz.prog.info? 49).map (·.size) = some 5 := by kernel_rfl
 obtain ⟨i0, hi0, hz5⟩ : ∃ i0, Tryz.prog.info? 49 = some i0 /\ i0.size = 5 := by
  cases h : Tryz.prog.info? 49 with
  | none => rw [h] at hI; cases hI
  | some i0 => rw [h] at hI; exact ⟨i0, rfl, by injection hI⟩
 have mixed : Tryz.prog.follows .mixedOrders = true := by kernel_rfl
 clear hW1 hex hzs hnews hl hz hzl hz1 hD h1 hfz
 go_enter Tryz.func201, Tryz.ntmps201
 go_wp2_with fail
 go_region_law_o (refine step_append_room rfl (.tmp 22) (.tmp 25) 145 rfl 49 i0 5 (by kernel_rfl) hi0 hz5 blk off i cap (by simp [Act.eval, Act.put]) A (n - j) (cap - j) news (by simp [Act.eval, Act.put, hA]) s1.out hsrc.out s2.out (by omega) s3.out ?_; rw [<- hW.out])
 go_wp2
 go_ret
 refine ⟨by rw [show n - (j - i) = i + (n - j) by omega]; rfl, hX.out⟩
end
/-- slices.Delete[[]loop.example/g00890/impl.Shape,loop.example/g00890/impl.Shape] -/
def Fq83 (a0 : List TS) (a1 : Int) (a2 : Int) : Option (List TS) :=
 if 0 <= a1 /\ a1 < a2 /\ a2 <= (a0.length : Int) then some (a0.take a1.toNat ++ a0.drop a2.toNat) else none
theorem runq83 (a0 : List TS) (a1 : Int) (a2 : Int) (r : List TS) (h : Fq83 a0 a1 a2 = some r) : Fun Tryz.prog 201 [.c (.os 5 0 (len a0)), .c (wi a1), .c (wi a2)] [(5, .arr .rw [] (len a0) 5 (row gd (eS) a0))] (.c (.os 64000 0 (len r))) [(64000, .arr .rw [] (len r) 5 (row gd (eS) r))] true := by
 unfold Fq83 at h
 split at h
 ·rename_i h1
  injection h with h
  subst h
  obtain ⟨i, rfl⟩ : ∃ i : Nat, a1 = i := ⟨a1.toNat, by omega⟩
  obtain ⟨j, rfl⟩ : ∃ j : Nat, a2 = j := ⟨a2.toNat, by omega⟩
  rw [Int.toNat_natCast, Int.toNat_natCast]
  have e : len (a0.take i ++ a0.drop j) = len a0 - (j - i) := by
   show List.length _ = List.length _ - _
   rw [List.length_append, List.length_take, List.length_drop]; omega
  rw [e]
  exact Fun.delete Tryz.func201 (by kernel_rfl) (by kernel_rfl) 5 (fun blk off cap n i j D w h1 h2 h3 h4 h5 h6 h7 => calls_slices_Delete_Limpl_Shape_impl_Shape_mobb blk off cap n i j D w h1 h2 h3 h4 h5 h6 h7) (len a0) i j _ _ (by omega) (show j <= a0.length by omega)
   (fun t ht q hq => by show eS (gd _ t) q = eS (gd a0 _) q; rw [cut_get a0 i j t (by omega) (by omega)]) (fun t q => plain_nil (val_plain (vl_encShape _ _))) (fun t q => val_flat (vl_encShape _ _))
 ·cases h

/-- impl.Shape] -/
def Fq94 (a0 : List TS) (a1 : Int) : Option (List TS) :=
 (Fq83 a0 a1 (std.add .i64 a1 1)).bind fun y1 =>
 some y1
theorem runq94 (a0 : List TS) (a1 : Int) (r : List TS) (h : Fq94 a0 a1 = some r) : Fun Tryz.prog 122 [.c (.os 5 0 (len a0)), .c (wi a1)] [(5, .arr .rw [] (len a0) 5 (row gd (eS) a0))] (.c (.os 64000 0 (len r))) [(64000, .arr .rw [] (len r) 5 (row gd (eS) r))] true := by
 refine Fun.of_wp (oneOf []) tok mixed Tryz.func122 (by kernel_rfl) rfl Tryz.ntmps122 rfl ⟨fun i _ j _ k hk => (noref (plain_nil (pl_encShape _ _)) hk).elim, tv⟩ (fun _ => ⟨trivial, ⟨fun i _ j _ => val_flat (vl_encShape _ _), tv⟩⟩) ?_; unfold Fq94 at h; have hfq83 := @runq83
 generalize hLEN : @len = LEN, hGD : @gd = GD, hA : std = A, hP : Tryz.prog = P at *; cbv; revert h; refine rb fun y1 hy2 h => ?_; refine rc [(5, 5)] [(64000, 576)] (hfq83 _ _ _ _ hy2) zf ⟨_, rfl, _, _, rfl, fun _ _ _ _ => .refl _, ?_⟩; cbv; injection h with h; subst h
 refine ⟨(sp 10 [(4, .c (.os 64000 0 (LEN y1)))] [(64000, .arr .rw [] (LEN y1) 5 (row GD (eS) y1))]), ?_, ?_⟩
 ·refine St.le_trans (le_ren 576 64000 (by decide) rfl) ?_; exact zb
 ·exact ⟨lR _, ⟨oS, tv⟩, rfl⟩

section
open Go.RowKit Go.Lib
set_option maxRecDepth 1000000 in
theorem ins_shift_slices_Insert_Limpl_Label_impl_Label_mobo (b off n c i vb voff m vc : Nat) (cs vs : List Value) (w : World) (hi : i < n) (hm : 0 < m) (hroom : n + m <= c) (hc63 : n + m <= 9223372036854775807) (hvb : vb ≠ b)
  (hcl : cs.length = n * 4) (hvl : vs.length = m * 4)
  (hcs : ∀ j v, cs[j]? = some v -> w.cell? ⟨b, off + j, none⟩ = some v) (hsp : ∀ j, j < (n + m) * 4 -> (w.cell? ⟨b, off + j, none⟩).isSome = true) (hfz : ∀ j, j < (n + m) * 4 -> w.frozen? ⟨b, off + j, none⟩ = false)
  (hvs : ∀ j v, vs[j]? = some v -> w.cell? ⟨vb, voff + j, none⟩ = some v) (h1c : ∀ v ∈ cs, v.oneCell' = true) (h1v : ∀ v ∈ vs, v.oneCell' = true)
  (tA tB : TypeId) (kA kB : Nat) (hsa : w.shape? vb = some (tA, kA)) (hsb : w.shape? b = some (tB, kB)) (hkB : kB ≠ 0) (hfa : w.frozen? ⟨vb, voff, none⟩ = false) (hfe : w.frozen? ⟨vb, kA, none⟩ = false) :
  Calls Tryz.prog 123 #[.slice (some ⟨b, off, none⟩) n c, .int .i64 i, .slice (some ⟨vb, voff, none⟩) m vc] w fun e w' =>
   e = .returned (.slice (some ⟨b, off, none⟩) (n + m) c) /\ w' = (w.drew.setCells b (off + (i + m) * 4) (cs.drop (i * 4))).setCells b (off + i * 4) vs := by
 have tSl : Tryz.prog.underlying 146 = some (.slice 52) := by kernel_rfl
 have hz1 : ¬ ((m : Int) = 0) := by omega
 have hz2 : ¬ ((i : Int) = (n : Int)) := by omega
 have hsz : (Tryz.prog.info? 52).map (·.size) = some 4 := by kernel_rfl
 have hov : ∀ lb cb, (callFunc 202 #[.slice (some ⟨vb, voff, none⟩) m vc, .slice (some ⟨b, off + (i + m) * 4, none⟩) lb cb]).run Tryz.prog w = .ok (.value (.bool false)) w := fun lb cb => by
  rw [run_callFunc_extern Tryz.func202 (by kernel_rfl) (by kernel_rfl) (by kernel_rfl) (e := Extern.SlicesOverlaps.overlaps #[146, 146] #[4]) (by kernel_rfl),
   Lib.run_overlaps_apart w 146 4 52 tSl 4 (fun w => run_sizeOf tok (show T 52 = some d52 from rfl)) ⟨vb, voff, none⟩ ⟨b, off + (i + m) * 4, none⟩ m vc lb cb hvb tA tB kA kB hsa hsb hkB hfa hfe]
  rfl
 have hdl : (cs.drop (i * 4)).length = (n - i) * 4 := by rw [List.length_drop, hcl, Nat.sub_mul]
 have mixed : Tryz.prog.follows .mixedOrders = true := by kernel_rfl
 have hw1 : IntKind.i64.wrap ((i : Int) + (m : Int)) = (i : Int) + (m : Int) := by rw [IntKind.wrap_i64]; omega
 have hb1 : (0 : Int) <= (i : Int) + (m : Int) := by omega
 have hin : i <= n := by omega
 have htn : ((i : Int) + (m : Int)).toNat = i + m := by omega
 have hb2 : ¬ (c = i + m) := by omega
 have hb3 : (i : Int) <= (n : Int) + (m : Int) := by omega
 have hb4 : ¬ (c = i) := by omega
 have hcp1 : ∀ ty dc sc, (Builtin.copy_ #[146, 146] ty #[.slice (some ⟨b, off + (i + m) * 4, none⟩) (n + m - (i + m)) dc, .slice (some ⟨b, off + i * 4, none⟩) (n + m - i) sc]).run Tryz.prog w.drew = .ok (goInt (Nat.min (n + m - i) (n + m - (i + m)))) (w.drew.setCells b (off + (i + m) * 4) (cs.drop (i * 4))) := fun ty dc sc =>
  run_copy_cellsN 4 w.drew _ _ ty 52 b (off + (i + m) * 4) (n + m - (i + m)) dc ⟨b, off + i * 4, none⟩ (n + m - i) sc (cs.drop (i * 4)) tSl hsz (by rw [hdl, show Nat.min (n + m - i) (n + m - (i + m)) = n - i by simp only [Nat.min_def]; split <;> omega])
   (fun j v hj => by rw [Addr.add_lit, Nat.add_assoc]; exact hcs (i * 4 + j) v (by rwa [List.getElem?_drop] at hj))
   (fun j hj => by rw [Nat.add_assoc]; exact hsp _ (by omega)) (fun j hj => by rw [Nat.add_assoc]; exact hfz _ (by omega)) (fun v hv => h1c v (List.mem_of_mem_drop hv))
 obtain ⟨W1, hW1⟩ : ∃ W1, W1 = w.drew.setCells b (off + (i + m) * 4) (cs.drop (i * 4)) := ⟨_, rfl⟩
 have hsp1 : ∀ k, k < (n + m) * 4 -> (W1.cell? ⟨b, off + k, none⟩).isSome = true := fun k hk => by
  rw [hW1]
  exact isSome_setCells b _ _ _ (fun j hj => by rw [Nat.add_assoc]; exact hsp _ (by omega)) _ (hsp k hk)
 have hcp2 : ∀ (W : World), (∀ x, W.cell? x = W1.cell? x) -> (∀ x, W.frozen? x = W1.frozen? x) -> ∀ ty dc, (Builtin.copy_ #[146, 146] ty #[.slice (some ⟨b, off + i * 4, none⟩) (n + m - i) dc, .slice (some ⟨vb, voff, none⟩) m vc]).run Tryz.prog W = .ok (goInt (Nat.min m (n + m - i))) (W.setCells b (off + i * 4) vs) := fun W hWc hWf ty dc =>
  run_copy_cellsN 4 W _ _ ty 52 b (off + i * 4) (n + m - i) dc ⟨vb, voff, none⟩ m vc vs tSl hsz (by rw [hvl, show Nat.min m (n + m - i) = m by simp only [Nat.min_def]; split <;> omega])
   (fun j v hj => by
    rw [Addr.add_lit, hWc, hW1, World.cell?_setCells_out b _ _ _ _ (fun h _ => absurd h hvb)]
    exact hvs j v hj)
   (fun j hj => by rw [hWc, Nat.add_assoc]; exact hsp1 _ (by omega)) (fun j hj => by rw [hWf, hW1, World.frozen?_setCells, Nat.add_assoc]; exact hfz _ (by omega)) h1v
 rw [<- hW1] at hcp1
 clear hsp hfz hcs hvs h1c h1v
 go_enter Tryz.func123, Tryz.ntmps123
 go_wp2_with (simp only [hov])
 go_region_law_o (refine step_copy_runI rfl _ _ 146 146 rfl _ _ (by simp [Act.eval, Act.put]) (by simp [Act.eval, Act.put]) (hcp1 _ _ _) ?_)
 go_wp2_with (at_builtin; refine wpList_copy_runI _ rfl _ _ 146 146 rfl _ _ rfl rfl (hcp2 _ (fun _ => rfl) (fun _ => rfl) _ _) ?_)
 go_ret
 first | exact ⟨rfl, rfl⟩ | exact ⟨rfl, by rw [hW1]⟩
set_option maxRecDepth 1000000 in
theorem ins_end_room_slices_Insert_Limpl_Label_impl_Label_mobo (b off n c vb voff m vc : Nat) (vs : List Value) (w : World) (hm : 0 < m) (hroom : n + m <= c) (hc63 : n + m <= 9223372036854775807)
  (hvl : vs.length = m * 4) (hsp : ∀ j, j < m * 4 -> (w.cell? ⟨b, off + n * 4 + j, none⟩).isSome = true) (hfz : ∀ j, j < m * 4 -> w.frozen? ⟨b, off + n * 4 + j, none⟩ = false)
  (hvs : ∀ j v, vs[j]? = some v -> w.cell? ⟨vb, voff + j, none⟩ = some v) (h1v : ∀ v ∈ vs, v.oneCell' = true) :
  Calls Tryz.prog 123 #[.slice (some ⟨b, off, none⟩) n c, .int .i64 n, .slice (some ⟨vb, voff, none⟩) m vc] w fun e w' =>
   e = .returned (.slice (some ⟨b, off, none⟩) (n + m) c) /\ w' = w.setCells b (off + n * 4) vs := by
 have tSl : Tryz.prog.underlying 146 = some (.slice 52) := by kernel_rfl
 have mixed : Tryz.prog.follows .mixedOrders = true := by kernel_rfl
 have hI : (Tryz.prog.info? 52).map (·.size) = some 4 := by kernel_rfl
 obtain ⟨i0, hi0, hz5⟩ : ∃ i0, Tryz.prog.info? 52 = some i0 /\ i0.size = 4 := by
  cases h : Tryz.prog.info? 52 with
  | none => rw [h] at hI; cases hI
  | some i0 => rw [h] at hI; exact ⟨i0, rfl, by injection hI⟩
 have hz1 : ¬ ((m : Int) = 0) := by omega
 have hsrc : Src Tryz.prog i0.size 146 (.slice (some ⟨vb, voff, none⟩) m vc) m vs w := Src.ofSlice w tSl ⟨vb, voff, none⟩ m vc vs (by rw [hz5]; exact hvl) (fun j u hj => by rw [Addr.add_lit]; exact hvs j u hj) h1v
 have s1 : Hid (∀ j, j < vs.length -> (w.cell? ⟨b, off + n * i0.size + j, none⟩).isSome = true) := by rw [hvl, hz5]; exact hsp
 have s2 : Hid (∀ j, j < vs.length -> w.frozen? ⟨b, off + n * i0.size + j, none⟩ = false) := by rw [hvl, hz5]; exact hfz
 clear hsp hfz hvs
 go_enter Tryz.func123, Tryz.ntmps123
 go_wp2_with (at_builtin; refine wpList_append_room_src _ rfl _ _ 146 146 rfl 52 i0 tSl hi0 b off n c rfl _ rfl m vs hsrc hroom s1.out s2.out ?_)
 go_ret
 exact ⟨rfl, rfl⟩
set_option maxRecDepth 1000000 in
theorem ins_end_grow_slices_Insert_Limpl_Label_impl_Label_mobo (base : Option Addr) (n c vb voff m vc : Nat) (cs vs : List Value) (w : World) (hm : 0 < m) (hnc : n <= c) (hroom : c < n + m) (hbig : (n + m) * 40 <= 140737488355328)
  (hcl : cs.length = n * 4) (hvl : vs.length = m * 4) (hnil : base = none -> n = 0)
  (hcs : ∀ a, base = some a -> ∀ j v, cs[j]? = some v -> w.cell? (a.add j) = some v)
  (hvs : ∀ j v, vs[j]? = some v -> w.cell? ⟨vb, voff + j, none⟩ = some v) (h1v : ∀ v ∈ vs, v.oneCell' = true) :
  Calls Tryz.prog 123 #[.slice base n c, .int .i64 n, .slice (some ⟨vb, voff, none⟩) m vc] w fun e w' =>
   e = .returned (.slice (some ⟨w.heap.size, 0, none⟩) (n + m) (grownCap w (n + m) c 52)) /\
   w' = w.drew.alloc (.cells ((cs ++ vs).toArray ++ Builtin.zeroCells d52.zero.cells (grownCap w (n + m) c 52 - (n + m))) 52) := by
 have tSl : Tryz.prog.underlying 146 = some (.slice 52) := by kernel_rfl
 have mixed : Tryz.prog.follows .mixedOrders = true := by kernel_rfl
 obtain ⟨i0, hi0, hzs, hzb, hz0⟩ := (tok 52 d52 rfl).2.1
 have hzs : i0.size = 4 := hzs
 have hzb : i0.bytes = 40 := hzb
 have hz1 : ¬ ((m : Int) = 0) := by omega
 have hsrc : Src Tryz.prog i0.size 146 (.slice (some ⟨vb, voff, none⟩) m vc) m vs w := Src.ofSlice w tSl ⟨vb, voff, none⟩ m vc vs (by rw [hzs]; exact hvl) (fun j u hj => by rw [Addr.add_lit]; exact hvs j u hj) h1v
 have hold : (Builtin.firstCells i0.size n (.slice base n c)).run Tryz.prog w.drew = .ok cs.toArray w.drew := by
  rw [hzs]
  cases base with
  | none =>
   have h0 := hnil rfl
   subst h0
   have hc0 : cs.length = 0 := by rw [hcl, Nat.zero_mul]
   rw [List.length_eq_zero_iff.1 hc0]
   exact run_firstCells_none w.drew 4 0 0 c
  | some a => exact run_firstCells_some w.drew 4 n a n c cs hcl (fun j v hj => hcs a rfl j v hj)
 have hrun : ∀ ty, (Builtin.append_ #[146, 146] ty #[.slice base n c, .slice (some ⟨vb, voff, none⟩) m vc]).run Tryz.prog w = _ := fun ty =>
  run_append_grow_src w 146 146 ty 52 i0 _ tSl hi0 hz0 base n c cs hold _ m vs hsrc hroom (by omega) (by rw [hzb]; exact growslice_fits hroom hbig)
 go_enter Tryz.func123, Tryz.ntmps123
 cases base with
 | none =>
  have h0 := hnil rfl
  subst h0
  go_wp2_with (at_builtin; refine Lib.wpList_append_run _ rfl _ _ _ _ rfl _ _ rfl rfl _ _ (hrun _) ?_)
  go_ret
  exact ⟨rfl, rfl⟩
 | some a =>
  obtain ⟨ab, ao, asp⟩ := a
  go_wp2_with (at_builtin; refine Lib.wpList_append_run _ rfl _ _ _ _ rfl _ _ rfl rfl _ _ (hrun _) ?_)
  all_goals (go_ret; exact ⟨rfl, rfl⟩)
set_option maxRecDepth 1000000 in
theorem ins_grow_slices_Insert_Limpl_Label_impl_Label_mobo (b off n c i vb voff m vc : Nat) (cs vs : List Value) (w : World) (hi : i < n) (hm : 0 < m) (hnc : n <= c) (hroom : c < n + m) (hbig : (n + m) * 40 <= 140737488355328)
  (hcl : cs.length = n * 4) (hvl : vs.length = m * 4)
  (hcs : ∀ j v, cs[j]? = some v -> w.cell? ⟨b, off + j, none⟩ = some v)
  (hvs : ∀ j v, vs[j]? = some v -> w.cell? ⟨vb, voff + j, none⟩ = some v) (h1c : ∀ v ∈ cs, v.oneCell' = true) (h1v : ∀ v ∈ vs, v.oneCell' = true) :
  Calls Tryz.prog 123 #[.slice (some ⟨b, off, none⟩) n c, .int .i64 i, .slice (some ⟨vb, voff, none⟩) m vc] w fun e w' =>
   e = .returned (.slice (some ⟨w.heap.size, 0, none⟩) (n + m) (grownCap w (n + m) c 52)) /\
   w' = (((w.alloc (.cells ((cs.take (i * 4)).toArray ++ Builtin.zeroCells d52.zero.cells (n + m - i) ++ Builtin.zeroCells d52.zero.cells (grownCap w (n + m) c 52 - (n + m))) 52)).drew.setCells w.heap.size (i * 4) vs).drew).setCells w.heap.size ((i + m) * 4) (cs.drop (i * 4)) := by
 have tSl : Tryz.prog.underlying 146 = some (.slice 52) := by kernel_rfl
 have t3 : Tryz.prog.underlying 3 = some (.int .i64) := by kernel_rfl
 have mixed : Tryz.prog.follows .mixedOrders = true := by kernel_rfl
 obtain ⟨i0, hi0, hzs, hzb, hz0⟩ := (tok 52 d52 rfl).2.1
 have hzs : i0.size = 4 := hzs
 have hzb : i0.bytes = 40 := hzb
 have hz5 : d52.zero.cells.size = 4 := by kernel_rfl
 have hz1 : ¬ ((m : Int) = 0) := by omega
 have hz2 : ¬ ((i : Int) = (n : Int)) := by omega
 have hz3 : (c : Int) < (n : Int) + (m : Int) := by omega
 have hsz : (Tryz.prog.info? 52).map (·.size) = some 4 := by rw [hi0]; simp [hzs]
 have hbw : b < w.heap.size := block_lt_of_cell (hcs 0 _ (List.getElem?_eq_getElem (by omega)))
 have hvw : vb < w.heap.size := block_lt_of_cell (hvs 0 _ (List.getElem?_eq_getElem (by omega)))
 have hkk : (n : Int) + (m : Int) - (i : Int) = ((n + m - i : Nat) : Int) := by omega
 have hik : i + (n + m - i) = n + m := by omega
 have htl : (cs.take (i * 4)).length = i * 4 := by rw [List.length_take, hcl]; omega
 have hold : (Builtin.firstCells i0.size i (.slice (some ⟨b, off, none⟩) i c)).run Tryz.prog w.drew = .ok (cs.take (i * 4)).toArray w.drew := by
  rw [hzs]
  exact run_firstCells_some w.drew 4 i ⟨b, off, none⟩ i c (cs.take (i * 4)) htl (fun j v hj => by
   rw [Addr.add_lit]
   rw [List.getElem?_take] at hj
   split at hj
   ·exact hcs j v hj
   ·cases hj)
 have hrz : ∀ ty, (Builtin.append_ #[146, 3] ty #[.slice (some ⟨b, off, none⟩) i c, .int .i64 ((n : Int) + (m : Int) - (i : Int))]).run Tryz.prog w =
   .ok (.slice (some ⟨w.heap.size, 0, none⟩) (n + m) (grownCap w (n + m) c 52)) (w.drew.alloc (.cells ((cs.take (i * 4)).toArray ++ Builtin.zeroCells d52.zero.cells (n + m - i) ++ Builtin.zeroCells d52.zero.cells (grownCap w (n + m) c 52 - (n + m))) 52)) := fun ty => by
  have h := Lib.run_append_grow_zeros w 146 3 ty 52 i0 _ .i64 .i64 tSl t3 hi0 hz0 (some ⟨b, off, none⟩) i c (cs.take (i * 4)) hold (n + m - i) (by omega) (by omega) (by omega) (by omega) (by rw [hzb]; omega) (by rw [hzb, hik]; exact growslice_fits hroom hbig)
  rw [hik] at h
  rw [hkk]
  exact h
 obtain ⟨G, hG⟩ : ∃ G, G = grownCap w (n + m) c 52 := ⟨_, rfl⟩
 obtain ⟨ROW, hROW⟩ : ∃ ROW : Array Value, ROW = (cs.take (i * 4)).toArray ++ Builtin.zeroCells d52.zero.cells (n + m - i) ++ Builtin.zeroCells d52.zero.cells (G - (n + m)) := ⟨_, rfl⟩
 rw [<- hG] at hrz ⊢
 rw [<- hROW] at hrz ⊢
 have hRl : (n + m) * 4 <= ROW.size := by
  rw [hROW, Array.size_append, Array.size_append, size_zeroCells, size_zeroCells, hz5, List.size_toArray, htl]
  omega
 obtain ⟨W1, hW1⟩ : ∃ W1, W1 = w.drew.alloc (.cells ROW 52) := ⟨_, rfl⟩
 rw [<- hW1] at hrz
 have hN : ∀ j, j < (n + m) * 4 -> (W1.cell? ⟨w.heap.size, j, none⟩).isSome = true := fun j hj => by
  rw [hW1, World.cell?_alloc_at (w := w.drew) ROW _ w.heap.size j rfl, Array.getElem?_eq_getElem (by omega)]; rfl
 have hNf : ∀ j, W1.frozen? ⟨w.heap.size, j, none⟩ = false := fun j => by rw [hW1]; exact World.frozen?_alloc_at (w := w.drew) ROW _ w.heap.size j rfl
 have hOb : ∀ j v, w.cell? ⟨b, j, none⟩ = some v -> W1.cell? ⟨b, j, none⟩ = some v := fun j v h => by rw [hW1, World.cell?_alloc_past (w := w.drew) _ b j hbw]; exact h
 have hOv : ∀ j v, w.cell? ⟨vb, j, none⟩ = some v -> W1.cell? ⟨vb, j, none⟩ = some v := fun j v h => by rw [hW1, World.cell?_alloc_past (w := w.drew) _ vb j hvw]; exact h
 have hcpA : ∀ (W : World), (∀ x, W.cell? x = W1.cell? x) -> (∀ x, W.frozen? x = W1.frozen? x) -> ∀ ty dc, (Builtin.copy_ #[146, 146] ty #[.slice (some ⟨w.heap.size, i * 4, none⟩) (n + m - i) dc, .slice (some ⟨vb, voff, none⟩) m vc]).run Tryz.prog W = .ok (goInt (Nat.min m (n + m - i))) (W.setCells w.heap.size (i * 4) vs) := fun W hWc hWf ty dc =>
  run_copy_cellsN 4 W _ _ ty 52 w.heap.size (i * 4) (n + m - i) dc ⟨vb, voff, none⟩ m vc vs tSl hsz (by rw [hvl, show Nat.min m (n + m - i) = m by simp only [Nat.min_def]; split <;> omega])
   (fun j v hj => by rw [Addr.add_lit, hWc]; exact hOv _ v (hvs j v hj))
   (fun j hj => by rw [hWc]; exact hN _ (by omega)) (fun j hj => by rw [hWf]; exact hNf _) h1v
 have hGn : n + m <= G := by rw [hG]; exact grownCap_ge w _ _ _
 have hG63 : G <= 9223372036854775807 := by
  have := grownCap_le_maxLen w (n + m) c 52 (by unfold maxLen; omega)
  rw [<- hG] at this
  unfold maxLen at this
  omega
 have hGi : ¬ (G = i) := by omega
 have hGim : ¬ (G = i + m) := by omega
 have hci : ¬ (c = i) := by omega
 have hbN : b ≠ w.heap.size := by omega
 have hdl : (cs.drop (i * 4)).length = (n - i) * 4 := by rw [List.length_drop, hcl, Nat.sub_mul]
 have hcpB : ∀ (W : World), (∀ x, W.cell? x = (W1.setCells w.heap.size (i * 4) vs).cell? x) -> (∀ x, W.frozen? x = (W1.setCells w.heap.size (i * 4) vs).frozen? x) -> ∀ ty dc sc, (Builtin.copy_ #[146, 146] ty #[.slice (some ⟨w.heap.size, (i + m) * 4, none⟩) (n + m - (i + m)) dc, .slice (some ⟨b, off + i * 4, none⟩) (n - i) sc]).run Tryz.prog W = .ok (goInt (Nat.min (n - i) (n + m - (i + m)))) (W.setCells w.heap.size ((i + m) * 4) (cs.drop (i * 4))) := fun W hWc hWf ty dc sc =>
  run_copy_cellsN 4 W _ _ ty 52 w.heap.size ((i + m) * 4) (n + m - (i + m)) dc ⟨b, off + i * 4, none⟩ (n - i) sc (cs.drop (i * 4)) tSl hsz (by rw [hdl, show Nat.min (n - i) (n + m - (i + m)) = n - i by simp only [Nat.min_def]; split <;> omega])
   (fun j v hj => by
    rw [Addr.add_lit, hWc, World.cell?_setCells_out _ _ _ _ _ (fun h _ => absurd h hbN), Nat.add_assoc]
    exact hOb _ v (hcs (i * 4 + j) v (by rwa [List.getElem?_drop] at hj)))
   (fun j hj => by rw [hWc]; exact isSome_setCells _ _ _ _ (fun t ht => hN _ (by omega)) _ (hN _ (by omega)))
   (fun j hj => by rw [hWf, World.frozen?_setCells]; exact hNf _) (fun v hv => h1c v (List.mem_of_mem_drop hv))
 subst hW1
 have hE1 : ∀ x, ((w.alloc (.cells ROW 52)).drew).cell? x = (w.drew.alloc (.cells ROW 52)).cell? x := fun x => rfl
 have hE2 : ∀ x, ((w.alloc (.cells ROW 52)).drew).frozen? x = (w.drew.alloc (.cells ROW 52)).frozen? x := fun x => rfl
 have hF1 : ∀ x, (((w.alloc (.cells ROW 52)).drew.setCells w.heap.size (i * 4) vs).drew).cell? x = ((w.drew.alloc (.cells ROW 52)).setCells w.heap.size (i * 4) vs).cell? x := fun x => rfl
 have hF2 : ∀ x, (((w.alloc (.cells ROW 52)).drew.setCells w.heap.size (i * 4) vs).drew).frozen? x = ((w.drew.alloc (.cells ROW 52)).setCells w.heap.size (i * 4) vs).frozen? x := fun x => rfl
 have hw1 : IntKind.i64.wrap ((i : Int) + (m : Int)) = (i : Int) + (m : Int) := by rw [IntKind.wrap_i64]; omega
 have hb1 : (0 : Int) <= (i : Int) + (m : Int) := by omega
 have hin : i <= n := by omega
 have htn : ((i : Int) + (m : Int)).toNat = i + m := by omega
 have hb3 : (i : Int) <= (n : Int) := by omega
 clear hkk hik hold hROW hG hRl hcs hvs h1c h1v hN hNf hOb hOv htl hdl
 go_enter Tryz.func123, Tryz.ntmps123
 go_wp2_with (first
  | (at_builtin; refine Lib.wpList_append_run _ rfl _ _ _ _ rfl _ _ rfl rfl _ _ (hrz _) ?_)
  | (at_builtin; refine wpList_copy_runI _ rfl _ _ 146 146 rfl _ _ rfl rfl (hcpA _ hE1 hE2 _ _) ?_)
  | (at_builtin; refine wpList_copy_runI _ rfl _ _ 146 146 rfl _ _ rfl rfl (hcpB _ (fun _ => rfl) (fun _ => rfl) _ _ _) ?_))
 go_region_law_o (refine step_copy_runI rfl _ _ 146 146 rfl (.slice (some ⟨w.heap.size, (i + m) * 4, none⟩) (n + m - (i + m)) (G - (i + m))) (.slice (some ⟨b, off + i * 4, none⟩) (n - i) (c - i)) (by simp [Act.eval, Act.put]) (by simp [Act.eval, Act.put]) (hcpB _ hF1 hF2 3 (G - (i + m)) (c - i)) ?_)
 go_wp2
 go_ret
 exact ⟨rfl, rfl⟩
theorem calls_slices_Insert_Limpl_Label_impl_Label_mobo (old : Option (Nat × Nat)) (y : Value) (n cap i vb voff m vc : Nat) (cs vs : List Value) (w : World)
  (hold : (old = none /\ n = 0 /\ cap = 0 /\ ∃ ad, y = .slice ad 0 0) \/ ∃ b off C t, old = some (b, off) /\ y = .slice (some ⟨b, off, none⟩) n cap /\ n <= cap /\ w.heap[b]? = some (.cells C t (0, 0)) /\ off + cap * 4 <= C.size /\ (∀ (q : Nat) u, C[q]? = some u -> u.oneCell' = true) /\ (∀ q, q < n * 4 -> C[off + q]? = cs[q]?) /\ vb ≠ b)
  (hi : i <= n) (hm : 0 < m) (hbig : (n + m) * 40 <= 140737488355328) (hcl : cs.length = n * 4) (hvl : vs.length = m * 4) (hvb : ∃ C2 t2, w.heap[vb]? = some (.cells C2 t2 (0, 0)) /\ ∀ q, q < m * 4 -> C2[voff + q]? = vs[q]?) (h1c : ∀ u ∈ cs, u.oneCell' = true) (h1v : ∀ u ∈ vs, u.oneCell' = true) :
  Calls Tryz.prog 123 #[y, .int .i64 i, .slice (some ⟨vb, voff, none⟩) m vc] w (Inserted w old 4 (n + m) (cs.take (i * 4) ++ vs ++ cs.drop (i * 4))) := by
 obtain ⟨C2, t2, hC2, hvs⟩ := hvb
 have hvcell : ∀ j v, vs[j]? = some v -> w.cell? ⟨vb, voff + j, none⟩ = some v := fun j v h => by
  rw [cell_at hC2, hvs j (by have := (List.getElem?_eq_some_iff.1 h).1; omega)]; exact h
 have hz5 : d52.zero.cells.size = 4 := by kernel_rfl
 have hz1 : ∀ k, ∀ v ∈ (Builtin.zeroCells d52.zero.cells k).toList, v.oneCell' = true := fun k => zeroCells_one _ (fun v hv => by
  have := Array.all_eq_true_iff_forall_mem.1 (show d52.zero.cells.all Value.oneCell' = true by kernel_rfl) v hv
  exact this) _
 have hzn : ∀ k, (Builtin.zeroCells d52.zero.cells k).size = k * 4 := fun k => by rw [size_zeroCells, hz5]
 rcases hold with ⟨ho, h0, hc, ad, rfl⟩ | ⟨b, off, C, t, ho, rfl, hnc, hC, hCs, h1C, hcs, hne⟩
 ·subst h0; subst hc
  obtain rfl : i = 0 := by omega
  have hcs0 : cs = [] := List.length_eq_zero_iff.1 (by omega)
  subst hcs0
  refine (ins_end_grow_slices_Insert_Limpl_Label_impl_Label_mobo ad 0 0 vb voff m vc [] vs w hm (Nat.le_refl _) (by omega) hbig hcl hvl (fun _ => rfl) (fun a _ j v h => by simp at h) hvcell h1v).mono ?_
  rintro e w' ⟨rfl, rfl⟩
  exact ins_post_endgrow hcl hvl h1v h1c (grownCap_ge _ _ _ _) (hzn _) (hz1 _)
 ·subst ho
  have hccell : ∀ j v, cs[j]? = some v -> w.cell? ⟨b, off + j, none⟩ = some v := fun j v h => by
   rw [cell_at hC, hcs j (by have := (List.getElem?_eq_some_iff.1 h).1; omega)]; exact h
  by_cases hroom : n + m <= cap
  ·have hsp : ∀ j, j < (n + m) * 4 -> (w.cell? ⟨b, off + j, none⟩).isSome = true := fun j hj => by
    rw [cell_at hC, Array.getElem?_eq_getElem (by omega)]; rfl
   by_cases hin : i = n
   ·subst hin
    refine (ins_end_room_slices_Insert_Limpl_Label_impl_Label_mobo b off i cap vb voff m vc vs w hm hroom (by omega) hvl (fun j hj => by rw [Nat.add_assoc]; exact hsp _ (by omega)) (fun j hj => frozen_of hC _) hvcell h1v).mono ?_
    rintro e w' ⟨rfl, rfl⟩
    exact ins_post_end hC hCs h1C hcs hcl hvl h1v hroom
   ·refine (ins_shift_slices_Insert_Limpl_Label_impl_Label_mobo b off n cap i vb voff m vc cs vs w (by omega) hm hroom (by omega) hne hcl hvl hccell hsp (fun j hj => frozen_of hC _) hvcell h1c h1v t2 t C2.size C.size (by simp [World.shape?, hC2]) (by simp [World.shape?, hC]) (by omega) (frozen_of hC2 _) (frozen_of hC2 _)).mono ?_
    rintro e w' ⟨rfl, rfl⟩
    exact ins_post_shift hC hCs h1C hcs hcl hvl h1v h1c hi hroom
  ·by_cases hin : i = n
   ·subst hin
    refine (ins_end_grow_slices_Insert_Limpl_Label_impl_Label_mobo (some ⟨b, off, none⟩) i cap vb voff m vc cs vs w hm hnc (by omega) hbig hcl hvl (fun h => by cases h) (fun a h j v hv => by injection h with h; subst h; rw [Addr.add_lit]; exact hccell j v hv) hvcell h1v).mono ?_
    rintro e w' ⟨rfl, rfl⟩
    exact ins_post_endgrow hcl hvl h1v h1c (grownCap_ge _ _ _ _) (hzn _) (hz1 _)
   ·refine (ins_grow_slices_Insert_Limpl_Label_impl_Label_mobo b off n cap i vb voff m vc cs vs w (by omega) hm hnc (by omega) hbig hcl hvl hccell hvcell h1c h1v).mono ?_
    rintro e w' ⟨rfl, rfl⟩
    exact ins_post_grow hcl hvl h1v h1c hi (grownCap_ge _ _ _ _) (hzn _) (hzn _) (hz1 _) (hz1 _)
end
/-- slices.Insert[[]loop.example/g00890/impl.Label,loop.example/g00890/impl.Label] -/
def Fq32 (a0 : List TB) (a1 : Int) (a2 : List TB) : Option (List TB) :=
 if 0 <= a1 /\ a1 <= (a0.length : Int) /\ 0 < a2.length /\ (a0.length + a2.length) * 40 <= 140737488355328 then some (a0.take a1.toNat ++ a2 ++ a0.drop a1.toNat) else none
theorem runq32 (a0 : List TB) (a1 : Int) (a2 : List TB) (r : List TB) (h : Fq32 a0 a1 a2 = some r) : Fun Tryz.prog 123 [.c (.os 5 0 (len a0)), .c (wi a1), .c (.os 7 0 (len a2))] [(5, .arr .rw [] (len a0) 4 (row gd (eL) a0)), (7, .arr .rw [] (len a2) 4 (row gd (eL) a2))] (.c (.os 64000 0 (len r))) [(64000, .arr .rw [] (len r) 4 (row gd (eL) r))] true := by
 unfold Fq32 at h
 split at h
 ·rename_i h1
  injection h with h
  subst h
  obtain ⟨i, rfl⟩ : ∃ i : Nat, a1 = i := ⟨a1.toNat, by omega⟩
  rw [Int.toNat_natCast]
  have e : len (a0.take i ++ a2 ++ a0.drop i) = len a0 + len a2 := by
   show List.length _ = List.length _ + List.length _
   rw [List.length_append, List.length_append, List.length_take, List.length_drop]; omega
  rw [e]
  exact Fun.insert Tryz.func123 (by kernel_rfl) (by kernel_rfl) 4 40 (fun old y n cap i vb voff m vc cs vs w h1 h2 h3 h4 h5 h6 h7 h8 h9 => calls_slices_Insert_Limpl_Label_impl_Label_mobo old y n cap i vb voff m vc cs vs w h1 h2 h3 h4 h5 h6 h7 h8 h9) (len a0) i (len a2) _ _ _ (show i <= a0.length by omega) (show 0 < a2.length by omega) (show (a0.length + a2.length) * 40 <= _ by omega)
   (fun t ht q hq => by
    show eL (gd _ t) q = if t < i then eL (gd a0 t) q else if t < i + a2.length then eL (gd a2 (t - i)) q else eL (gd a0 (t - a2.length)) q
    rw [ins_get a0 a2 i t (by omega)]
    split
    ·rfl
    ·split <;> rfl) (fun t q => plain_nil (val_plain (vl_encLabel _ _))) (fun t q => plain_nil (val_plain (vl_encLabel _ _))) (fun t q => val_flat (vl_encLabel _ _))
 ·cases h
set_option maxHeartbeats 4000000
section
open Go.RowKit Go.Lib
set_option maxRecDepth 1000000 in
/-- slices.Delete: the elements behind those that are taken out lie further ahead, the cells behind are emptied -/
theorem calls_slices_Delete_Limpl_Label_impl_Label_mobb (blk off cap n i j : Nat) (D : List Value) (w : World) (hlen : D.length = n * 4) (hD : ∀ t u, D[t]? = some u -> w.cell? ⟨blk, off + t, none⟩ = some u) (h1 : ∀ u ∈ D, u.oneCell' = true) (hfz : ∀ t, t < n * 4 -> w.frozen? ⟨blk, off + t, none⟩ = false) (hcap : n <= cap) (hij : i < j) (hj : j <= n) :
  Calls Tryz.prog 204 #[.slice (some ⟨blk, off, none⟩) n cap, .int .i64 i, .int .i64 j] w fun e w' => e = .returned (.slice (some ⟨blk, off, none⟩) (n - (j - i)) cap) /\ ∃ zs : List Value, zs.length = (j - i) * 4 /\ (∀ u ∈ zs, u.oneCell' = true) /\ w' = (w.drew.setCells blk (off + i * 4) (D.drop (j * 4))).setCells blk (off + (i + (n - j)) * 4) zs := by
 obtain ⟨news, hnews⟩ : ∃ news, news = D.drop (j * 4) := ⟨_, rfl⟩
 have hl : news.length = (n - j) * 4 := by rw [hnews, List.length_drop, hlen, Nat.sub_mul]
 obtain ⟨A, hA, hsrc⟩ : ∃ A : Addr, (if cap = j then some (⟨blk, off, none⟩ : Addr) else some ⟨blk, off + j * 4, none⟩) = some A /\ Hid (∀ t u, news[t]? = some u -> w.drew.cell? (A.add t) = some u) := by
  by_cases h : cap = j
  ·refine ⟨⟨blk, off, none⟩, by simp [h], fun t u hu => ?_⟩
   have h00 : n - j = 0 := by omega
   have h0 : news.length = 0 := by rw [hl, h00, Nat.zero_mul]
   rw [List.length_eq_zero_iff.1 h0] at hu
   simp at hu
  ·refine ⟨⟨blk, off + j * 4, none⟩, by simp [h], fun t u hu => ?_⟩
   rw [Addr.add_lit, Nat.add_assoc]
   exact hD _ u (by rw [hnews, List.getElem?_drop] at hu; exact hu)
 have s1 : Hid (news.length = (n - j) * 4) := hl
 have s2 : Hid (∀ u ∈ news, u.oneCell' = true) := fun u hu => h1 u (List.mem_of_mem_drop (by rw [hnews] at hu; exact hu))
 have hex : ∀ t, t < n * 4 -> (w.cell? ⟨blk, off + t, none⟩).isSome = true := fun t ht => by
  rw [hD t (D[t]'(by omega)) (List.getElem?_eq_getElem (by omega))]; rfl
 have s3 : Hid (∀ t, t < news.length -> (w.drew.cell? ⟨blk, off + i * 4 + t, none⟩).isSome = true /\ w.drew.frozen? ⟨blk, off + i * 4 + t, none⟩ = false) := fun t ht => by
  rw [hl] at ht
  rw [Nat.add_assoc]
  exact ⟨hex _ (by omega), hfz _ (by omega)⟩
 obtain ⟨W1, hW1⟩ : ∃ W1, W1 = w.drew.setCells blk (off + i * 4) news := ⟨_, rfl⟩
 have hW : Hid (W1 = w.drew.setCells blk (off + i * 4) news) := hW1
 obtain ⟨z, hz⟩ : ∃ z, z = (Builtin.zeroCells d52.zero.cells (j - i)).toList := ⟨_, rfl⟩
 have hzs : d52.zero.cells.size = 4 := by kernel_rfl
 have hzl : z.length = (j - i) * 4 := by rw [hz, Array.length_toList, size_zeroCells, hzs]
 have hz1 : ∀ v ∈ z, v.oneCell' = true := by
  rw [hz]
  exact zeroCells_one _ (fun v hv => by
   have := Array.all_eq_true_iff_forall_mem.1 (show d52.zero.cells.all Value.oneCell' = true by kernel_rfl) v hv
   exact this) _
 have hcl : ∀ ty, (Builtin.clear_ #[146] ty #[.slice (some ⟨blk, off + (i + (n - j)) * 4, none⟩) (n - (i + (n - j))) (cap - (i + (n - j)))]).run Tryz.prog W1 = .ok (.tuple #[]) (W1.setCells blk (off + (i + (n - j)) * 4) z) := fun ty => by
  have e : n - (i + (n - j)) = j - i := by omega
  rw [e, hz]
  refine run_clear_cells W1 146 52 ty d52.zero (by kernel_rfl) (fun w => ?_) blk _ _ _ (by omega) ?_ ?_ ?_
  ·exact run_zero tok (show T 52 = some d52 from rfl)
  ·rw [<- hz]; exact hz1
  ·intro t ht
   rw [size_zeroCells, hzs] at ht
   rw [hW1, Nat.add_assoc]
   refine isSome_setCells blk _ _ _ (fun q hq => ?_) _ (hex _ ?_)
   ·rw [hl] at hq
    rw [Nat.add_assoc]; exact hex _ (by omega)
   ·omega
  ·intro t ht
   rw [size_zeroCells, hzs] at ht
   rw [hW1, World.frozen?_setCells, Nat.add_assoc]
   exact hfz _ (by omega)
 have hX : Hid (∃ zs : List Value, zs.length = (j - i) * 4 /\ (∀ u ∈ zs, u.oneCell' = true) /\ W1.setCells blk (off + (i + (n - j)) * 4) z = (w.drew.setCells blk (off + i * 4) (D.drop (j * 4))).setCells blk (off + (i + (n - j)) * 4) zs) := ⟨z, hzl, hz1, by rw [hW1, hnews]⟩
 have hic : i <= cap := by omega
 have hjc : j <= cap := by omega
 have hne : ¬ (i = j) := by omega
 have hI : (Tryz.prog.info? 52).map (·.size) = some 4 := by kernel_rfl
 obtain ⟨i0, hi0, hz5⟩ : ∃ i0, Tryz.prog.info? 52 = some i0 /\ i0.size = 4 := by
  cases h : Tryz.prog.info? 52 with
  | none => rw [h] at hI; cases hI
  | some i0 => rw [h] at hI; exact ⟨i0, rfl, by injection hI⟩
 have mixed : Tryz.prog.follows .mixedOrders = true := by kernel_rfl
 clear hW1 hex hzs hnews hl hz hzl hz1 hD h1 hfz
 go_enter Tryz.func204, Tryz.ntmps204
 go_wp2_with fail
 go_region_law_o (refine step_append_room rfl (.tmp 22) (.tmp 25) 146 rfl 52 i0 4 (by kernel_rfl) hi0 hz5 blk off i cap (by simp [Act.eval, Act.put]) A (n - j) (cap - j) news (by simp [Act.eval, Act.put, hA]) s1.out hsrc.out s2.out (by omega) s3.out ?_; rw [<- hW.out])
 go_wp2
 go_ret
 refine ⟨by rw [show n - (j - i) = i + (n - j) by omega]; rfl, hX.out⟩
end
/-- slices.Delete[[]loop.example/g00890/impl.Label,loop.example/g00890/impl.Label] -/
def Fq87 (a0 : List TB) (a1 : Int) (a2 : Int) : Option (List TB) :=
 if 0 <= a1 /\ a1 < a2 /\ a2 <= (a0.length : Int) then some (a0.take a1.toNat ++ a0.drop a2.toNat) else none
theorem runq87 (a0 : List TB) (a1 : Int) (a2 : Int) (r : List TB) (h : Fq87 a0 a1 a2 = some r) : Fun Tryz.prog 204 [.c (.os 5 0 (len a0)), .c (wi a1), .c (wi a2)] [(5, .arr .rw [] (len a0) 4 (row gd (eL) a0))] (.c (.os 64000 0 (len r))) [(64000, .arr .rw [] (len r) 4 (row gd (eL) r))] true := by
 unfold Fq87 at h
 split at h
 ·rename_i h1
  injection h with h
  subst h
  obtain ⟨i, rfl⟩ : ∃ i : Nat, a1 = i := ⟨a1.toNat, by omega⟩
  obtain ⟨j, rfl⟩ : ∃ j : Nat, a2 = j := ⟨a2.toNat, by omega⟩
  rw [Int.toNat_natCast, Int.toNat_natCast]
  have e : len (a0.take i ++ a0.drop j) = len a0 - (j - i) := by
   show List.length _ = List.length _ - _
   rw [List.length_append, List.length_take, List.length_drop]; omega
  rw [e]
  exact Fun.delete Tryz.func204 (by kernel_rfl) (by kernel_rfl) 4 (fun blk off cap n i j D w h1 h2 h3 h4 h5 h6 h7 => calls_slices_Delete_Limpl_Label_impl_Label_mobb blk off cap n i j D w h1 h2 h3 h4 h5 h6 h7) (len a0) i j _ _ (by omega) (show j <= a0.length by omega)
   (fun t ht q hq => by show eL (gd _ t) q = eL (gd a0 _) q; rw [cut_get a0 i j t (by omega) (by omega)]) (fun t q => plain_nil (val_plain (vl_encLabel _ _))) (fun t q => val_flat (vl_encLabel _ _))
 ·cases h

/-- impl.Label] -/
def Fq106 (a0 : List TB) (a1 : Int) : Option (List TB) :=
 (Fq87 a0 a1 (std.add .i64 a1 1)).bind fun y1 =>
 some y1
theorem runq106 (a0 : List TB) (a1 : Int) (r : List TB) (h : Fq106 a0 a1 = some r) : Fun Tryz.prog 124 [.c (.os 5 0 (len a0)), .c (wi a1)] [(5, .arr .rw [] (len a0) 4 (row gd (eL) a0))] (.c (.os 64000 0 (len r))) [(64000, .arr .rw [] (len r) 4 (row gd (eL) r))] true := by
 refine Fun.of_wp (oneOf []) tok mixed Tryz.func124 (by kernel_rfl) rfl Tryz.ntmps124 rfl ⟨fun i _ j _ k hk => (noref (plain_nil (pl_encLabel _ _)) hk).elim, tv⟩ (fun _ => ⟨trivial, ⟨fun i _ j _ => val_flat (vl_encLabel _ _), tv⟩⟩) ?_; unfold Fq106 at h; have hfq87 := @runq87
 generalize hLEN : @len = LEN, hGD : @gd = GD, hA : std = A, hP : Tryz.prog = P at *; cbv; revert h; refine rb fun y1 hy2 h => ?_; refine rc [(5, 5)] [(64000, 576)] (hfq87 _ _ _ _ hy2) zf ⟨_, rfl, _, _, rfl, fun _ _ _ _ => .refl _, ?_⟩; cbv; injection h with h; subst h
 refine ⟨(sp 10 [(4, .c (.os 64000 0 (LEN y1)))] [(64000, .arr .rw [] (LEN y1) 4 (row GD (eL) y1))]), ?_, ?_⟩
 ·refine St.le_trans (le_ren 576 64000 (by decide) rfl) ?_; exact zb
 ·exact ⟨lR _, ⟨oS, tv⟩, rfl⟩

section
open Go.RowKit Go.Lib
set_option maxRecDepth 1000000 in
theorem ins_shift_slices_Insert_Limpl_Instance_impl_Instance_mobo (b off n c i vb voff m vc : Nat) (cs vs : List Value) (w : World) (hi : i < n) (hm : 0 < m) (hroom : n + m <= c) (hc63 : n + m <= 9223372036854775807) (hvb : vb ≠ b)
  (hcl : cs.length = n * 8) (hvl : vs.length = m * 8)
  (hcs : ∀ j v, cs[j]? = some v -> w.cell? ⟨b, off + j, none⟩ = some v) (hsp : ∀ j, j < (n + m) * 8 -> (w.cell? ⟨b, off + j, none⟩).isSome = true) (hfz : ∀ j, j < (n + m) * 8 -> w.frozen? ⟨b, off + j, none⟩ = false)
  (hvs : ∀ j v, vs[j]? = some v -> w.cell? ⟨vb, voff + j, none⟩ = some v) (h1c : ∀ v ∈ cs, v.oneCell' = true) (h1v : ∀ v ∈ vs, v.oneCell' = true)
  (tA tB : TypeId) (kA kB : Nat) (hsa : w.shape? vb = some (tA, kA)) (hsb : w.shape? b = some (tB, kB)) (hkB : kB ≠ 0) (hfa : w.frozen? ⟨vb, voff, none⟩ = false) (hfe : w.frozen? ⟨vb, kA, none⟩ = false) :
  Calls Tryz.prog 125 #[.slice (some ⟨b, off, none⟩) n c, .int .i64 i, .slice (some ⟨vb, voff, none⟩) m vc] w fun e w' =>
   e = .returned (.slice (some ⟨b, off, none⟩) (n + m) c) /\ w' = (w.drew.setCells b (off + (i + m) * 8) (cs.drop (i * 8))).setCells b (off + i * 8) vs := by
 have tSl : Tryz.prog.underlying 147 = some (.slice 55) := by kernel_rfl
 have hz1 : ¬ ((m : Int) = 0) := by omega
 have hz2 : ¬ ((i : Int) = (n : Int)) := by omega
 have hsz : (Tryz.prog.info? 55).map (·.size) = some 8 := by kernel_rfl
 have hov : ∀ lb cb, (callFunc 205 #[.slice (some ⟨vb, voff, none⟩) m vc, .slice (some ⟨b, off + (i + m) * 8, none⟩) lb cb]).run Tryz.prog w = .ok (.value (.bool false)) w := fun lb cb => by
  rw [run_callFunc_extern Tryz.func205 (by kernel_rfl) (by kernel_rfl) (by kernel_rfl) (e := Extern.SlicesOverlaps.overlaps #[147, 147] #[4]) (by kernel_rfl),
   Lib.run_overlaps_apart w 147 4 55 tSl 8 (fun w => run_sizeOf tok (show T 55 = some d55 from rfl)) ⟨vb, voff, none⟩ ⟨b, off + (i + m) * 8, none⟩ m vc lb cb hvb tA tB kA kB hsa hsb hkB hfa hfe]
  rfl
 have hdl : (cs.drop (i * 8)).length = (n - i) * 8 := by rw [List.length_drop, hcl, Nat.sub_mul]
 have mixed : Tryz.prog.follows .mixedOrders = true := by kernel_rfl
 have hw1 : IntKind.i64.wrap ((i : Int) + (m : Int)) = (i : Int) + (m : Int) := by rw [IntKind.wrap_i64]; omega
 have hb1 : (0 : Int) <= (i : Int) + (m : Int) := by omega
 have hin : i <= n := by omega
 have htn : ((i : Int) + (m : Int)).toNat = i + m := by omega
 have hb2 : ¬ (c = i + m) := by omega
 have hb3 : (i : Int) <= (n : Int) + (m : Int) := by omega
 have hb4 : ¬ (c = i) := by omega
 have hcp1 : ∀ ty dc sc, (Builtin.copy_ #[147, 147] ty #[.slice (some ⟨b, off + (i + m) * 8, none⟩) (n + m - (i + m)) dc, .slice (some ⟨b, off + i * 8, none⟩) (n + m - i) sc]).run Tryz.prog w.drew = .ok (goInt (Nat.min (n + m - i) (n + m - (i + m)))) (w.drew.setCells b (off + (i + m) * 8) (cs.drop (i * 8))) := fun ty dc sc =>
  run_copy_cellsN 8 w.drew _ _ ty 55 b (off + (i + m) * 8) (n + m - (i + m)) dc ⟨b, off + i * 8, none⟩ (n + m - i) sc (cs.drop (i * 8)) tSl hsz (by rw [hdl, show Nat.min (n + m - i) (n + m - (i + m)) = n - i by simp only [Nat.min_def]; split <;> omega])
   (fun j v hj => by rw [Addr.add_lit, Nat.add_assoc]; exact hcs (i * 8 + j) v (by rwa [List.getElem?_drop] at hj))
   (fun j hj => by rw [Nat.add_assoc]; exact hsp _ (by omega)) (fun j hj => by rw [Nat.add_assoc]; exact hfz _ (by omega)) (fun v hv => h1c v (List.mem_of_mem_drop hv))
 obtain ⟨W1, hW1⟩ : ∃ W1, W1 = w.drew.setCells b (off + (i + m) * 8) (cs.drop (i * 8)) := ⟨_, rfl⟩
 have hsp1 : ∀ k, k < (n + m) * 8 -> (W1.cell? ⟨b, off + k, none⟩).isSome = true := fun k hk => by
  rw [hW1]
  exact isSome_setCells b _ _ _ (fun j hj => by rw [Nat.add_assoc]; exact hsp _ (by omega)) _ (hsp k hk)
 have hcp2 : ∀ (W : World), (∀ x, W.cell? x = W1.cell? x) -> (∀ x, W.frozen? x = W1.frozen? x) -> ∀ ty dc, (Builtin.copy_ #[147, 147] ty #[.slice (some ⟨b, off + i * 8, none⟩) (n + m - i) dc, .slice (some ⟨vb, voff, none⟩) m vc]).run Tryz.prog W = .ok (goInt (Nat.min m (n + m - i))) (W.setCells b (off + i * 8) vs) := fun W hWc hWf ty dc =>
  run_copy_cellsN 8 W _ _ ty 55 b (off + i * 8) (n + m - i) dc ⟨vb, voff, none⟩ m vc vs tSl hsz (by rw [hvl, show Nat.min m (n + m - i) = m by simp only [Nat.min_def]; split <;> omega])
   (fun j v hj => by
    rw [Addr.add_lit, hWc, hW1, World.cell?_setCells_out b _ _ _ _ (fun h _ => absurd h hvb)]
    exact hvs j v hj)
   (fun j hj => by rw [hWc, Nat.add_assoc]; exact hsp1 _ (by omega)) (fun j hj => by rw [hWf, hW1, World.frozen?_setCells, Nat.add_assoc]; exact hfz _ (by omega)) h1v
 rw [<- hW1] at hcp1
 clear hsp hfz hcs hvs h1c h1v
 go_enter Tryz.func125, Tryz.ntmps125
 go_wp2_with (simp only [hov])
 go_region_law_o (refine step_copy_runI rfl _ _ 147 147 rfl _ _ (by simp [Act.eval, Act.put]) (by simp [Act.eval, Act.put]) (hcp1 _ _ _) ?_)
 go_wp2_with (at_builtin; refine wpList_copy_runI _ rfl _ _ 147 147 rfl _ _ rfl rfl (hcp2 _ (fun _ => rfl) (fun _ => rfl) _ _) ?_)
 go_ret
 first | exact ⟨rfl, rfl⟩ | exact ⟨rfl, by rw [hW1]⟩
set_option maxRecDepth 1000000 in
theorem ins_end_room_slices_Insert_Limpl_Instance_impl_Instance_mobo (b off n c vb voff m vc : Nat) (vs : List Value) (w : World) (hm : 0 < m) (hroom : n + m <= c) (hc63 : n + m <= 9223372036854775807)
  (hvl : vs.length = m * 8) (hsp : ∀ j, j < m * 8 -> (w.cell? ⟨b, off + n * 8 + j, none⟩).isSome = true) (hfz : ∀ j, j < m * 8 -> w.frozen? ⟨b, off + n * 8 + j, none⟩ = false)
  (hvs : ∀ j v, vs[j]? = some v -> w.cell? ⟨vb, voff + j, none⟩ = some v) (h1v : ∀ v ∈ vs, v.oneCell' = true) :
  Calls Tryz.prog 125 #[.slice (some ⟨b, off, none⟩) n c, .int .i64 n, .slice (some ⟨vb, voff, none⟩) m vc] w fun e w' =>
   e = .returned (.slice (some ⟨b, off, none⟩) (n + m) c) /\ w' = w.setCells b (off + n * 8) vs := by
 have tSl : Tryz.prog.underlying 147 = some (.slice 55) := by kernel_rfl
 have mixed : Tryz.prog.follows .mixedOrders = true := by kernel_rfl
 have hI : (Tryz.prog.info? 55).map (·.size) = some 8 := by kernel_rfl
 obtain ⟨i0, hi0, hz5⟩ : ∃ i0, Tryz.prog.info? 55 = some i0 /\ i0.size = 8 := by
  cases h : Tryz.prog.info? 55 with
  | none => rw [h] at hI; cases hI
  | some i0 => rw [h] at hI; exact ⟨i0, rfl, by injection hI⟩
 have hz1 : ¬ ((m : Int) = 0) := by omega
 have hsrc : Src Tryz.prog i0.size 147 (.slice (some ⟨vb, voff, none⟩) m vc) m vs w := Src.ofSlice w tSl ⟨vb, voff, none⟩ m vc vs (by rw [hz5]; exact hvl) (fun j u hj => by rw [Addr.add_lit]; exact hvs j u hj) h1v
 have s1 : Hid (∀ j, j < vs.length -> (w.cell? ⟨b, off + n * i0.size + j, none⟩).isSome = true) := by rw [hvl, hz5]; exact hsp
 have s2 : Hid (∀ j, j < vs.length -> w.frozen? ⟨b, off + n * i0.size + j, none⟩ = false) := by rw [hvl, hz5]; exact hfz
 clear hsp hfz hvs
 go_enter Tryz.func125, Tryz.ntmps125
 go_wp2_with (at_builtin; refine wpList_append_room_src _ rfl _ _ 147 147 rfl 55 i0 tSl hi0 b off n c rfl _ rfl m vs hsrc hroom s1.out s2.out ?_)
 go_ret
 exact ⟨rfl, rfl⟩
set_option maxRecDepth 1000000 in
theorem ins_end_grow_slices_Insert_Limpl_Instance_impl_Instance_mobo (base : Option Addr) (n c vb voff m vc : Nat) (cs vs : List Value) (w : World) (hm : 0 < m) (hnc : n <= c) (hroom : c < n + m) (hbig : (n + m) * 64 <= 140737488355328)
  (hcl : cs.length = n * 8) (hvl : vs.length = m * 8) (hnil : base = none -> n = 0)
  (hcs : ∀ a, base = some a -> ∀ j v, cs[j]? = some v -> w.cell? (a.add j) = some v)
  (hvs : ∀ j v, vs[j]? = some v -> w.cell? ⟨vb, voff + j, none⟩ = some v) (h1v : ∀ v ∈ vs, v.oneCell' = true) :
  Calls Tryz.prog 125 #[.slice base n c, .int .i64 n, .slice (some ⟨vb, voff, none⟩) m vc] w fun e w' =>
   e = .returned (.slice (some ⟨w.heap.size, 0, none⟩) (n + m) (grownCap w (n + m) c 55)) /\
   w' = w.drew.alloc (.cells ((cs ++ vs).toArray ++ Builtin.zeroCells d55.zero.cells (grownCap w (n + m) c 55 - (n + m))) 55) := by
 have tSl : Tryz.prog.underlying 147 = some (.slice 55) := by kernel_rfl
 have mixed : Tryz.prog.follows .mixedOrders = true := by kernel_rfl
 obtain ⟨i0, hi0, hzs, hzb, hz0⟩ := (tok 55 d55 rfl).2.1
 have hzs : i0.size = 8 := hzs
 have hzb : i0.bytes = 64 := hzb
 have hz1 : ¬ ((m : Int) = 0) := by omega
 have hsrc : Src Tryz.prog i0.size 147 (.slice (some ⟨vb, voff, none⟩) m vc) m vs w := Src.ofSlice w tSl ⟨vb, voff, none⟩ m vc vs (by rw [hzs]; exact hvl) (fun j u hj => by rw [Addr.add_lit]; exact hvs j u hj) h1v
 have hold : (Builtin.firstCells i0.size n (.slice base n c)).run Tryz.prog w.drew = .ok cs.toArray w.drew := by
  rw [hzs]
  cases base with
  | none =>
   have h0 := hnil rfl
   subst h0
   have hc0 : cs.length = 0 := by rw [hcl, Nat.zero_mul]
   rw [List.length_eq_zero_iff.1 hc0]
   exact run_firstCells_none w.drew 8 0 0 c
  | some a => exact run_firstCells_some w.drew 8 n a n c cs hcl (fun j v hj => hcs a rfl j v hj)
 have hrun : ∀ ty, (Builtin.append_ #[147, 147] ty #[.slice base n c, .slice (some ⟨vb, voff, none⟩) m vc]).run Tryz.prog w = _ := fun ty =>
  run_append_grow_src w 147 147 ty 55 i0 _ tSl hi0 hz0 base n c cs hold _ m vs hsrc hroom (by omega) (by rw [hzb]; exact growslice_fits hroom hbig)
 go_enter Tryz.func125, Tryz.ntmps125
 cases base with
 | none =>
  have h0 := hnil rfl
  subst h0
  go_wp2_with (at_builtin; refine Lib.wpList_append_run _ rfl _ _ _ _ rfl _ _ rfl rfl _ _ (hrun _) ?_)
  go_ret
  exact ⟨rfl, rfl⟩
 | some a =>
  obtain ⟨ab, ao, asp⟩ := a
  go_wp2_with (at_builtin; refine Lib.wpList_append_run _ rfl _ _ _ _ rfl _ _ rfl rfl _ _ (hrun _) ?_)
  all_goals (go_ret; exact ⟨rfl, rfl⟩)
set_option maxRecDepth 1000000 in
theorem ins_grow_slices_Insert_Limpl_Instance_impl_Instance_mobo (b off n c i vb voff m vc : Nat) (cs vs : List Value) (w : World) (hi : i < n) (hm : 0 < m) (hnc : n <= c) (hroom : c < n + m) (hbig : (n + m) * 64 <= 140737488355328)
  (hcl : cs.length = n * 8) (hvl : vs.length = m * 8)
  (hcs : ∀ j v, cs[j]? = some v -> w.cell? ⟨b, off + j, none⟩ = some v)
  (hvs : ∀ j v, vs[j]? = some v -> w.cell? ⟨vb, voff + j, none⟩ = some v) (h1c : ∀ v ∈ cs, v.oneCell' = true) (h1v : ∀ v ∈ vs, v.oneCell' = true) :
  Calls Tryz.prog 125 #[.slice (some ⟨b, off, none⟩) n c, .int .i64 i, .slice (some ⟨vb, voff, none⟩) m vc] w fun e w' =>
   e = .returned (.slice (some ⟨w.heap.size, 0, none⟩) (n + m) (grownCap w (n + m) c 55)) /\
   w' = (((w.alloc (.cells ((cs.take (i * 8)).toArray ++ Builtin.zeroCells d55.zero.cells (n + m - i) ++ Builtin.zeroCells d55.zero.cells (grownCap w (n + m) c 55 - (n + m))) 55)).drew.setCells w.heap.size (i * 8) vs).drew).setCells w.heap.size ((i + m) * 8) (cs.drop (i * 8)) := by
 have tSl : Tryz.prog.underlying 147 = some (.slice 55) := by kernel_rfl
 have t3 : Tryz.prog.underlying 3 = some (.int .i64) := by kernel_rfl
 have mixed : Tryz.prog.follows .mixedOrders = true := by kernel_rfl
 obtain ⟨i0, hi0, hzs, hzb, hz0⟩ := (tok 55 d55 rfl).2.1
 have hzs : i0.size = 8 := hzs
 have hzb : i0.bytes = 64 := hzb
 have hz5 : d55.zero.cells.size = 8 := by kernel_rfl
 have hz1 : ¬ ((m : Int) = 0) := by omega
 have hz2 : ¬ ((i : Int) = (n : Int)) := by omega
 have hz3 : (c : Int) < (n : Int) + (m : Int) := by omega
 have hsz : (Tryz.prog.info? 55).map (·.size) = some 8 := by rw [hi0]; simp [hzs]
 have hbw : b < w.heap.size := block_lt_of_cell (hcs 0 _ (List.getElem?_eq_getElem (by omega)))
 have hvw : vb < w.heap.size := block_lt_of_cell (hvs 0 _ (List.getElem?_eq_getElem (by omega)))
 have hkk : (n : Int) + (m : Int) - (i : Int) = ((n + m - i : Nat) : Int) := by omega
 have hik : i + (n + m - i) = n + m := by omega
 have htl : (cs.take (i * 8)).length = i * 8 := by rw [List.length_take, hcl]; omega
 have hold : (Builtin.firstCells i0.size i (.slice (some ⟨b, off, none⟩) i c)).run Tryz.prog w.drew = .ok (cs.take (i * 8)).toArray w.drew := by
  rw [hzs]
  exact run_firstCells_some w.drew 8 i ⟨b, off, none⟩ i c (cs.take (i * 8)) htl (fun j v hj => by
   rw [Addr.add_lit]
   rw [List.getElem?_take] at hj
   split at hj
   ·exact hcs j v hj
   ·cases hj)
 have hrz : ∀ ty, (Builtin.append_ #[147, 3] ty #[.slice (some ⟨b, off, none⟩) i c, .int .i64 ((n : Int) + (m : Int) - (i : Int))]).run Tryz.prog w =
   .ok (.slice (some ⟨w.heap.size, 0, none⟩) (n + m) (grownCap w (n + m) c 55)) (w.drew.alloc (.cells ((cs.take (i * 8)).toArray ++ Builtin.zeroCells d55.zero.cells (n + m - i) ++ Builtin.zeroCells d55.zero.cells (grownCap w (n + m) c 55 - (n + m))) 55)) := fun ty => by
  have h := Lib.run_append_grow_zeros w 147 3 ty 55 i0 _ .i64 .i64 tSl t3 hi0 hz0 (some ⟨b, off, none⟩) i c (cs.take (i * 8)) hold (n + m - i) (by omega) (by omega) (by omega) (by omega) (by rw [hzb]; omega) (by rw [hzb, hik]; exact growslice_fits hroom hbig)
  rw [hik] at h
  rw [hkk]
  exact h
 obtain ⟨G, hG⟩ : ∃ G, G = grownCap w (n + m) c 55 := ⟨_, rfl⟩
 obtain ⟨ROW, hROW⟩ : ∃ ROW : Array Value, ROW = (cs.take (i * 8)).toArray ++ Builtin.zeroCells d55.zero.cells (n + m - i) ++ Builtin.zeroCells d55.zero.cells (G - (n + m)) := ⟨_, rfl⟩
 rw [<- hG] at hrz ⊢
 rw [<- hROW] at hrz ⊢
 have hRl : (n + m) * 8 <= ROW.size := by
  rw [hROW, Array.size_append, Array.size_append, size_zeroCells, size_zeroCells, hz5, List.size_toArray, htl]
  omega
 obtain ⟨W1, hW1⟩ : ∃ W1, W1 = w.drew.alloc (.cells ROW 55) := ⟨_, rfl⟩
 rw [<- hW1] at hrz
 have hN : ∀ j, j < (n + m) * 8 -> (W1.cell? ⟨w.heap.size, j, none⟩).isSome = true := fun j hj => by
  rw [hW1, World.cell?_alloc_at (w := w.drew) ROW _ w.heap.size j rfl, Array.getElem?_eq_getElem (by omega)]; rfl
 have hNf : ∀ j, W1.frozen? ⟨w.heap.size, j, none⟩ = false := fun j => by rw [hW1]; exact World.frozen?_alloc_at (w := w.drew) ROW _ w.heap.size j rfl
 have hOb : ∀ j v, w.cell? ⟨b, j, none⟩ = some v -> W1.cell? ⟨b, j, none⟩ = some v := fun j v h => by rw [hW1, World.cell?_alloc_past (w := w.drew) _ b j hbw]; exact h
 have hOv : ∀ j v, w.cell? ⟨vb, j, none⟩ = some v -> W1.cell? ⟨vb, j, none⟩ = some v := fun j v h => by rw [hW1, World.cell?_alloc_past (w := w.drew) _ vb j hvw]; exact h
 have hcpA : ∀ (W : World), (∀ x, W.cell? x = W1.cell? x) -> (∀ x, W.frozen? x = W1.frozen? x) -> ∀ ty dc, (Builtin.copy_ #[147, 147] ty #[.slice (some ⟨w.heap.size, i * 8, none⟩) (n + m - i) dc, .slice (some ⟨vb, voff, none⟩) m vc]).run Tryz.prog W = .ok (goInt (Nat.min m (n + m - i))) (W.setCells w.heap.size (i * 8) vs) := fun W hWc hWf ty dc =>
  run_copy_cellsN 8 W _ _ ty 55 w.heap.size (i * 8) (n + m - i) dc ⟨vb, voff, none⟩ m vc vs tSl hsz (by rw [hvl, show Nat.min m (n + m - i) = m by simp only [Nat.min_def]; split <;> omega])
   (fun j v hj => by rw [Addr.add_lit, hWc]; exact hOv _ v (hvs j v hj))
   (fun j hj => by rw [hWc]; exact hN _ (by omega)) (fun j hj => by rw [hWf]; exact hNf _) h1v
 have hGn : n + m <= G := by rw [hG]; exact grownCap_ge w _ _ _
 have hG63 : G <= 9223372036854775807 := by
  have := grownCap_le_maxLen w (n + m) c 55 (by unfold maxLen; omega)
  rw [<- hG] at this
  unfold maxLen at this
  omega
 have hGi : ¬ (G = i) := by omega
 have hGim : ¬ (G = i + m) := by omega
 have hci : ¬ (c = i) := by omega
 have hbN : b ≠ w.heap.size := by omega
 have hdl : (cs.drop (i * 8)).length = (n - i) * 8 := by rw [List.length_drop, hcl, Nat.sub_mul]
 have hcpB : ∀ (W : World), (∀ x, W.cell? x = (W1.setCells w.heap.size (i * 8) vs).cell? x) -> (∀ x, W.frozen? x = (W1.setCells w.heap.size (i * 8) vs).frozen? x) -> ∀ ty dc sc, (Builtin.copy_ #[147, 147] ty #[.slice (some ⟨w.heap.size, (i + m) * 8, none⟩) (n + m - (i + m)) dc, .slice (some ⟨b, off + i * 8, none⟩) (n - i) sc]).run Tryz.prog W = .ok (goInt (Nat.min (n - i) (n + m - (i + m)))) (W.setCells w.heap.size ((i + m) * 8) (cs.drop (i * 8))) := fun W hWc hWf ty dc sc =>
  run_copy_cellsN 8 W _ _ ty 55 w.heap.size ((i + m) * 8) (n + m - (i + m)) dc ⟨b, off + i * 8, none⟩ (n - i) sc (cs.drop (i * 8)) tSl hsz (by rw [hdl, show Nat.min (n - i) (n + m - (i + m)) = n - i by simp only [Nat.min_def]; split <;> omega])
   (fun j v hj => by
    rw [Addr.add_lit, hWc, World.cell?_setCells_out _ _ _ _ _ (fun h _ => absurd h hbN), Nat.add_assoc]
    exact hOb _ v (hcs (i * 8 + j) v (by rwa [List.getElem?_drop] at hj)))
   (fun j hj => by rw [hWc]; exact isSome_setCells _ _ _ _ (fun t ht => hN _ (by omega)) _ (hN _ (by omega)))
   (fun j hj => by rw [hWf, World.frozen?_setCells]; exact hNf _) (fun v hv => h1c v (List.mem_of_mem_drop hv))
 subst hW1
 have hE1 : ∀ x, ((w.alloc (.cells ROW 55)).drew).cell? x = (w.drew.alloc (.cells ROW 55)).cell? x := fun x => rfl
 have hE2 : ∀ x, ((w.alloc (.cells ROW 55)).drew).frozen? x = (w.drew.alloc (.cells ROW 55)).frozen? x := fun x => rfl
 have hF1 : ∀ x, (((w.alloc (.cells ROW 55)).drew.setCells w.heap.size (i * 8) vs).drew).cell? x = ((w.drew.alloc (.cells ROW 55)).setCells w.heap.size (i * 8) vs).cell? x := fun x => rfl
 have hF2 : ∀ x, (((w.alloc (.cells ROW 55)).drew.setCells w.heap.size (i * 8) vs).drew).frozen? x = ((w.drew.alloc (.cells ROW 55)).setCells w.heap.size (i * 8) vs).frozen? x := fun x => rfl
 have hw1 : IntKind.i64.wrap ((i : Int) + (m : Int)) = (i : Int) + (m : Int) := by rw [IntKind.wrap_i64]; omega
 have hb1 : (0 : Int) <= (i : Int) + (m : Int) := by omega
 have hin : i <= n := by omega
 have htn : ((i : Int) + (m : Int)).toNat = i + m := by omega
 have hb3 : (i : Int) <= (n : Int) := by omega
 clear hkk hik hold hROW hG hRl hcs hvs h1c h1v hN hNf hOb hOv htl hdl
 go_enter Tryz.func125, Tryz.ntmps125
 go_wp2_with (first
  | (at_builtin; refine Lib.wpList_append_run _ rfl _ _ _ _ rfl _ _ rfl rfl _ _ (hrz _) ?_)
  | (at_builtin; refine wpList_copy_runI _ rfl _ _ 147 147 rfl _ _ rfl rfl (hcpA _ hE1 hE2 _ _) ?_)
  | (at_builtin; refine wpList_copy_runI _ rfl _ _ 147 147 rfl _ _ rfl rfl (hcpB _ (fun _ => rfl) (fun _ => rfl) _ _ _) ?_))
 go_region_law_o (refine step_copy_runI rfl _ _ 147 147 rfl (.slice (some ⟨w.heap.size, (i + m) * 8, none⟩) (n + m - (i + m)) (G - (i + m))) (.slice (some ⟨b, off + i * 8, none⟩) (n - i) (c - i)) (by simp [Act.eval, Act.put]) (by simp [Act.eval, Act.put]) (hcpB _ hF1 hF2 3 (G - (i + m)) (c - i)) ?_)
 go_wp2
 go_ret
 exact ⟨rfl, rfl⟩
theorem calls_slices_Insert_Limpl_Instance_impl_Instance_mobo (old : Option (Nat × Nat)) (y : Value) (n cap i vb voff m vc : Nat) (cs vs : List Value) (w : World)
  (hold : (old = none /\ n = 0 /\ cap = 0 /\ ∃ ad, y = .slice ad 0 0) \/ ∃ b off C t, old = some (b, off) /\ y = .slice (some ⟨b, off, none⟩) n cap /\ n <= cap /\ w.heap[b]? = some (.cells C t (0, 0)) /\ off + cap * 8 <= C.size /\ (∀ (q : Nat) u, C[q]? = some u -> u.oneCell' = true) /\ (∀ q, q < n * 8 -> C[off + q]? = cs[q]?) /\ vb ≠ b)
  (hi : i <= n) (hm : 0 < m) (hbig : (n + m) * 64 <= 140737488355328) (hcl : cs.length = n * 8) (hvl : vs.length = m * 8) (hvb : ∃ C2 t2, w.heap[vb]? = some (.cells C2 t2 (0, 0)) /\ ∀ q, q < m * 8 -> C2[voff + q]? = vs[q]?) (h1c : ∀ u ∈ cs, u.oneCell' = true) (h1v : ∀ u ∈ vs, u.oneCell' = true) :
  Calls Tryz.prog 125 #[y, .int .i64 i, .slice (some ⟨vb, voff, none⟩) m vc] w (Inserted w old 8 (n + m) (cs.take (i * 8) ++ vs ++ cs.drop (i * 8))) := by
 obtain ⟨C2, t2, hC2, hvs⟩ := hvb
 have hvcell : ∀ j v, vs[j]? = some v -> w.cell? ⟨vb, voff + j, none⟩ = some v := fun j v h => by
  rw [cell_at hC2, hvs j (by have := (List.getElem?_eq_some_iff.1 h).1; omega)]; exact h
 have hz5 : d55.zero.cells.size = 8 := by kernel_rfl
 have hz1 : ∀ k, ∀ v ∈ (Builtin.zeroCells d55.zero.cells k).toList, v.oneCell' = true := fun k => zeroCells_one _ (fun v hv => by
  have := Array.all_eq_true_iff_forall_mem.1 (show d55.zero.cells.all Value.oneCell' = true by kernel_rfl) v hv
  exact this) _
 have hzn : ∀ k, (Builtin.zeroCells d55.zero.cells k).size = k * 8 := fun k => by rw [size_zeroCells, hz5]
 rcases hold with ⟨ho, h0, hc, ad, rfl⟩ | ⟨b, off, C, t, ho, rfl, hnc, hC, hCs, h1C, hcs, hne⟩
 ·subst h0; subst hc
  obtain rfl : i = 0 := by omega
  have hcs0 : cs = [] := List.length_eq_zero_iff.1 (by omega)
  subst hcs0
  refine (ins_end_grow_slices_Insert_Limpl_Instance_impl_Instance_mobo ad 0 0 vb voff m vc [] vs w hm (Nat.le_refl _) (by omega) hbig hcl hvl (fun _ => rfl) (fun a _ j v h => by simp at h) hvcell h1v).mono ?_
  rintro e w' ⟨rfl, rfl⟩
  exact ins_post_endgrow hcl hvl h1v h1c (grownCap_ge _ _ _ _) (hzn _) (hz1 _)
 ·subst ho
  have hccell : ∀ j v, cs[j]? = some v -> w.cell? ⟨b, off + j, none⟩ = some v := fun j v h => by
   rw [cell_at hC, hcs j (by have := (List.getElem?_eq_some_iff.1 h).1; omega)]; exact h
  by_cases hroom : n + m <= cap
  ·have hsp : ∀ j, j < (n + m) * 8 -> (w.cell? ⟨b, off + j, none⟩).isSome = true := fun j hj => by
    rw [cell_at hC, Array.getElem?_eq_getElem (by omega)]; rfl
   by_cases hin : i = n
   ·subst hin
    refine (ins_end_room_slices_Insert_Limpl_Instance_impl_Instance_mobo b off i cap vb voff m vc vs w hm hroom (by omega) hvl (fun j hj => by rw [Nat.add_assoc]; exact hsp _ (by omega)) (fun j hj => frozen_of hC _) hvcell h1v).mono ?_
    rintro e w' ⟨rfl, rfl⟩
    exact ins_post_end hC hCs h1C hcs hcl hvl h1v hroom
   ·refine (ins_shift_slices_Insert_Limpl_Instance_impl_Instance_mobo b off n cap i vb voff m vc cs vs w (by omega) hm hroom (by omega) hne hcl hvl hccell hsp (fun j hj => frozen_of hC _) hvcell h1c h1v t2 t C2.size C.size (by simp [World.shape?, hC2]) (by simp [World.shape?, hC]) (by omega) (frozen_of hC2 _) (frozen_of hC2 _)).mono ?_
    rintro e w' ⟨rfl, rfl⟩
    exact ins_post_shift hC hCs h1C hcs hcl hvl h1v h1c hi hroom
  ·by_cases hin : i = n
   ·subst hin
    refine (ins_end_grow_slices_Insert_Limpl_Instance_impl_Instance_mobo (some ⟨b, off, none⟩) i cap vb voff m vc cs vs w hm hnc (by omega) hbig hcl hvl (fun h => by cases h) (fun a h j v hv => by injection h with h; subst h; rw [Addr.add_lit]; exact hccell j v hv) hvcell h1v).mono ?_
    rintro e w' ⟨rfl, rfl⟩
    exact ins_post_endgrow hcl hvl h1v h1c (grownCap_ge _ _ _ _) (hzn _) (hz1 _)
   ·refine (ins_grow_slices_Insert_Limpl_Instance_impl_Instance_mobo b off n cap i vb voff m vc cs vs w (by omega) hm hnc (by omega) hbig hcl hvl hccell hvcell h1c h1v).mono ?_
    rintro e w' ⟨rfl, rfl⟩
    exact ins_post_grow hcl hvl h1v h1c hi (grownCap_ge _ _ _ _) (hzn _) (hzn _) (hz1 _) (hz1 _)
end
/-- slices.Insert[[]loop.example/g00890/impl.Instance,loop.example/g00890/impl.Instance] -/
def Fq30 (a0 : List TI) (a1 : Int) (a2 : List TI) : Option (List TI) :=
 if 0 <= a1 /\ a1 <= (a0.length : Int) /\ 0 < a2.length /\ (a0.length + a2.length) * 64 <= 140737488355328 then some (a0.take a1.toNat ++ a2 ++ a0.drop a1.toNat) else none
theorem runq30 (a0 : List TI) (a1 : Int) (a2 : List TI) (r : List TI) (h : Fq30 a0 a1 a2 = some r) : Fun Tryz.prog 125 [.c (.os 5 0 (len a0)), .c (wi a1), .c (.os 7 0 (len a2))] [(5, .arr .rw [] (len a0) 8 (row gd (eI) a0)), (7, .arr .rw [] (len a2) 8 (row gd (eI) a2))] (.c (.os 64000 0 (len r))) [(64000, .arr .rw [] (len r) 8 (row gd (eI) r))] true := by
 unfold Fq30 at h
 split at h
 ·rename_i h1
  injection h with h
  subst h
  obtain ⟨i, rfl⟩ : ∃ i : Nat, a1 = i := ⟨a1.toNat, by omega⟩
  rw [Int.toNat_natCast]
  have e : len (a0.take i ++ a2 ++ a0.drop i) = len a0 + len a2 := by
   show List.length _ = List.length _ + List.length _
   rw [List.length_append, List.length_append, List.length_take, List.length_drop]; omega
  rw [e]
  exact Fun.insert Tryz.func125 (by kernel_rfl) (by kernel_rfl) 8 64 (fun old y n cap i vb voff m vc cs vs w h1 h2 h3 h4 h5 h6 h7 h8 h9 => calls_slices_Insert_Limpl_Instance_impl_Instance_mobo old y n cap i vb voff m vc cs vs w h1 h2 h3 h4 h5 h6 h7 h8 h9) (len a0) i (len a2) _ _ _ (show i <= a0.length by omega) (show 0 < a2.length by omega) (show (a0.length + a2.length) * 64 <= _ by omega)
   (fun t ht q hq => by
    show eI (gd _ t) q = if t < i then eI (gd a0 t) q else if t < i + a2.length then eI (gd a2 (t - i)) q else eI (gd a0 (t - a2.length)) q
    rw [ins_get a0 a2 i t (by omega)]
    split
    ·rfl
    ·split <;> rfl) (fun t q => plain_nil (val_plain (vl_encInstance _ _))) (fun t q => plain_nil (val_plain (vl_encInstance _ _))) (fun t q => val_flat (vl_encInstance _ _))
 ·cases h

section
open Go.RowKit Go.Lib
set_option maxRecDepth 1000000 in
/-- slices.Delete: the elements behind those that are taken out lie further ahead, the cells behind are emptied -/
theorem calls_slices_Delete_Limpl_Instance_impl_Instance_mobb (blk off cap n i j : Nat) (D : List Value) (w : World) (hlen : D.length = n * 8) (hD : ∀ t u, D[t]? = some u -> w.cell? ⟨blk, off + t, none⟩ = some u) (h1 : ∀ u ∈ D, u.oneCell' = true) (hfz : ∀ t, t < n * 8 -> w.frozen? ⟨blk, off + t, none⟩ = false) (hcap : n <= cap) (hij : i < j) (hj : j <= n) :
  Calls Tryz.prog 207 #[.slice (some ⟨blk, off, none⟩) n cap, .int .i64 i, .int .i64 j] w fun e w' => e = .returned (.slice (some ⟨blk, off, none⟩) (n - (j - i)) cap) /\ ∃ zs : List Value, zs.length = (j - i) * 8 /\ (∀ u ∈ zs, u.oneCell' = true) /\ w' = (w.drew.setCells blk (off + i * 8) (D.drop (j * 8))).setCells blk (off + (i + (n - j)) * 8) zs := by
 obtain ⟨news, hnews⟩ : ∃ news, news = D.drop (j * 8) := ⟨_, rfl⟩
 have hl : news.length = (n - j) * 8 := by rw [hnews, List.length_drop, hlen, Nat.sub_mul]
 obtain ⟨A, hA, hsrc⟩ : ∃ A : Addr, (if cap = j then some (⟨blk, off, none⟩ : Addr) else some ⟨blk, off + j * 8, none⟩) = some A /\ Hid (∀ t u, news[t]? = some u -> w.drew.cell? (A.add t) = some u) := by
  by_cases h : cap = j
  ·refine ⟨⟨blk, off, none⟩, by simp [h], fun t u hu => ?_⟩
   have h00 : n - j = 0 := by omega
   have h0 : news.length = 0 := by rw [hl, h00, Nat.zero_mul]
   rw [List.length_eq_zero_iff.1 h0] at hu
   simp at hu
  ·refine ⟨⟨blk, off + j * 8, none⟩, by simp [h], fun t u hu => ?_⟩
   rw [Addr.add_lit, Nat.add_assoc]
   exact hD _ u (by rw [hnews, List.getElem?_drop] at hu; exact hu)
 have s1 : Hid (news.length = (n - j) * 8) := hl
 have s2 : Hid (∀ u ∈ news, u.oneCell' = true) := fun u hu => h1 u (List.mem_of_mem_drop (by rw [hnews] at hu; exact hu))
 have hex : ∀ t, t < n * 8 -> (w.cell? ⟨blk, off + t, none⟩).isSome = true := fun t ht => by
  rw [hD t (D[t]'(by omega)) (List.getElem?_eq_getElem (by omega))]; rfl
 have s3 : Hid (∀ t, t < news.length -> (w.drew.cell? ⟨blk, off + i * 8 + t, none⟩).isSome = true /\ w.drew.frozen? ⟨blk, off + i * 8 + t, none⟩ = false) := fun t ht => by
  rw [hl] at ht
  rw [Nat.add_assoc]
  exact ⟨hex _ (by omega), hfz _ (by omega)⟩
 obtain ⟨W1, hW1⟩ : ∃ W1, W1 = w.drew.setCells blk (off + i * 8) news := ⟨_, rfl⟩
 have hW : Hid (W1 = w.drew.setCells blk (off + i * 8) news) := hW1
 obtain ⟨z, hz⟩ : ∃ z, z = (Builtin.zeroCells d55.zero.cells (j - i)).toList := ⟨_, rfl⟩
 have hzs : d55.zero.cells.size = 8 := by kernel_rfl
 have hzl : z.length = (j - i) * 8 := by rw [hz, Array.length_toList, size_zeroCells, hzs]
 have hz1 : ∀ v ∈ z, v.oneCell' = true := by
  rw [hz]
  exact zeroCells_one _ (fun v hv => by
   have := Array.all_eq_true_iff_forall_mem.1 (show d55.zero.cells.all Value.oneCell' = true by kernel_rfl) v hv
   exact this) _
 have hcl : ∀ ty, (Builtin.clear_ #[147] ty #[.slice (some ⟨blk, off + (i + (n - j)) * 8, none⟩) (n - (i + (n - j))) (cap - (i + (n - j)))]).run Tryz.prog W1 = .ok (.tuple #[]) (W1.setCells blk (off + (i + (n - j)) * 8) z) := fun ty => by
  have e : n - (i + (n - j)) = j - i := by omega
  rw [e, hz]
  refine run_clear_cells W1 147 55 ty d55.zero (by kernel_rfl) (fun w => ?_) blk _ _ _ (by omega) ?_ ?_ ?_
  ·exact run_zero tok (show T 55 = some d55 from rfl)
  ·rw [<- hz]; exact hz1
  ·intro t ht
   rw [size_zeroCells, hzs] at ht
   rw [hW1, Nat.add_assoc]
   refine isSome_setCells blk _ _ _ (fun q hq => ?_) _ (hex _ ?_)
   ·rw [hl] at hq
    rw [Nat.add_assoc]; exact hex _ (by omega)
   ·omega
  ·intro t ht
   rw [size_zeroCells, hzs] at ht
   rw [hW1, World.frozen?_setCells, Nat.add_assoc]
   exact hfz _ (by omega)
 have hX : Hid (∃ zs : List Value, zs.length = (j - i) * 8 /\ (∀ u ∈ zs, u.oneCell' = true) /\ W1.setCells blk (off + (i + (n - j)) * 8) z = (w.drew.setCells blk (off + i * 8) (D.drop (j * 8))).setCells blk (off + (i + (n - j)) * 8) zs) := ⟨z, hzl, hz1, by rw [hW1, hnews]⟩
 have hic : i <= cap := by omega
 have hjc : j <= cap := by omega
 have hne : ¬ (i = j) := by omega
 have hI : (Tryz.prog.info? 55).map (·.size) = some 8 := by kernel_rfl
 obtain ⟨i0, hi0, hz5⟩ : ∃ i0, Tryz.prog.info? 55 = some i0 /\ i0.size = 8 := by
  cases h : Tryz.prog.info? 55 with
  | none => rw [h] at hI; cases hI
  | some i0 => rw [h] at hI; exact ⟨i0, rfl, by injection hI⟩
 have mixed : Tryz.prog.follows .mixedOrders = true := by kernel_rfl
 clear hW1 hex hzs hnews hl hz hzl hz1 hD h1 hfz
 go_enter Tryz.func207, Tryz.ntmps207
 go_wp2_with fail
 go_region_law_o (refine step_append_room rfl (.tmp 22) (.tmp 25) 147 rfl 55 i0 8 (by kernel_rfl) hi0 hz5 blk off i cap (by simp [Act.eval, Act.put]) A (n - j) (cap - j) news (by simp [Act.eval, Act.put, hA]) s1.out hsrc.out s2.out (by omega) s3.out ?_; rw [<- hW.out])
 go_wp2
 go_ret
 refine ⟨by rw [show n - (j - i) = i + (n - j) by omega]; rfl, hX.out⟩
end
/-- slices.Delete[[]loop.example/g00890/impl.Instance,loop.example/g00890/impl.Instance] -/
def Fq84 (a0 : List TI) (a1 : Int) (a2 : Int) : Option (List TI) :=
 if 0 <= a1 /\ a1 < a2 /\ a2 <= (a0.length : Int) then some (a0.take a1.toNat ++ a0.drop a2.toNat) else none
theorem runq84 (a0 : List TI) (a1 : Int) (a2 : Int) (r : List TI) (h : Fq84 a0 a1 a2 = some r) : Fun Tryz.prog 207 [.c (.os 5 0 (len a0)), .c (wi a1), .c (wi a2)] [(5, .arr .rw [] (len a0) 8 (row gd (eI) a0))] (.c (.os 64000 0 (len r))) [(64000, .arr .rw [] (len r) 8 (row gd (eI) r))] true := by
 unfold Fq84 at h
 split at h
 ·rename_i h1
  injection h with h
  subst h
  obtain ⟨i, rfl⟩ : ∃ i : Nat, a1 = i := ⟨a1.toNat, by omega⟩
  obtain ⟨j, rfl⟩ : ∃ j : Nat, a2 = j := ⟨a2.toNat, by omega⟩
  rw [Int.toNat_natCast, Int.toNat_natCast]
  have e : len (a0.take i ++ a0.drop j) = len a0 - (j - i) := by
   show List.length _ = List.length _ - _
   rw [List.length_append, List.length_take, List.length_drop]; omega
  rw [e]
  exact Fun.delete Tryz.func207 (by kernel_rfl) (by kernel_rfl) 8 (fun blk off cap n i j D w h1 h2 h3 h4 h5 h6 h7 => calls_slices_Delete_Limpl_Instance_impl_Instance_mobb blk off cap n i j D w h1 h2 h3 h4 h5 h6 h7) (len a0) i j _ _ (by omega) (show j <= a0.length by omega)
   (fun t ht q hq => by show eI (gd _ t) q = eI (gd a0 _) q; rw [cut_get a0 i j t (by omega) (by omega)]) (fun t q => plain_nil (val_plain (vl_encInstance _ _))) (fun t q => val_flat (vl_encInstance _ _))
 ·cases h

/-- impl.Instance] -/
def Fq112 (a0 : List TI) (a1 : Int) : Option (List TI) :=
 (Fq84 a0 a1 (std.add .i64 a1 1)).bind fun y1 =>
 some y1
theorem runq112 (a0 : List TI) (a1 : Int) (r : List TI) (h : Fq112 a0 a1 = some r) : Fun Tryz.prog 126 [.c (.os 5 0 (len a0)), .c (wi a1)] [(5, .arr .rw [] (len a0) 8 (row gd (eI) a0))] (.c (.os 64000 0 (len r))) [(64000, .arr .rw [] (len r) 8 (row gd (eI) r))] true := by
 refine Fun.of_wp (oneOf []) tok mixed Tryz.func126 (by kernel_rfl) rfl Tryz.ntmps126 rfl ⟨fun i _ j _ k hk => (noref (plain_nil (pl_encInstance _ _)) hk).elim, tv⟩ (fun _ => ⟨trivial, ⟨fun i _ j _ => val_flat (vl_encInstance _ _), tv⟩⟩) ?_; unfold Fq112 at h
 have hfq84 := @runq84; generalize hLEN : @len = LEN, hGD : @gd = GD, hA : std = A, hP : Tryz.prog = P at *; cbv; revert h; refine rb fun y1 hy2 h => ?_; refine rc [(5, 5)] [(64000, 576)] (hfq84 _ _ _ _ hy2) zf ⟨_, rfl, _, _, rfl, fun _ _ _ _ => .refl _, ?_⟩; cbv
 injection h with h; subst h; refine ⟨(sp 10 [(4, .c (.os 64000 0 (LEN y1)))] [(64000, .arr .rw [] (LEN y1) 8 (row GD (eI) y1))]), ?_, ?_⟩
 ·refine St.le_trans (le_ren 576 64000 (by decide) rfl) ?_; exact zb
 ·exact ⟨lR _, ⟨oS, tv⟩, rfl⟩

/-- impl.edited -/
def Fq120 (a0 : TL) (a1 : TE) : Option (TL) :=
 (Fq34 a0).bind fun y1 =>
 br (std.eq a1.fk_ 8)
 (letO ([(TC.mk a1.fN ([] : List TS) ([] : List TB) ([] : List TI))] : List TC) fun l3 =>
 (Fq33 y1.fC a1.fc l3).bind fun y5 =>
 (Fq23 (TL.mk y5) a1.fc 1).bind fun y7 =>
 req (len y7 = len y5) <|
 req (len y5 = len y7) <|
 some (TL.mk y7))
 (br (std.eq a1.fk_ 9)
 ((Fq124 y1.fC a1.fc).bind fun y11 =>
 (Fq23 (TL.mk y11) a1.fc (-1)).bind fun y13 =>
 req (len y13 = len y11) <|
 req (len y11 = len y13) <|
 some (TL.mk y13))
 (req (std.inR a1.fc (len y1.fC)) <|
 ((
 br (std.eq a1.fk_ 1)
 (((
 letO ([a1.fs_] : List TS) fun l32 =>
 (Fq28 (gd y1.fC (std.nadd 0 (std.toN a1.fc))).fS a1.fx l32).bind fun y34 =>
 letO (List.set y1.fC (std.nadd 0 (std.toN a1.fc)) (TC.mk (gd y1.fC (std.nadd 0 (std.toN a1.fc))).fN y34 (gd y1.fC (std.nadd 0 (std.toN a1.fc))).fL (gd y1.fC (std.nadd 0 (std.toN a1.fc))).fI)) fun l36 =>
 some l36
 ) : Option ((List TC))).bind fun y25 =>
 letO y25 fun w31 =>
 some w31)
 (((
 br (std.eq a1.fk_ 2)
 (((
 (Fq94 (gd y1.fC (std.nadd 0 (std.toN a1.fc))).fS a1.fx).bind fun y51 =>
 letO (List.set y1.fC (std.nadd 0 (std.toN a1.fc)) (TC.mk (gd y1.fC (std.nadd 0 (std.toN a1.fc))).fN y51 (gd y1.fC (std.nadd 0 (std.toN a1.fc))).fL (gd y1.fC (std.nadd 0 (std.toN a1.fc))).fI)) fun l53 =>
 some l53
 ) : Option ((List TC))).bind fun y44 =>
 letO y44 fun w50 =>
 some w50)
 (((
 br (std.eq a1.fk_ 3)
 (((
 letO ([a1.fl_] : List TB) fun l68 =>
 (Fq32 (gd y1.fC (std.nadd 0 (std.toN a1.fc))).fL a1.fx l68).bind fun y70 =>
 letO (List.set y1.fC (std.nadd 0 (std.toN a1.fc)) (TC.mk (gd y1.fC (std.nadd 0 (std.toN a1.fc))).fN (gd y1.fC (std.nadd 0 (std.toN a1.fc))).fS y70 (gd y1.fC (std.nadd 0 (std.toN a1.fc))).fI)) fun l72 =>
 some l72
 ) : Option ((List TC))).bind fun y61 =>
 letO y61 fun w67 =>
 some w67)
 (((
 br (std.eq a1.fk_ 4)
 (((
 (Fq106 (gd y1.fC (std.nadd 0 (std.toN a1.fc))).fL a1.fx).bind fun y87 =>
 letO (List.set y1.fC (std.nadd 0 (std.toN a1.fc)) (TC.mk (gd y1.fC (std.nadd 0 (std.toN a1.fc))).fN (gd y1.fC (std.nadd 0 (std.toN a1.fc))).fS y87 (gd y1.fC (std.nadd 0 (std.toN a1.fc))).fI)) fun l89 =>
 some l89
 ) : Option ((List TC))).bind fun y80 =>
 letO y80 fun w86 =>
 some w86)
 (((
 br (std.eq a1.fk_ 5)
 (((
 letO ([a1.fi_] : List TI) fun l104 =>
 (Fq30 (gd y1.fC (std.nadd 0 (std.toN a1.fc))).fI a1.fx l104).bind fun y106 =>
 letO (List.set y1.fC (std.nadd 0 (std.toN a1.fc)) (TC.mk (gd y1.fC (std.nadd 0 (std.toN a1.fc))).fN (gd y1.fC (std.nadd 0 (std.toN a1.fc))).fS (gd y1.fC (std.nadd 0 (std.toN a1.fc))).fL y106)) fun l108 =>
 some l108
 ) : Option ((List TC))).bind fun y97 =>
 letO y97 fun w103 =>
 some w103)
 (((
 br (std.eq a1.fk_ 6)
 (((
 (Fq112 (gd y1.fC (std.nadd 0 (std.toN a1.fc))).fI a1.fx).bind fun y123 =>
 letO (List.set y1.fC (std.nadd 0 (std.toN a1.fc)) (TC.mk (gd y1.fC (std.nadd 0 (std.toN a1.fc))).fN (gd y1.fC (std.nadd 0 (std.toN a1.fc))).fS (gd y1.fC (std.nadd 0 (std.toN a1.fc))).fL y123)) fun l125 =>
 some l125
 ) : Option ((List TC))).bind fun y116 =>
 letO y116 fun w122 =>
 some w122)
 (((
 br (std.eq a1.fk_ 7)
 (((
 letO (List.set y1.fC (std.nadd 0 (std.toN a1.fc)) (TC.mk a1.fN (gd y1.fC (std.nadd 0 (std.toN a1.fc))).fS (gd y1.fC (std.nadd 0 (std.toN a1.fc))).fL (gd y1.fC (std.nadd 0 (std.toN a1.fc))).fI)) fun l140 =>
 some l140
 ) : Option ((List TC))).bind fun y133 =>
 letO y133 fun w139 =>
 some w139)
 (some y1.fC)
 ) : Option ((List TC))).bind fun y126 =>
 letO y126 fun w132 =>
 some w132)
 ) : Option ((List TC))).bind fun y109 =>
 letO y109 fun w115 =>
 some w115)
 ) : Option ((List TC))).bind fun y90 =>
 letO y90 fun w96 =>
 some w96)
 ) : Option ((List TC))).bind fun y73 =>
 letO y73 fun w79 =>
 some w79)
 ) : Option ((List TC))).bind fun y54 =>
 letO y54 fun w60 =>
 some w60)
 ) : Option ((List TC))).bind fun y37 =>
 letO y37 fun w43 =>
 some w43)
 ) : Option ((List TC))).bind fun y18 =>
 letO y18 fun w24 =>
 req (len y1.fC = len w24) <|
 some (TL.mk w24)))
theorem runq120 (a0 : TL) (a1 : TE) (r : TL) (h : Fq120 a0 a1 = some r) : Fun Tryz.prog 65 [.agg [.bs (len a0.fC) 4 (row gd (eC len gd) a0.fC)], .agg (cE a1)] [] (.agg [.os 64000 0 (len r.fC)]) [(64000, .arr .rw [] (len r.fC) 4 (row gd (oC len gd) r.fC))] true := by
 refine Fun.of_wp (oneOf [13, 15, 17, 19, 21, 23, 25, 100048, 100063, 100075, 100090, 100102, 100117, 100129]) tok mixed Tryz.func65 (by kernel_rfl) rfl Tryz.ntmps65 rfl trivial (fun _ => ⟨(by simp [AV.flat, AV.flat1, AC.flat]), ⟨fun i _ j _ => fl_oncCell _ _, tv⟩⟩) ?_; unfold Fq120 at h; have hfq34 := @runq34
 have hfq124 := @runq124; have hfq112 := @runq112; have hfq106 := @runq106; have hfq94 := @runq94; have hfq23 := @runq23
 have hfq33 := @runq33; have hfq30 := @runq30; have hfq32 := @runq32
 have hfq28 := @runq28; generalize hLEN : @len = LEN, hGD : @gd = GD, hA : std = A, hP : Tryz.prog = P at *; cbv; revert h; refine rb fun y1 hy2 h => ?_; refine rc [] [(64000, 512)] (hfq34 _ _ hy2) zf ⟨_, rfl, _, _, rfl, fun _ _ _ _ => .refl _, ?_⟩; cbv; revert h; refine fk ?_ ?_ <;> intro h <;> cbv
 ·revert h; refine rl fun l3 hl3 h => ?_; have e4 : 1 = LEN l3 := by subst hl3 hLEN; rfl
  refine ⟨_, (co e4), _, row GD (oC LEN GD) l3, e4, ?_, ?_⟩
  ·intro i hi j hj; rw [<- e4] at hi; subst hl3; subst hGD hLEN; obtain rfl : i = 0 := (by omega) <;> obtain rfl | rfl | rfl | rfl : j = 0 \/ j = 1 \/ j = 2 \/ j = 3 := (by omega)
   all_goals first | rfl | exact AC.wk.refl _ | exact AC.wk.ow | exact AC.wk.bs
  cbv; revert h; refine rb fun y5 hy6 h => ?_; refine rc [(5, 512), (7, 1216)] [(64000, 1280)] (hfq33 _ _ _ _ hy6) zf ⟨_, rfl, _, _, rfl, fun _ _ _ _ => .refl _, ?_⟩; cbv; revert h; refine rb fun y7 hy8 => rq fun c10 h => ?_; refine rc [(5, 1280)] [(5, 1280)] (hfq23 _ _ _ _ hy8) yf ⟨_, rfl, LEN y5, _, c10, fun _ _ _ _ => .refl _, ?_⟩; cbv
  revert h; refine rq fun c9 h => ?_; injection h with h; subst h; refine ⟨(sp 137 [(4, .c (.ptr 256 0))] [(256, .var [.os 64000 0 (LEN y7)]), (64000, .arr .rw [] (LEN y7) 4 (row GD (oC LEN GD) y7))]), ?_, ?_⟩
  ·refine St.le_trans (le_ren 1280 64000 (by decide) rfl) ?_; rw [c9]; exact zb
  ·exact ⟨lR _, ⟨oS, tv⟩, rfl⟩
 revert h; refine fk ?_ ?_ <;> intro h <;> cbv
 ·revert h; refine rb fun y11 hy12 h => ?_; refine rc [(5, 512)] [(64000, 2176)] (hfq124 _ _ _ hy12) zf ⟨_, rfl, _, _, rfl, fun _ _ _ _ => .refl _, ?_⟩; cbv; revert h; refine rb fun y13 hy14 => rq fun c16 h => ?_; refine rc [(5, 2176)] [(5, 2176)] (hfq23 _ _ _ _ hy14) yf ⟨_, rfl, LEN y11, _, c16, fun _ _ _ _ => .refl _, ?_⟩; cbv
  revert h; refine rq fun c15 h => ?_; injection h with h; subst h; refine ⟨(sp 137 [(4, .c (.ptr 256 0))] [(256, .var [.os 64000 0 (LEN y13)]), (64000, .arr .rw [] (LEN y13) 4 (row GD (oC LEN GD) y13))]), ?_, ?_⟩
  ·refine St.le_trans (le_ren 2176 64000 (by decide) rfl) ?_; rw [c15]; exact zb
  ·exact ⟨lR _, ⟨oS, tv⟩, rfl⟩
 revert h; refine ra fun c17 h => ?_; revert h; refine cu (fun y18 => some (sp 137 [(4, .c (.ptr 256 0)), (5, .c (.ptr 320 0))] [(256, .var [.v (.slice none 0 0)]), (320, .var [.os 512 0 (LEN y1.fC)]), (512, .arr .rw [] (LEN y1.fC) 4 (row GD (oC LEN GD) y18))])) ?_ fun w24 => rz fun h => ?_
 ·intro y18 S hS h; cbv; revert h; refine fk ?_ ?_ <;> intro h <;> cbv
  ·revert h; refine cu (fun y25 => (sp 137 [(4, .c (.ptr 256 0)), (5, .c (.ptr 320 0))] [(256, .var [.v (.slice none 0 0)]), (320, .var [.os 512 0 (LEN y1.fC)]), (512, .arr .rw [] (LEN y1.fC) 4 (row GD (oC LEN GD) y25))])) ?_ fun w31 => rz fun h => ?_
   ·intro y25 S hS h; cbv; refine ai c17 ?_
    refine ⟨_, rfl, _, (pC (row GD (oC LEN GD) y1.fC) (A.nadd 0 (A.toN a1.fc)) [ws (GD y1.fC (A.nadd 0 (A.toN a1.fc))).fN, .os 3458 0 (LEN (GD y1.fC (A.nadd 0 (A.toN a1.fc))).fS), .ow (LEN (GD y1.fC (A.nadd 0 (A.toN a1.fc))).fL) 4 (row GD (eL) (GD y1.fC (A.nadd 0 (A.toN a1.fc))).fL), .ow (LEN (GD y1.fC (A.nadd 0 (A.toN a1.fc))).fI) 8 (row GD (eI) (GD y1.fC (A.nadd 0 (A.toN a1.fc))).fI)]), rfl, wkOf (patch_of zr), ?_⟩
    refine ⟨_, row GD (eS) (GD y1.fC (A.nadd 0 (A.toN a1.fc))).fS, rfl, wkOf (fun i _ j _ => plain_cp (pl_encShape _ _)), ?_⟩; cbv; revert h; refine rl fun l32 hl32 h => ?_; have e33 : 1 = LEN l32 := by subst hl32 hLEN; rfl
    refine ⟨_, (co e33), _, row GD (eS) l32, e33, wkOf ?_, ?_⟩
    ·intro i hi j hj; rw [<- e33] at hi; subst hl32; subst hGD; obtain rfl : i = 0 := (by omega) <;> obtain rfl | rfl | rfl | rfl | rfl : j = 0 \/ j = 1 \/ j = 2 \/ j = 3 \/ j = 4 := (by omega)
     all_goals rfl
    cbv; revert h; refine rb fun y34 hy35 h => ?_; refine rc [(5, 3458), (7, 3776)] [(64000, 3840)] (hfq28 _ _ _ _ hy35) zf ⟨_, rfl, _, _, rfl, fun _ _ _ _ => .refl _, ?_⟩; cbv; refine ai c17 ?_
    refine ⟨_, rfl, _, (pC (row GD (oC LEN GD) y1.fC) (A.nadd 0 (A.toN a1.fc)) [ws (GD y1.fC (A.nadd 0 (A.toN a1.fc))).fN, .os 3840 0 (LEN y34), .ow (LEN (GD y1.fC (A.nadd 0 (A.toN a1.fc))).fL) 4 (row GD (eL) (GD y1.fC (A.nadd 0 (A.toN a1.fc))).fL), .ow (LEN (GD y1.fC (A.nadd 0 (A.toN a1.fc))).fI) 8 (row GD (eI) (GD y1.fC (A.nadd 0 (A.toN a1.fc))).fI)]), rfl, wkOf ?_, ?_⟩
    ·first | refine patch_of2 ?_ | refine patch_of2K (fun _ _ => rC _ _) ?_
     intro j hj; match j, hj with | 0, _ => (rfl) | 1, _ => (rfl) | 2, _ => (rfl) | 3, _ => (rfl) | (j_ + 4), h_ => omega
    cbv; revert h; refine rl fun l36 hl36 h => ?_; injection h with h; subst h; subst hS; show St.le _ _; refine St.le_trans (le_foldP 512 1 3840 rfl rfl rfl (by decide) (by subst hA; exact ix c17) (by decide) rfl (fun _ _ => rC _ _)) ?_
    exact lsp rfl zl ⟨rfl, rfl, ⟨fun hw => hw, fun c hc => (by cases hc), .inr (fun i _ j _ z hz => (noref (rC _ _) hz).elim), rfl, rfl, (by subst hGD hLEN hA; exact patch_set hl36 (ix c17) (by intro j hj; match j, hj with | 0, _ => rfl | 1, _ => rfl | 2, _ => rfl | 3, _ => rfl | (j_ + 4), h_ => omega))⟩, tv⟩ rfl
   cbv; exact dn
  revert h; refine cu (fun y37 => some (sp 137 [(4, .c (.ptr 256 0)), (5, .c (.ptr 320 0))] [(256, .var [.v (.slice none 0 0)]), (320, .var [.os 512 0 (LEN y1.fC)]), (512, .arr .rw [] (LEN y1.fC) 4 (row GD (oC LEN GD) y37))])) ?_ fun w43 => rz fun h => ?_
  ·intro y37 S hS h; cbv; revert h; refine fk ?_ ?_ <;> intro h <;> cbv
   ·revert h; refine cu (fun y44 => (sp 137 [(4, .c (.ptr 256 0)), (5, .c (.ptr 320 0))] [(256, .var [.v (.slice none 0 0)]), (320, .var [.os 512 0 (LEN y1.fC)]), (512, .arr .rw [] (LEN y1.fC) 4 (row GD (oC LEN GD) y44))])) ?_ fun w50 => rz fun h => ?_
    ·intro y44 S hS h; cbv; refine ai c17 ?_
     refine ⟨_, rfl, _, (pC (row GD (oC LEN GD) y1.fC) (A.nadd 0 (A.toN a1.fc)) [ws (GD y1.fC (A.nadd 0 (A.toN a1.fc))).fN, .os 4418 0 (LEN (GD y1.fC (A.nadd 0 (A.toN a1.fc))).fS), .ow (LEN (GD y1.fC (A.nadd 0 (A.toN a1.fc))).fL) 4 (row GD (eL) (GD y1.fC (A.nadd 0 (A.toN a1.fc))).fL), .ow (LEN (GD y1.fC (A.nadd 0 (A.toN a1.fc))).fI) 8 (row GD (eI) (GD y1.fC (A.nadd 0 (A.toN a1.fc))).fI)]), rfl, wkOf (patch_of zr), ?_⟩
     refine ⟨_, row GD (eS) (GD y1.fC (A.nadd 0 (A.toN a1.fc))).fS, rfl, wkOf (fun i _ j _ => plain_cp (pl_encShape _ _)), ?_⟩; cbv; revert h; refine rb fun y51 hy52 h => ?_; refine rc [(5, 4418)] [(64000, 4608)] (hfq94 _ _ _ hy52) zf ⟨_, rfl, _, _, rfl, fun _ _ _ _ => .refl _, ?_⟩; cbv; refine ai c17 ?_
     refine ⟨_, rfl, _, (pC (row GD (oC LEN GD) y1.fC) (A.nadd 0 (A.toN a1.fc)) [ws (GD y1.fC (A.nadd 0 (A.toN a1.fc))).fN, .os 4608 0 (LEN y51), .ow (LEN (GD y1.fC (A.nadd 0 (A.toN a1.fc))).fL) 4 (row GD (eL) (GD y1.fC (A.nadd 0 (A.toN a1.fc))).fL), .ow (LEN (GD y1.fC (A.nadd 0 (A.toN a1.fc))).fI) 8 (row GD (eI) (GD y1.fC (A.nadd 0 (A.toN a1.fc))).fI)]), rfl, wkOf ?_, ?_⟩
     ·first | refine patch_of2 ?_ | refine patch_of2K (fun _ _ => rC _ _) ?_
      intro j hj; match j, hj with | 0, _ => (rfl) | 1, _ => (rfl) | 2, _ => (rfl) | 3, _ => (rfl) | (j_ + 4), h_ => omega
     cbv; revert h; refine rl fun l53 hl53 h => ?_; injection h with h; subst h; subst hS; show St.le _ _; refine St.le_trans (le_foldP 512 1 4608 rfl rfl rfl (by decide) (by subst hA; exact ix c17) (by decide) rfl (fun _ _ => rC _ _)) ?_
     exact lsp rfl zl ⟨rfl, rfl, ⟨fun hw => hw, fun c hc => (by cases hc), .inr (fun i _ j _ z hz => (noref (rC _ _) hz).elim), rfl, rfl, (by subst hGD hLEN hA; exact patch_set hl53 (ix c17) (by intro j hj; match j, hj with | 0, _ => rfl | 1, _ => rfl | 2, _ => rfl | 3, _ => rfl | (j_ + 4), h_ => omega))⟩, tv⟩ rfl
    cbv; exact dn
   revert h; refine cu (fun y54 => some (sp 137 [(4, .c (.ptr 256 0)), (5, .c (.ptr 320 0))] [(256, .var [.v (.slice none 0 0)]), (320, .var [.os 512 0 (LEN y1.fC)]), (512, .arr .rw [] (LEN y1.fC) 4 (row GD (oC LEN GD) y54))])) ?_ fun w60 => rz fun h => ?_
   ·intro y54 S hS h; cbv; revert h; refine fk ?_ ?_ <;> intro h <;> cbv
    ·revert h; refine cu (fun y61 => (sp 137 [(4, .c (.ptr 256 0)), (5, .c (.ptr 320 0))] [(256, .var [.v (.slice none 0 0)]), (320, .var [.os 512 0 (LEN y1.fC)]), (512, .arr .rw [] (LEN y1.fC) 4 (row GD (oC LEN GD) y61))])) ?_ fun w67 => rz fun h => ?_
     ·intro y61 S hS h; cbv; refine ai c17 ?_
      refine ⟨_, rfl, _, (pC (row GD (oC LEN GD) y1.fC) (A.nadd 0 (A.toN a1.fc)) [ws (GD y1.fC (A.nadd 0 (A.toN a1.fc))).fN, .ow (LEN (GD y1.fC (A.nadd 0 (A.toN a1.fc))).fS) 5 (row GD (eS) (GD y1.fC (A.nadd 0 (A.toN a1.fc))).fS), .os 5186 0 (LEN (GD y1.fC (A.nadd 0 (A.toN a1.fc))).fL), .ow (LEN (GD y1.fC (A.nadd 0 (A.toN a1.fc))).fI) 8 (row GD (eI) (GD y1.fC (A.nadd 0 (A.toN a1.fc))).fI)]), rfl, wkOf (patch_of zr), ?_⟩
      refine ⟨_, row GD (eL) (GD y1.fC (A.nadd 0 (A.toN a1.fc))).fL, rfl, wkOf (fun i _ j _ => plain_cp (pl_encLabel _ _)), ?_⟩; cbv; revert h; refine rl fun l68 hl68 h => ?_; have e69 : 1 = LEN l68 := by subst hl68 hLEN; rfl
      refine ⟨_, (co e69), _, row GD (eL) l68, e69, wkOf ?_, ?_⟩
      ·intro i hi j hj; rw [<- e69] at hi; subst hl68; subst hGD; obtain rfl : i = 0 := (by omega) <;> obtain rfl | rfl | rfl | rfl : j = 0 \/ j = 1 \/ j = 2 \/ j = 3 := (by omega)
       all_goals rfl
      cbv; revert h; refine rb fun y70 hy71 h => ?_; refine rc [(5, 5186), (7, 5504)] [(64000, 5568)] (hfq32 _ _ _ _ hy71) zf ⟨_, rfl, _, _, rfl, fun _ _ _ _ => .refl _, ?_⟩; cbv; refine ai c17 ?_
      refine ⟨_, rfl, _, (pC (row GD (oC LEN GD) y1.fC) (A.nadd 0 (A.toN a1.fc)) [ws (GD y1.fC (A.nadd 0 (A.toN a1.fc))).fN, .ow (LEN (GD y1.fC (A.nadd 0 (A.toN a1.fc))).fS) 5 (row GD (eS) (GD y1.fC (A.nadd 0 (A.toN a1.fc))).fS), .os 5568 0 (LEN y70), .ow (LEN (GD y1.fC (A.nadd 0 (A.toN a1.fc))).fI) 8 (row GD (eI) (GD y1.fC (A.nadd 0 (A.toN a1.fc))).fI)]), rfl, wkOf ?_, ?_⟩
      ·first | refine patch_of2 ?_ | refine patch_of2K (fun _ _ => rC _ _) ?_
       intro j hj; match j, hj with | 0, _ => (rfl) | 1, _ => (rfl) | 2, _ => (rfl) | 3, _ => (rfl) | (j_ + 4), h_ => omega
      cbv; revert h; refine rl fun l72 hl72 h => ?_; injection h with h; subst h; subst hS; show St.le _ _; refine St.le_trans (le_foldP 512 2 5568 rfl rfl rfl (by decide) (by subst hA; exact ix c17) (by decide) rfl (fun _ _ => rC _ _)) ?_
      exact lsp rfl zl ⟨rfl, rfl, ⟨fun hw => hw, fun c hc => (by cases hc), .inr (fun i _ j _ z hz => (noref (rC _ _) hz).elim), rfl, rfl, (by subst hGD hLEN hA; exact patch_set hl72 (ix c17) (by intro j hj; match j, hj with | 0, _ => rfl | 1, _ => rfl | 2, _ => rfl | 3, _ => rfl | (j_ + 4), h_ => omega))⟩, tv⟩ rfl
     cbv; exact dn
    revert h; refine cu (fun y73 => some (sp 137 [(4, .c (.ptr 256 0)), (5, .c (.ptr 320 0))] [(256, .var [.v (.slice none 0 0)]), (320, .var [.os 512 0 (LEN y1.fC)]), (512, .arr .rw [] (LEN y1.fC) 4 (row GD (oC LEN GD) y73))])) ?_ fun w79 => rz fun h => ?_
    ·intro y73 S hS h; cbv; revert h; refine fk ?_ ?_ <;> intro h <;> cbv
     ·revert h; refine cu (fun y80 => (sp 137 [(4, .c (.ptr 256 0)), (5, .c (.ptr 320 0))] [(256, .var [.v (.slice none 0 0)]), (320, .var [.os 512 0 (LEN y1.fC)]), (512, .arr .rw [] (LEN y1.fC) 4 (row GD (oC LEN GD) y80))])) ?_ fun w86 => rz fun h => ?_
      ·intro y80 S hS h; cbv; refine ai c17 ?_
       refine ⟨_, rfl, _, (pC (row GD (oC LEN GD) y1.fC) (A.nadd 0 (A.toN a1.fc)) [ws (GD y1.fC (A.nadd 0 (A.toN a1.fc))).fN, .ow (LEN (GD y1.fC (A.nadd 0 (A.toN a1.fc))).fS) 5 (row GD (eS) (GD y1.fC (A.nadd 0 (A.toN a1.fc))).fS), .os 6146 0 (LEN (GD y1.fC (A.nadd 0 (A.toN a1.fc))).fL), .ow (LEN (GD y1.fC (A.nadd 0 (A.toN a1.fc))).fI) 8 (row GD (eI) (GD y1.fC (A.nadd 0 (A.toN a1.fc))).fI)]), rfl, wkOf (patch_of zr), ?_⟩
       refine ⟨_, row GD (eL) (GD y1.fC (A.nadd 0 (A.toN a1.fc))).fL, rfl, wkOf (fun i _ j _ => plain_cp (pl_encLabel _ _)), ?_⟩; cbv; revert h; refine rb fun y87 hy88 h => ?_; refine rc [(5, 6146)] [(64000, 6336)] (hfq106 _ _ _ hy88) zf ⟨_, rfl, _, _, rfl, fun _ _ _ _ => .refl _, ?_⟩; cbv; refine ai c17 ?_
       refine ⟨_, rfl, _, (pC (row GD (oC LEN GD) y1.fC) (A.nadd 0 (A.toN a1.fc)) [ws (GD y1.fC (A.nadd 0 (A.toN a1.fc))).fN, .ow (LEN (GD y1.fC (A.nadd 0 (A.toN a1.fc))).fS) 5 (row GD (eS) (GD y1.fC (A.nadd 0 (A.toN a1.fc))).fS), .os 6336 0 (LEN y87), .ow (LEN (GD y1.fC (A.nadd 0 (A.toN a1.fc))).fI) 8 (row GD (eI) (GD y1.fC (A.nadd 0 (A.toN a1.fc))).fI)]), rfl, wkOf ?_, ?_⟩
       ·first | refine patch_of2 ?_ | refine patch_of2K (fun _ _ => rC _ _) ?_
        intro j hj; match j, hj with | 0, _ => (rfl) | 1, _ => (rfl) | 2, _ => (rfl) | 3, _ => (rfl) | (j_ + 4), h_ => omega
       cbv; revert h; refine rl fun l89 hl89 h => ?_; injection h with h; subst h; subst hS; show St.le _ _; refine St.le_trans (le_foldP 512 2 6336 rfl rfl rfl (by decide) (by subst hA; exact ix c17) (by decide) rfl (fun _ _ => rC _ _)) ?_
       exact lsp rfl zl ⟨rfl, rfl, ⟨fun hw => hw, fun c hc => (by cases hc), .inr (fun i _ j _ z hz => (noref (rC _ _) hz).elim), rfl, rfl, (by subst hGD hLEN hA; exact patch_set hl89 (ix c17) (by intro j hj; match j, hj with | 0, _ => rfl | 1, _ => rfl | 2, _ => rfl | 3, _ => rfl | (j_ + 4), h_ => omega))⟩, tv⟩ rfl
      cbv; exact dn
     revert h; refine cu (fun y90 => some (sp 137 [(4, .c (.ptr 256 0)), (5, .c (.ptr 320 0))] [(256, .var [.v (.slice none 0 0)]), (320, .var [.os 512 0 (LEN y1.fC)]), (512, .arr .rw [] (LEN y1.fC) 4 (row GD (oC LEN GD) y90))])) ?_ fun w96 => rz fun h => ?_
     ·intro y90 S hS h; cbv; revert h; refine fk ?_ ?_ <;> intro h <;> cbv
      ·revert h; refine cu (fun y97 => (sp 137 [(4, .c (.ptr 256 0)), (5, .c (.ptr 320 0))] [(256, .var [.v (.slice none 0 0)]), (320, .var [.os 512 0 (LEN y1.fC)]), (512, .arr .rw [] (LEN y1.fC) 4 (row GD (oC LEN GD) y97))])) ?_ fun w103 => rz fun h => ?_
       ·intro y97 S hS h; cbv; refine ai c17 ?_
        refine ⟨_, rfl, _, (pC (row GD (oC LEN GD) y1.fC) (A.nadd 0 (A.toN a1.fc)) [ws (GD y1.fC (A.nadd 0 (A.toN a1.fc))).fN, .ow (LEN (GD y1.fC (A.nadd 0 (A.toN a1.fc))).fS) 5 (row GD (eS) (GD y1.fC (A.nadd 0 (A.toN a1.fc))).fS), .ow (LEN (GD y1.fC (A.nadd 0 (A.toN a1.fc))).fL) 4 (row GD (eL) (GD y1.fC (A.nadd 0 (A.toN a1.fc))).fL), .os 6914 0 (LEN (GD y1.fC (A.nadd 0 (A.toN a1.fc))).fI)]), rfl, wkOf (patch_of zr), ?_⟩
        refine ⟨_, row GD (eI) (GD y1.fC (A.nadd 0 (A.toN a1.fc))).fI, rfl, wkOf (fun i _ j _ => plain_cp (pl_encInstance _ _)), ?_⟩; cbv; revert h; refine rl fun l104 hl104 h => ?_; have e105 : 1 = LEN l104 := by subst hl104 hLEN; rfl
        refine ⟨_, (co e105), _, row GD (eI) l104, e105, wkOf ?_, ?_⟩
        ·intro i hi j hj; rw [<- e105] at hi; subst hl104; subst hGD; obtain rfl : i = 0 := (by omega) <;> obtain rfl | rfl | rfl | rfl | rfl | rfl | rfl | rfl : j = 0 \/ j = 1 \/ j = 2 \/ j = 3 \/ j = 4 \/ j = 5 \/ j = 6 \/ j = 7 := (by omega)
         all_goals rfl
        cbv; revert h; refine rb fun y106 hy107 h => ?_; refine rc [(5, 6914), (7, 7232)] [(64000, 7296)] (hfq30 _ _ _ _ hy107) zf ⟨_, rfl, _, _, rfl, fun _ _ _ _ => .refl _, ?_⟩; cbv; refine ai c17 ?_
        refine ⟨_, rfl, _, (pC (row GD (oC LEN GD) y1.fC) (A.nadd 0 (A.toN a1.fc)) [ws (GD y1.fC (A.nadd 0 (A.toN a1.fc))).fN, .ow (LEN (GD y1.fC (A.nadd 0 (A.toN a1.fc))).fS) 5 (row GD (eS) (GD y1.fC (A.nadd 0 (A.toN a1.fc))).fS), .ow (LEN (GD y1.fC (A.nadd 0 (A.toN a1.fc))).fL) 4 (row GD (eL) (GD y1.fC (A.nadd 0 (A.toN a1.fc))).fL), .os 7296 0 (LEN y106)]), rfl, wkOf ?_, ?_⟩
        ·first | refine patch_of2 ?_ | refine patch_of2K (fun _ _ => rC _ _) ?_
         intro j hj; match j, hj with | 0, _ => (rfl) | 1, _ => (rfl) | 2, _ => (rfl) | 3, _ => (rfl) | (j_ + 4), h_ => omega
        cbv; revert h; refine rl fun l108 hl108 h => ?_; injection h with h; subst h; subst hS; show St.le _ _; refine St.le_trans (le_foldP 512 3 7296 rfl rfl rfl (by decide) (by subst hA; exact ix c17) (by decide) rfl (fun _ _ => rC _ _)) ?_
        exact lsp rfl zl ⟨rfl, rfl, ⟨fun hw => hw, fun c hc => (by cases hc), .inr (fun i _ j _ z hz => (noref (rC _ _) hz).elim), rfl, rfl, (by subst hGD hLEN hA; exact patch_set hl108 (ix c17) (by intro j hj; match j, hj with | 0, _ => rfl | 1, _ => rfl | 2, _ => rfl | 3, _ => rfl | (j_ + 4), h_ => omega))⟩, tv⟩ rfl
       cbv; exact dn
      revert h; refine cu (fun y109 => some (sp 137 [(4, .c (.ptr 256 0)), (5, .c (.ptr 320 0))] [(256, .var [.v (.slice none 0 0)]), (320, .var [.os 512 0 (LEN y1.fC)]), (512, .arr .rw [] (LEN y1.fC) 4 (row GD (oC LEN GD) y109))])) ?_ fun w115 => rz fun h => ?_
      ·intro y109 S hS h; cbv; revert h; refine fk ?_ ?_ <;> intro h <;> cbv
       ·revert h; refine cu (fun y116 => (sp 137 [(4, .c (.ptr 256 0)), (5, .c (.ptr 320 0))] [(256, .var [.v (.slice none 0 0)]), (320, .var [.os 512 0 (LEN y1.fC)]), (512, .arr .rw [] (LEN y1.fC) 4 (row GD (oC LEN GD) y116))])) ?_ fun w122 => rz fun h => ?_
        ·intro y116 S hS h; cbv; refine ai c17 ?_
         refine ⟨_, rfl, _, (pC (row GD (oC LEN GD) y1.fC) (A.nadd 0 (A.toN a1.fc)) [ws (GD y1.fC (A.nadd 0 (A.toN a1.fc))).fN, .ow (LEN (GD y1.fC (A.nadd 0 (A.toN a1.fc))).fS) 5 (row GD (eS) (GD y1.fC (A.nadd 0 (A.toN a1.fc))).fS), .ow (LEN (GD y1.fC (A.nadd 0 (A.toN a1.fc))).fL) 4 (row GD (eL) (GD y1.fC (A.nadd 0 (A.toN a1.fc))).fL), .os 7874 0 (LEN (GD y1.fC (A.nadd 0 (A.toN a1.fc))).fI)]), rfl, wkOf (patch_of zr), ?_⟩
         refine ⟨_, row GD (eI) (GD y1.fC (A.nadd 0 (A.toN a1.fc))).fI, rfl, wkOf (fun i _ j _ => plain_cp (pl_encInstance _ _)), ?_⟩; cbv; revert h; refine rb fun y123 hy124 h => ?_; refine rc [(5, 7874)] [(64000, 8064)] (hfq112 _ _ _ hy124) zf ⟨_, rfl, _, _, rfl, fun _ _ _ _ => .refl _, ?_⟩; cbv; refine ai c17 ?_
         refine ⟨_, rfl, _, (pC (row GD (oC LEN GD) y1.fC) (A.nadd 0 (A.toN a1.fc)) [ws (GD y1.fC (A.nadd 0 (A.toN a1.fc))).fN, .ow (LEN (GD y1.fC (A.nadd 0 (A.toN a1.fc))).fS) 5 (row GD (eS) (GD y1.fC (A.nadd 0 (A.toN a1.fc))).fS), .ow (LEN (GD y1.fC (A.nadd 0 (A.toN a1.fc))).fL) 4 (row GD (eL) (GD y1.fC (A.nadd 0 (A.toN a1.fc))).fL), .os 8064 0 (LEN y123)]), rfl, wkOf ?_, ?_⟩
         ·first | refine patch_of2 ?_ | refine patch_of2K (fun _ _ => rC _ _) ?_
          intro j hj; match j, hj with | 0, _ => (rfl) | 1, _ => (rfl) | 2, _ => (rfl) | 3, _ => (rfl) | (j_ + 4), h_ => omega
         cbv; revert h; refine rl fun l125 hl125 h => ?_; injection h with h; subst h; subst hS; show St.le _ _; refine St.le_trans (le_foldP 512 3 8064 rfl rfl rfl (by decide) (by subst hA; exact ix c17) (by decide) rfl (fun _ _ => rC _ _)) ?_
         exact lsp rfl zl ⟨rfl, rfl, ⟨fun hw => hw, fun c hc => (by cases hc), .inr (fun i _ j _ z hz => (noref (rC _ _) hz).elim), rfl, rfl, (by subst hGD hLEN hA; exact patch_set hl125 (ix c17) (by intro j hj; match j, hj with | 0, _ => rfl | 1, _ => rfl | 2, _ => rfl | 3, _ => rfl | (j_ + 4), h_ => omega))⟩, tv⟩ rfl
        cbv; exact dn
       revert h; refine cu (fun y126 => some (sp 137 [(4, .c (.ptr 256 0)), (5, .c (.ptr 320 0))] [(256, .var [.v (.slice none 0 0)]), (320, .var [.os 512 0 (LEN y1.fC)]), (512, .arr .rw [] (LEN y1.fC) 4 (row GD (oC LEN GD) y126))])) ?_ fun w132 => rz fun h => ?_
       ·intro y126 S hS h; cbv; revert h; refine fk ?_ ?_ <;> intro h <;> cbv
        ·revert h; refine cu (fun y133 => (sp 137 [(4, .c (.ptr 256 0)), (5, .c (.ptr 320 0))] [(256, .var [.v (.slice none 0 0)]), (320, .var [.os 512 0 (LEN y1.fC)]), (512, .arr .rw [] (LEN y1.fC) 4 (row GD (oC LEN GD) y133))])) ?_ fun w139 => rz fun h => ?_
         ·intro y133 S hS h; cbv; refine ai c17 ?_
          refine ⟨_, rfl, _, (pC (row GD (oC LEN GD) y1.fC) (A.nadd 0 (A.toN a1.fc)) [ws a1.fN, .ow (LEN (GD y1.fC (A.nadd 0 (A.toN a1.fc))).fS) 5 (row GD (eS) (GD y1.fC (A.nadd 0 (A.toN a1.fc))).fS), .ow (LEN (GD y1.fC (A.nadd 0 (A.toN a1.fc))).fL) 4 (row GD (eL) (GD y1.fC (A.nadd 0 (A.toN a1.fc))).fL), .ow (LEN (GD y1.fC (A.nadd 0 (A.toN a1.fc))).fI) 8 (row GD (eI) (GD y1.fC (A.nadd 0 (A.toN a1.fc))).fI)]), rfl, wkOf (patch_of zr), ?_⟩
          cbv; revert h; refine rl fun l140 hl140 h => ?_; injection h with h; subst h; subst hS; show St.le _ _
          exact lsp rfl zl ⟨rfl, rfl, ⟨fun hw => hw, fun c hc => (by cases hc), .inr (fun i _ j _ z hz => (noref (rC _ _) hz).elim), rfl, rfl, (by subst hGD hLEN hA; exact patch_set hl140 (ix c17) (by intro j hj; match j, hj with | 0, _ => rfl | 1, _ => rfl | 2, _ => rfl | 3, _ => rfl | (j_ + 4), h_ => omega))⟩, tv⟩ rfl
         cbv; exact dn
        exact dn
       cbv; exact dn
      cbv; exact dn
     cbv; exact dn
    cbv; exact dn
   cbv; exact dn
  cbv; exact dn
 cbv; revert h; refine rq fun c148 h => ?_; injection h with h; subst h; refine ⟨(sp 137 [(4, .c (.ptr 256 0))] [(256, .var [.os 64000 0 (LEN w24)]), (64000, .arr .rw [] (LEN w24) 4 (row GD (oC LEN GD) w24))]), ?_, ?_⟩
 ·refine St.le_trans (le_ren 512 64000 (by decide) rfl) ?_; rw [c148]; exact zb
 ·exact ⟨lR _, ⟨oS, tv⟩, rfl⟩
set_option maxHeartbeats 4000000
def Lq36_x4 (a0 : List TE) : (Int × Int × (List TE)) -> Option ((Int × Int × (List TE)) ⊕ (((List TE)))) := fun x4 =>
 letO x4.1 fun v1 =>
 letO x4.2.1 fun v2 =>
 letO x4.2.2 fun v3 =>
 br (std.lt v1 v2)
 (req (std.inR v2 (len a0)) <|
 req (std.inR v1 (len a0)) <|
 req (std.inR v1 (len a0)) <|
 req (len a0 = len v3) <|
 letO (List.set v3 (std.nadd 0 (std.toN v1)) (gd v3 (std.nadd 0 (std.toN v2)))) fun l19 =>
 req (std.inR v2 (len a0)) <|
 req (len a0 = len l19) <|
 letO (List.set l19 (std.nadd 0 (std.toN v2)) (gd v3 (std.nadd 0 (std.toN v1)))) fun l21 =>
 some (.inl (std.add .i64 v1 1, std.sub .i64 v2 1, l21)))
 (some (.inr v3))
/-- impl.Edit] -/
def Fq36 (a0 : List TE) : Option (List TE) :=
 (whileP (σ := Int × Int × (List TE)) (ρ := ((List TE))) (Lq36_x4 a0) (0, std.sub .i64 (std.ofN (len a0)) 1, a0)).bind fun y5 =>
 letO y5 fun y5k0 =>
 letO y5k0 fun w25 =>
 req (len a0 = len w25) <|
 some w25
theorem runq36 (a0 : List TE) (r : List TE) (h : Fq36 a0 = some r) : Fun Tryz.prog 136 [.c (.os 5 0 (len a0))] [(5, .arr .rw [] (len a0) 21 (row gd (eE) a0))] (.tup []) [(5, .arr .rw [] (len r) 21 (row gd (eE) r))] true := by
 refine Fun.of_wp (oneOf []) tok mixed Tryz.func136 (by kernel_rfl) rfl Tryz.ntmps136 rfl ⟨fun i _ j _ k hk => (noref (plain_nil (pl_encEdit _ _)) hk).elim, tv⟩ (fun _ => ⟨(by simp [AV.flat, AV.flat1, AC.flat]), ⟨fun i _ j _ => val_flat (vl_encEdit _ _), tv⟩⟩) ?_; unfold Fq36 at h; unfold Lq36_x4 at h
 generalize hLEN : @len = LEN, hGD : @gd = GD, hA : std = A, hP : Tryz.prog = P at *; cbv; revert h; refine ln (.exit 0) (fun x => (sp 28 [(0, .c (.os 5 0 (LEN a0))), (2, .c (wi x.1)), (3, .c (wi x.2.1))] [(5, .arr .rw [] (LEN a0) 21 (row GD (eE) x.2.2))])) (fun w => (sp 28 [] [(5, .arr .rw [] (LEN a0) 21 (row GD (eE) w))])) zb ?_ ?_
 ·rintro ⟨v1, v2, v3⟩ z h K hK hY; replace h := oz (oz (oz h)); dsimp only at h; cbv; revert h; refine fk ?_ ?_ <;> intro h <;> cbv
  ·revert h; refine ra fun c16 h => ?_; refine ai c16 ?_; revert h; refine ra fun c17 h => ?_; refine ai c17 ?_; revert h; refine ra fun c18 h => ?_; revert h; refine rq fun c23 => rl fun l19 hl19 h => ?_; refine ai c18 ?_; refine ⟨_, rfl, _, row GD (eE) l19, rfl, wkOf ?_, ?_⟩
   ·subst hGD hLEN hA; rw [c23] at c18; refine upd_set hl19 (ix c18) ?_ ?_
    ·intro b hb hh
     match b, hb, hh with | 0, _, hh => exact rfl | 1, _, hh => exact rfl | 2, _, hh => exact rfl | 3, _, hh => exact rfl | 4, _, hh => exact rfl | 5, _, hh => exact rfl | 6, _, hh => exact rfl | 7, _, hh => exact rfl | 8, _, hh => exact rfl | 9, _, hh => exact rfl | 10, _, hh => exact rfl | 11, _, hh => exact rfl | 12, _, hh => exact rfl | 13, _, hh => exact rfl | 14, _, hh => exact rfl | 15, _, hh => exact rfl | 16, _, hh => exact rfl | 17, _, hh => exact rfl | 18, _, hh => exact rfl | 19, _, hh => exact rfl | 20, _, hh => exact rfl | (b_ + 21), h_, _ => omega
    ·intro b hb hh
     match b, hb, hh with | 0, _, hh => exact (hh (yd rfl)).elim | 1, _, hh => exact (hh (yd rfl)).elim | 2, _, hh => exact (hh (yd rfl)).elim | 3, _, hh => exact (hh (yd rfl)).elim | 4, _, hh => exact (hh (yd rfl)).elim | 5, _, hh => exact (hh (yd rfl)).elim | 6, _, hh => exact (hh (yd rfl)).elim | 7, _, hh => exact (hh (yd rfl)).elim | 8, _, hh => exact (hh (yd rfl)).elim | 9, _, hh => exact (hh (yd rfl)).elim | 10, _, hh => exact (hh (yd rfl)).elim | 11, _, hh => exact (hh (yd rfl)).elim | 12, _, hh => exact (hh (yd rfl)).elim | 13, _, hh => exact (hh (yd rfl)).elim | 14, _, hh => exact (hh (yd rfl)).elim | 15, _, hh => exact (hh (yd rfl)).elim | 16, _, hh => exact (hh (yd rfl)).elim | 17, _, hh => exact (hh (yd rfl)).elim | 18, _, hh => exact (hh (yd rfl)).elim | 19, _, hh => exact (hh (yd rfl)).elim | 20, _, hh => exact (hh (yd rfl)).elim | (b_ + 21), h_, _ => omega
   cbv; revert h; refine ra fun c20 h => ?_; revert h; refine rq fun c22 => rl fun l21 hl21 h => ?_; refine ai c20 ?_; refine ⟨_, rfl, _, row GD (eE) l21, rfl, wkOf ?_, ?_⟩
   ·subst hGD hLEN hA; rw [c22] at c20; refine upd_set hl21 (ix c20) ?_ ?_
    ·intro b hb hh
     match b, hb, hh with | 0, _, hh => exact rfl | 1, _, hh => exact rfl | 2, _, hh => exact rfl | 3, _, hh => exact rfl | 4, _, hh => exact rfl | 5, _, hh => exact rfl | 6, _, hh => exact rfl | 7, _, hh => exact rfl | 8, _, hh => exact rfl | 9, _, hh => exact rfl | 10, _, hh => exact rfl | 11, _, hh => exact rfl | 12, _, hh => exact rfl | 13, _, hh => exact rfl | 14, _, hh => exact rfl | 15, _, hh => exact rfl | 16, _, hh => exact rfl | 17, _, hh => exact rfl | 18, _, hh => exact rfl | 19, _, hh => exact rfl | 20, _, hh => exact rfl | (b_ + 21), h_, _ => omega
    ·intro b hb hh
     match b, hb, hh with | 0, _, hh => exact (hh (yd rfl)).elim | 1, _, hh => exact (hh (yd rfl)).elim | 2, _, hh => exact (hh (yd rfl)).elim | 3, _, hh => exact (hh (yd rfl)).elim | 4, _, hh => exact (hh (yd rfl)).elim | 5, _, hh => exact (hh (yd rfl)).elim | 6, _, hh => exact (hh (yd rfl)).elim | 7, _, hh => exact (hh (yd rfl)).elim | 8, _, hh => exact (hh (yd rfl)).elim | 9, _, hh => exact (hh (yd rfl)).elim | 10, _, hh => exact (hh (yd rfl)).elim | 11, _, hh => exact (hh (yd rfl)).elim | 12, _, hh => exact (hh (yd rfl)).elim | 13, _, hh => exact (hh (yd rfl)).elim | 14, _, hh => exact (hh (yd rfl)).elim | 15, _, hh => exact (hh (yd rfl)).elim | 16, _, hh => exact (hh (yd rfl)).elim | 17, _, hh => exact (hh (yd rfl)).elim | 18, _, hh => exact (hh (yd rfl)).elim | 19, _, hh => exact (hh (yd rfl)).elim | 20, _, hh => exact (hh (yd rfl)).elim | (b_ + 21), h_, _ => omega
   cbv; exact dm
  exact dx
 intro w25 h s q13; replace h := oz (oz h); cbv; refine ⟨_, q13, ?_⟩; cbv; revert h; refine rq fun c26 h => ?_; injection h with h; subst h; refine ⟨(sp 28 [] [(5, .arr .rw [] (LEN w25) 21 (row GD (eE) w25))]), ?_, ?_⟩
 ·rw [c26]; exact zb
 ·exact ⟨lR _, ⟨oS, tv⟩, rfl⟩

def Lq39_x18 (a1 : List TE) : (Int × (List TE) × (List TC)) -> Option ((Int × (List TE) × (List TC)) ⊕ ((Int × Int) ⊕ ((List TE) × (List TC)))) := fun x18 =>
 letO x18.1 fun v15 =>
 letO x18.2.1 fun v16 =>
 letO x18.2.2 fun v17 =>
 br (std.lt v15 (std.ofN (len a1)))
 (req (std.inR v15 (len a1)) <|
 (Fq91 (TL.mk v17) (gd a1 (std.toN v15))).bind fun y31 =>
 br (std.not (std.eq y31 0))
 (some (.inr (.inl (y31, v15))))
 ((Fq29 (TL.mk v17) (gd a1 (std.toN v15))).bind fun y33 =>
 letO ([y33] : List TE) fun l35 =>
 req (std.room (std.nadd (len v16) (len l35)) 184) <|
 letO (v16 ++ l35) fun l37 =>
 (Fq120 (TL.mk v17) (gd a1 (std.toN v15))).bind fun y40 =>
 some (.inl (std.add .i64 v15 1, l37, y40.fC))))
 (some (.inr (.inr (v16, v17))))
/-- impl.applyAll -/
def Fq39 (a0 : TL) (a1 : List TE) : Option (TL × (List TE) × Int × Int) :=
 (Fq26 a0).bind fun y1 =>
 br (!(y1))
 (some ((TL.mk ([] : List TC)), ([] : List TE), (1 : Int), ((-1) : Int)))
 (((
 br (std.lt (std.ofN (len a1)) 1)
 (some true)
 (some (std.lt 8 (std.ofN (len a1))))
 ) : Option (Bool)).bind fun y3 =>
 letO y3 fun w9 =>
 br w9
 (some ((TL.mk ([] : List TC)), ([] : List TE), (3 : Int), ((-1) : Int)))
 ((Fq34 a0).bind fun y11 =>
 letO ([] : List TE) fun l13 =>
 (whileP (σ := Int × (List TE) × (List TC)) (ρ := (Int × Int) ⊕ ((List TE) × (List TC))) (Lq39_x18 a1) (0, l13, y11.fC)).bind fun y19 =>
 (match y19 with
 | .inl y19k0 => (
 letO y19k0.1 fun w44 =>
 letO y19k0.2 fun w45 =>
 some ((TL.mk ([] : List TC)), ([] : List TE), w44, w45))
 | .inr y19m0 =>
 letO y19m0 fun y19k1 =>
 letO y19k1.1 fun w46 =>
 letO y19k1.2 fun w47 =>
 (Fq36 w46).bind fun y48 =>
 req (len y48 = len w46) <|
 req (len w46 = len y48) <|
 some ((TL.mk w47), y48, (0 : Int), ((-1) : Int)))))
theorem runq39 (a0 : TL) (a1 : List TE) (r : TL × (List TE) × Int × Int) (h : Fq39 a0 a1 = some r) : Fun Tryz.prog 70 [.agg [.bs (len a0.fC) 4 (row gd (eC len gd) a0.fC)], .c (.bs (len a1) 21 (row gd (eE) a1))] [] (.tup [.agg [.os 64000 0 (len r.1.fC)], .c (.os 64002 0 (len r.2.1)), .c (wi r.2.2.1), .c (wi r.2.2.2)]) [(64000, .arr .rw [] (len r.1.fC) 4 (row gd (oC len gd) r.1.fC)), (64002, .arr .rw [] (len r.2.1) 21 (row gd (eE) r.2.1))] true := by
 refine Fun.of_wp (oneOf [3]) tok mixed Tryz.func70 (by kernel_rfl) rfl Tryz.ntmps70 rfl trivial (fun _ => ⟨(by simp [AV.flat, AV.flat1, AC.flat]), ⟨fun i _ j _ => fl_oncCell _ _, fun i _ j _ => val_flat (vl_encEdit _ _), tv⟩⟩) ?_; unfold Fq39 at h; unfold Lq39_x18 at h; have hfq26 := @runq26
 have hfq34 := @runq34; have hfq91 := @runq91; have hfq120 := @runq120; have hfq29 := @runq29; have hfq36 := @runq36; generalize hLEN : @len = LEN, hGD : @gd = GD, hA : std = A, hP : Tryz.prog = P at *; cbv
 revert h; refine rb fun y1 hy2 h => ?_; refine rc [] [] (hfq26 _ _ hy2) zf ?_; cbv; revert h; refine fk ?_ ?_ <;> intro h <;> cbv
 ·injection h with h; subst h
  refine ⟨(sp 58 [(4, .c (.ptr 256 0)), (5, .c (.os 64002 0 (LEN ([] : List TE)))), (6, .c (wi 1)), (7, .c (wi (-1)))] [(256, .var [.os 64000 0 (LEN ([] : List TC))]), (64002, .arr .rw [] (LEN ([] : List TE)) 21 (row GD (eE) ([] : List TE))), (64000, .arr .rw [] (LEN ([] : List TC)) 4 (row GD (oC LEN GD) ([] : List TC)))]), ?_, ?_⟩
  ·refine St.le_trans (le_nilV 256 0 64000 4 (row GD (oC LEN GD) ([] : List TC)) (by decide) (by decide) rfl rfl) ?_; refine St.le_trans (le_nilT 5 64002 21 (row GD (eE) ([] : List TE)) (by decide) rfl) ?_; subst hLEN; exact zb
  ·subst hLEN; exact ⟨lR _, ⟨oS, oS, tv⟩, rfl⟩
 revert h; refine cu (fun y3 => (sp 58 [(1, .c (.bs (LEN a1) 21 (row GD (eE) a1))), (2, .c (.ptr 128 0)), (4, .c (.ptr 256 0)), (24, .c (.v (.bool y3)))] [(128, .var [.bs (LEN a0.fC) 4 (row GD (eC LEN GD) a0.fC)]), (256, .var [.v (.slice none 0 0)])])) (fun y3 S hS h => rg) fun w9 => rz fun h => ?_; cbv; revert h; refine fk ?_ ?_ <;> intro h <;> cbv
 ·injection h with h; subst h
  refine ⟨(sp 58 [(4, .c (.ptr 256 0)), (5, .c (.os 64002 0 (LEN ([] : List TE)))), (6, .c (wi 3)), (7, .c (wi (-1)))] [(256, .var [.os 64000 0 (LEN ([] : List TC))]), (64002, .arr .rw [] (LEN ([] : List TE)) 21 (row GD (eE) ([] : List TE))), (64000, .arr .rw [] (LEN ([] : List TC)) 4 (row GD (oC LEN GD) ([] : List TC)))]), ?_, ?_⟩
  ·refine St.le_trans (le_nilV 256 0 64000 4 (row GD (oC LEN GD) ([] : List TC)) (by decide) (by decide) rfl rfl) ?_; refine St.le_trans (le_nilT 5 64002 21 (row GD (eE) ([] : List TE)) (by decide) rfl) ?_; subst hLEN; exact zb
  ·subst hLEN; exact ⟨lR _, ⟨oS, oS, tv⟩, rfl⟩
 revert h; refine rb fun y11 hy12 h => ?_; refine rc [] [(64000, 1728)] (hfq34 _ _ hy12) zf ⟨_, rfl, _, _, rfl, fun _ _ _ _ => .refl _, ?_⟩; cbv; revert h; refine rl fun l13 hl13 h => ?_; have e14 : 0 = LEN l13 := by subst hl13 hLEN; rfl
 refine ⟨_, (co e14), _, row GD (eE) l13, e14, wkOf ?_, ?_⟩
 ·intro i hi j hj; rw [<- e14] at hi; subst hl13; subst hGD; omega
 cbv
 revert h; refine lc (fun x => (sp 58 [(4, .c (.ptr 256 0)), (8, .c (.ptr 512 0)), (9, .c (.os 1792 0 (LEN x.2.1))), (29, .c (.bs (LEN a1) 21 (row GD (eE) a1))), (30, .c (wi (A.ofN (LEN a1)))), (31, .c (wi x.1))] [(256, .var [.v (.slice none 0 0)]), (512, .var [.os 62000 0 (LEN x.2.2)]), (1792, .arr .rw [] (LEN x.2.1) 21 (row GD (eE) x.2.1)), (62000, .arr .rw [] (LEN x.2.2) 4 (row GD (oC LEN GD) x.2.2))])) (fun y e s => (match y with | .inl w => e = .ret /\ s.le (sp 58 [(4, .c (.ptr 256 0)), (5, .c (.v (.slice none 0 0))), (6, .c (wi w.1)), (7, .c (wi w.2))] [(256, .var [.v (.slice none 0 0)])]) | .inr w0 => (fun (w : (List TE) × (List TC)) => e = .exit 0 /\ s.le (sp 58 [(4, .c (.ptr 256 0)), (8, .c (.ptr 512 0)), (9, .c (.os 1792 0 (LEN w.1)))] [(256, .var [.v (.slice none 0 0)]), (512, .var [.os 62000 0 (LEN w.2)]), (1792, .arr .rw [] (LEN w.1) 21 (row GD (eE) w.1)), (62000, .arr .rw [] (LEN w.2) 4 (row GD (oC LEN GD) w.2))])) w0)) ?_ ?_ ?_
 ·show St.le _ _; refine St.le_trans (le_ren 1728 62000 (by decide) rfl) ?_; exact zb
 ·rintro ⟨v15, v16, v17⟩ z h K hK hY; replace h := oz (oz (oz h)); dsimp only at h; cbv; revert h; refine fk ?_ ?_ <;> intro h <;> cbv
  ·revert h; refine ra fun c30 h => ?_; revert h; refine rb fun y31 hy32 h => ?_; refine rc [] [] (hfq91 _ _ _ hy32) (zg (lc_ (le_agg ⟨give_osD (rC) (ln_oncCell) rfl rfl rfl, tv⟩) (zs1))) ?_; cbv; revert h; refine fk ?_ ?_ <;> intro h <;> cbv
   ·exact dy
   revert h; refine rb fun y33 hy34 h => ?_; refine rc [] [] (hfq29 _ _ _ hy34) (zg (lc_ (le_agg ⟨give_osD (rC) (ln_oncCell) rfl rfl rfl, tv⟩) (zs1))) ?_; cbv; revert h; refine rl fun l35 hl35 h => ?_; have e36 : 1 = LEN l35 := by subst hl35 hLEN; rfl
   refine ⟨_, (co e36), _, row GD (eE) l35, e36, wkOf ?_, ?_⟩
   ·intro i hi j hj; rw [<- e36] at hi; subst hl35; subst hGD
    obtain rfl : i = 0 := (by omega) <;> obtain rfl | rfl | rfl | rfl | rfl | rfl | rfl | rfl | rfl | rfl | rfl | rfl | rfl | rfl | rfl | rfl | rfl | rfl | rfl | rfl | rfl : j = 0 \/ j = 1 \/ j = 2 \/ j = 3 \/ j = 4 \/ j = 5 \/ j = 6 \/ j = 7 \/ j = 8 \/ j = 9 \/ j = 10 \/ j = 11 \/ j = 12 \/ j = 13 \/ j = 14 \/ j = 15 \/ j = 16 \/ j = 17 \/ j = 18 \/ j = 19 \/ j = 20 := (by omega)
    all_goals rfl
   cbv; revert h; refine rq fun c39 => rl fun l37 hl37 h => ?_; have e38 := nl hA hLEN hl37; refine ⟨c39, _, (co e38), _, row GD (eE) l37, e38, wkOf ?_, ?_⟩
   ·subst hGD hLEN hA; exact app_os (off := 0) (pl_encEdit) hl37 (Nat.le_refl _)
   cbv; revert h; refine rb fun y40 hy41 h => ?_; refine rc [] [(64000, 3328)] (hfq120 _ _ _ hy41) (zg (lc_ (le_agg ⟨give_osD (rC) (ln_oncCell) rfl rfl rfl, tv⟩) (zs1))) ⟨_, rfl, _, _, rfl, fun _ _ _ _ => .refl _, ?_⟩; cbv; injection h with h; refine hK _ h.symm _ ?_; refine St.le_trans (le_swap 3328 62000 (by decide) (by decide)) ?_; exact zb
  exact dy
 intro y19 h e28 s29 q27 hne; rcases y19 with y19k0 | y19m0
 ·replace h := h; obtain ⟨rfl, q27⟩ := q27; obtain ⟨y19k0_0, y19k0_1⟩ := y19k0; revert h; refine rl fun w44 hw44 h => ?_; have hw44 : w44 = y19k0_0 := hw44; subst hw44; revert h; refine rz fun h => ?_; cbv; injection h with h; subst h
  refine ⟨(sp 58 [(4, .c (.ptr 256 0)), (5, .c (.os 64002 0 (LEN ([] : List TE)))), (6, .c (wi w44)), (7, .c (wi y19k0_1))] [(256, .var [.os 64000 0 (LEN ([] : List TC))]), (64002, .arr .rw [] (LEN ([] : List TE)) 21 (row GD (eE) ([] : List TE))), (64000, .arr .rw [] (LEN ([] : List TC)) 4 (row GD (oC LEN GD) ([] : List TC)))]), ?_, ?_⟩
  ·refine St.le_trans q27 ?_; refine St.le_trans (le_nilV 256 0 64000 4 (row GD (oC LEN GD) ([] : List TC)) (by decide) (by decide) rfl rfl) ?_; refine St.le_trans (le_nilT 5 64002 21 (row GD (eE) ([] : List TE)) (by decide) rfl) ?_; subst hLEN; exact zb
  ·subst hLEN; exact ⟨lR _, ⟨oS, oS, tv⟩, rfl⟩
 ·revert h; refine rz fun h => ?_; obtain ⟨rfl, q27⟩ := q27; obtain ⟨y19k1_0, y19k1_1⟩ := y19m0; revert h; refine rl fun w46 hw46 h => ?_; have hw46 : w46 = y19k1_0 := hw46; subst hw46; revert h; refine rz fun h => ?_; cbv; refine ⟨_, q27, ?_⟩; cbv; revert h; refine rb fun y48 hy49 => rq fun c51 h => ?_
  refine rc [(5, 1792)] [(5, 1792)] (hfq36 _ _ hy49) yf ⟨_, rfl, LEN w46, _, c51, fun _ _ _ _ => .refl _, ?_⟩; cbv; revert h; refine rq fun c50 h => ?_; injection h with h; subst h
  refine ⟨(sp 58 [(4, .c (.ptr 256 0)), (5, .c (.os 64002 0 (LEN y48))), (6, .c (wi 0)), (7, .c (wi (-1)))] [(256, .var [.os 64000 0 (LEN y19k1_1)]), (64002, .arr .rw [] (LEN y48) 21 (row GD (eE) y48)), (64000, .arr .rw [] (LEN y19k1_1) 4 (row GD (oC LEN GD) y19k1_1))]), ?_, ?_⟩
  ·refine St.le_trans (le_ren 62000 64000 (by decide) rfl) ?_; refine St.le_trans (le_ren 1792 64002 (by decide) rfl) ?_; rw [c50]; exact zb
  ·exact ⟨lR _, ⟨oS, oS, tv⟩, rfl⟩

/-- impl.ApplyEdits -/
def Fq79 (a0 : TL) (a1 : List TE) : Option (TL × Int × Int) :=
 (Fq39 a0 a1).bind fun y1 =>
 some (y1.1, y1.2.2.1, y1.2.2.2)
theorem runq79 (a0 : TL) (a1 : List TE) (r : TL × Int × Int) (h : Fq79 a0 a1 = some r) : Fun Tryz.prog 26 [.agg [.bs (len a0.fC) 4 (row gd (eC len gd) a0.fC)], .c (.bs (len a1) 21 (row gd (eE) a1))] [] (.tup [.agg [.os 64000 0 (len r.1.fC)], .c (wi r.2.1), .c (wi r.2.2)]) [(64000, .arr .rw [] (len r.1.fC) 4 (row gd (oC len gd) r.1.fC))] true := by
 refine Fun.of_wp (oneOf []) tok mixed Tryz.func26 (by kernel_rfl) rfl Tryz.ntmps26 rfl trivial (fun _ => ⟨(by simp [AV.flat, AV.flat1, AC.flat]), ⟨fun i _ j _ => fl_oncCell _ _, tv⟩⟩) ?_; unfold Fq79 at h; have hfq39 := @runq39; generalize hLEN : @len = LEN, hGD : @gd = GD, hA : std = A, hP : Tryz.prog = P at *; cbv; revert h; refine rb fun y1 hy2 h => ?_
 refine rc [] [(64000, 896), (64002, 898)] (hfq39 _ _ _ hy2) zf ⟨_, rfl, _, _, rfl, fun _ _ _ _ => .refl _, _, _, rfl, fun _ _ _ _ => .refl _, ?_⟩; cbv; injection h with h; subst h
 refine ⟨(sp 22 [(4, .c (.ptr 256 0)), (5, .c (wi y1.2.2.1)), (6, .c (wi y1.2.2.2))] [(256, .var [.os 64000 0 (LEN y1.1.fC)]), (64000, .arr .rw [] (LEN y1.1.fC) 4 (row GD (oC LEN GD) y1.1.fC))]), ?_, ?_⟩
 ·refine St.le_trans (le_ren 896 64000 (by decide) rfl) ?_; exact zb
 ·exact ⟨lR _, ⟨oS, tv⟩, rfl⟩

/-- laws.eqRect -/
def Fq108 (a0 : TRect) (a1 : TRect) : Option (Bool) :=
 br (std.not (std.eq a0.fX0 a1.fX0))
 (some false)
 (br (std.not (std.eq a0.fY0 a1.fY0))
 (some false)
 (br (std.not (std.eq a0.fX1 a1.fX1))
 (some false)
 (br (std.not (std.eq a0.fY1 a1.fY1))
 (some false)
 (some true))))
theorem runq108 (a0 : TRect) (a1 : TRect) (r : Bool) (h : Fq108 a0 a1 = some r) : Fun Tryz.prog 211 [.agg [wi a0.fX0, wi a0.fY0, wi a0.fX1, wi a0.fY1], .agg [wi a1.fX0, wi a1.fY0, wi a1.fX1, wi a1.fY1]] [] (.c (.v (.bool r))) [] true := by
 refine Fun.of_wp (oneOf []) tok mixed Tryz.func211 (by kernel_rfl) rfl Tryz.ntmps211 rfl trivial (fun _ => ⟨trivial, tv⟩) ?_; unfold Fq108 at h; generalize hLEN : @len = LEN, hGD : @gd = GD, hA : std = A, hP : Tryz.prog = P at *; cbv; revert h; refine fk ?_ ?_ <;> intro h <;> cbv
 ·exact df
 revert h; refine fk ?_ ?_ <;> intro h <;> cbv
 ·exact df
 revert h; refine fk ?_ ?_ <;> intro h <;> cbv
 ·exact df
 revert h; refine fk ?_ ?_ <;> intro h <;> cbv
 ·exact df
 exact df

/-- laws.eqShape -/
def Fq8 (a0 : TS) (a1 : TS) : Option (Bool) :=
 br (std.not (std.eq a0.fy a1.fy))
 (some false)
 ((Fq108 a0.fb a1.fb).bind fun y1 =>
 br (!(y1))
 (some false)
 (some true))
theorem runq8 (a0 : TS) (a1 : TS) (r : Bool) (h : Fq8 a0 a1 = some r) : Fun Tryz.prog 137 [.agg [wi a0.fy, wi a0.fb.fX0, wi a0.fb.fY0, wi a0.fb.fX1, wi a0.fb.fY1], .agg [wi a1.fy, wi a1.fb.fX0, wi a1.fb.fY0, wi a1.fb.fX1, wi a1.fb.fY1]] [] (.c (.v (.bool r))) [] true := by
 refine Fun.of_wp (oneOf []) tok mixed Tryz.func137 (by kernel_rfl) rfl Tryz.ntmps137 rfl trivial (fun _ => ⟨trivial, tv⟩) ?_; unfold Fq8 at h; have hfq108 := @runq108; generalize hLEN : @len = LEN, hGD : @gd = GD, hA : std = A, hP : Tryz.prog = P at *; cbv; revert h; refine fk ?_ ?_ <;> intro h <;> cbv
 ·exact df
 revert h; refine rb fun y1 hy2 h => ?_; refine rc [] [] (hfq108 _ _ _ hy2) zf ?_; cbv; revert h; refine fk ?_ ?_ <;> intro h <;> cbv
 ·exact df
 exact df

def Lq59_x2 (a0 : List TS) (a1 : List TS) : (Int) -> Option ((Int) ⊕ ((Unit) ⊕ (Unit))) := fun x2 =>
 letO x2 fun v1 =>
 br (std.lt v1 (std.ofN (len a0)))
 (req (std.inR v1 (len a0)) <|
 req (std.inR v1 (len a1)) <|
 (Fq8 (gd a0 (std.toN v1)) (gd a1 (std.toN v1))).bind fun y16 =>
 br (!(y16))
 (some (.inr (.inl ())))
 (some (.inl (std.add .i64 v1 1))))
 (some (.inr (.inr ())))
/-- laws.eqShapeS -/
def Fq59 (a0 : List TS) (a1 : List TS) : Option (Bool) :=
 br (std.not (std.eq (std.ofN (len a0)) (std.ofN (len a1))))
 (some false)
 ((whileP (σ := Int) (ρ := (Unit) ⊕ (Unit)) (Lq59_x2 a0 a1) 0).bind fun y3 =>
 (match y3 with
 | .inl y3k0 => (
 some false)
 | .inr y3m0 =>
 some true))
theorem runq59 (a0 : List TS) (a1 : List TS) (r : Bool) (h : Fq59 a0 a1 = some r) : Fun Tryz.prog 208 [.c (.bs (len a0) 5 (row gd (eS) a0)), .c (.bs (len a1) 5 (row gd (eS) a1))] [] (.c (.v (.bool r))) [] true := by
 refine Fun.of_wp (oneOf []) tok mixed Tryz.func208 (by kernel_rfl) rfl Tryz.ntmps208 rfl trivial (fun _ => ⟨trivial, tv⟩) ?_; unfold Fq59 at h; unfold Lq59_x2 at h; have hfq8 := @runq8; generalize hLEN : @len = LEN, hGD : @gd = GD, hA : std = A, hP : Tryz.prog = P at *; cbv; revert h; refine fk ?_ ?_ <;> intro h <;> cbv
 ·exact df
 revert h; refine lc (fun x => (sp 27 [(0, .c (.bs (LEN a0) 5 (row GD (eS) a0))), (1, .c (.bs (LEN a1) 5 (row GD (eS) a1))), (5, .c (wi x))] [])) (fun y e s => (match y with | .inl w => e = .ret /\ s.le (sp 27 [(4, .c (.v (.bool false)))] []) | .inr w0 => (fun (w : Unit) => e = .exit 0 /\ s.le (sp 27 [] [])) w0)) zb ?_ ?_
 ·intro v1 z h K hK hY; replace h := oz h; cbv; revert h; refine fk ?_ ?_ <;> intro h <;> cbv
  ·revert h; refine ra fun c14 h => ?_; revert h; refine ra fun c15 h => ?_; revert h; refine rb fun y16 hy17 h => ?_; refine rc [] [] (hfq8 _ _ _ hy17) zf ?_; cbv; revert h; refine fk ?_ ?_ <;> intro h <;> cbv
   ·exact dy
   exact dm
  exact dy
 intro y3 h e12 s13 q11 hne; rcases y3 with y3k0 | y3m0
 ·replace h := h; obtain ⟨rfl, q11⟩ := q11; cbv; injection h with h; subst h; exact ⟨_, q11, lR _, zo, rfl⟩
 ·obtain ⟨rfl, q11⟩ := q11; cbv; refine ⟨_, q11, ?_⟩; cbv; exact df
set_option maxHeartbeats 4000000
/-- laws.eqPoint -/
def Fq107 (a0 : TPoint) (a1 : TPoint) : Option (Bool) :=
 br (std.not (std.eq a0.fX a1.fX))
 (some false)
 (br (std.not (std.eq a0.fY a1.fY))
 (some false)
 (some true))
theorem runq107 (a0 : TPoint) (a1 : TPoint) (r : Bool) (h : Fq107 a0 a1 = some r) : Fun Tryz.prog 212 [.agg [wi a0.fX, wi a0.fY], .agg [wi a1.fX, wi a1.fY]] [] (.c (.v (.bool r))) [] true := by
 refine Fun.of_wp (oneOf []) tok mixed Tryz.func212 (by kernel_rfl) rfl Tryz.ntmps212 rfl trivial (fun _ => ⟨trivial, tv⟩) ?_; unfold Fq107 at h; generalize hLEN : @len = LEN, hGD : @gd = GD, hA : std = A, hP : Tryz.prog = P at *; cbv; revert h; refine fk ?_ ?_ <;> intro h <;> cbv
 ·exact df
 revert h; refine fk ?_ ?_ <;> intro h <;> cbv
 ·exact df
 exact df

/-- laws.eqLabel -/
def Fq9 (a0 : TB) (a1 : TB) : Option (Bool) :=
 br (std.not (std.eq a0.fy a1.fy))
 (some false)
 ((Fq107 a0.fa a1.fa).bind fun y1 =>
 br (!(y1))
 (some false)
 (br (std.not (std.seq a0.fN a1.fN))
 (some false)
 (some true)))
theorem runq9 (a0 : TB) (a1 : TB) (r : Bool) (h : Fq9 a0 a1 = some r) : Fun Tryz.prog 138 [.agg [wi a0.fy, wi a0.fa.fX, wi a0.fa.fY, ws a0.fN], .agg [wi a1.fy, wi a1.fa.fX, wi a1.fa.fY, ws a1.fN]] [] (.c (.v (.bool r))) [] true := by
 refine Fun.of_wp (oneOf []) tok mixed Tryz.func138 (by kernel_rfl) rfl Tryz.ntmps138 rfl trivial (fun _ => ⟨trivial, tv⟩) ?_; unfold Fq9 at h; have hfq107 := @runq107; generalize hLEN : @len = LEN, hGD : @gd = GD, hA : std = A, hP : Tryz.prog = P at *; cbv; revert h; refine fk ?_ ?_ <;> intro h <;> cbv
 ·exact df
 revert h; refine rb fun y1 hy2 h => ?_; refine rc [] [] (hfq107 _ _ _ hy2) zf ?_; cbv; revert h; refine fk ?_ ?_ <;> intro h <;> cbv
 ·exact df
 revert h; refine fk ?_ ?_ <;> intro h <;> cbv
 ·exact df
 exact df

def Lq49_x2 (a0 : List TB) (a1 : List TB) : (Int) -> Option ((Int) ⊕ ((Unit) ⊕ (Unit))) := fun x2 =>
 letO x2 fun v1 =>
 br (std.lt v1 (std.ofN (len a0)))
 (req (std.inR v1 (len a0)) <|
 req (std.inR v1 (len a1)) <|
 (Fq9 (gd a0 (std.toN v1)) (gd a1 (std.toN v1))).bind fun y16 =>
 br (!(y16))
 (some (.inr (.inl ())))
 (some (.inl (std.add .i64 v1 1))))
 (some (.inr (.inr ())))
/-- laws.eqLabelS -/
def Fq49 (a0 : List TB) (a1 : List TB) : Option (Bool) :=
 br (std.not (std.eq (std.ofN (len a0)) (std.ofN (len a1))))
 (some false)
 ((whileP (σ := Int) (ρ := (Unit) ⊕ (Unit)) (Lq49_x2 a0 a1) 0).bind fun y3 =>
 (match y3 with
 | .inl y3k0 => (
 some false)
 | .inr y3m0 =>
 some true))
theorem runq49 (a0 : List TB) (a1 : List TB) (r : Bool) (h : Fq49 a0 a1 = some r) : Fun Tryz.prog 209 [.c (.bs (len a0) 4 (row gd (eL) a0)), .c (.bs (len a1) 4 (row gd (eL) a1))] [] (.c (.v (.bool r))) [] true := by
 refine Fun.of_wp (oneOf []) tok mixed Tryz.func209 (by kernel_rfl) rfl Tryz.ntmps209 rfl trivial (fun _ => ⟨trivial, tv⟩) ?_; unfold Fq49 at h; unfold Lq49_x2 at h; have hfq9 := @runq9; generalize hLEN : @len = LEN, hGD : @gd = GD, hA : std = A, hP : Tryz.prog = P at *; cbv; revert h; refine fk ?_ ?_ <;> intro h <;> cbv
 ·exact df
 revert h; refine lc (fun x => (sp 27 [(0, .c (.bs (LEN a0) 4 (row GD (eL) a0))), (1, .c (.bs (LEN a1) 4 (row GD (eL) a1))), (5, .c (wi x))] [])) (fun y e s => (match y with | .inl w => e = .ret /\ s.le (sp 27 [(4, .c (.v (.bool false)))] []) | .inr w0 => (fun (w : Unit) => e = .exit 0 /\ s.le (sp 27 [] [])) w0)) zb ?_ ?_
 ·intro v1 z h K hK hY; replace h := oz h; cbv; revert h; refine fk ?_ ?_ <;> intro h <;> cbv
  ·revert h; refine ra fun c14 h => ?_; revert h; refine ra fun c15 h => ?_; revert h; refine rb fun y16 hy17 h => ?_; refine rc [] [] (hfq9 _ _ _ hy17) zf ?_; cbv; revert h; refine fk ?_ ?_ <;> intro h <;> cbv
   ·exact dy
   exact dm
  exact dy
 intro y3 h e12 s13 q11 hne; rcases y3 with y3k0 | y3m0
 ·replace h := h; obtain ⟨rfl, q11⟩ := q11; cbv; injection h with h; subst h; exact ⟨_, q11, lR _, zo, rfl⟩
 ·obtain ⟨rfl, q11⟩ := q11; cbv; refine ⟨_, q11, ?_⟩; cbv; exact df

/-- laws.eqTransform -/
def Fq116 (a0 : TM) (a1 : TM) : Option (Bool) :=
 br (std.not (std.eq a0.fo a1.fo))
 (some false)
 (br (std.not (std.eq a0.fX a1.fX))
 (some false)
 (br (std.not (std.eq a0.fY a1.fY))
 (some false)
 (some true)))
theorem runq116 (a0 : TM) (a1 : TM) (r : Bool) (h : Fq116 a0 a1 = some r) : Fun Tryz.prog 213 [.agg [wi a0.fo, wi a0.fX, wi a0.fY], .agg [wi a1.fo, wi a1.fX, wi a1.fY]] [] (.c (.v (.bool r))) [] true := by
 refine Fun.of_wp (oneOf []) tok mixed Tryz.func213 (by kernel_rfl) rfl Tryz.ntmps213 rfl trivial (fun _ => ⟨trivial, tv⟩) ?_; unfold Fq116 at h; generalize hLEN : @len = LEN, hGD : @gd = GD, hA : std = A, hP : Tryz.prog = P at *; cbv; revert h; refine fk ?_ ?_ <;> intro h <;> cbv
 ·exact df
 revert h; refine fk ?_ ?_ <;> intro h <;> cbv
 ·exact df
 revert h; refine fk ?_ ?_ <;> intro h <;> cbv
 ·exact df
 exact df

/-- laws.eqInstance -/
def Fq10 (a0 : TI) (a1 : TI) : Option (Bool) :=
 br (std.not (std.eq a0.fc a1.fc))
 (some false)
 ((Fq116 a0.fp a1.fp).bind fun y1 =>
 br (!(y1))
 (some false)
 (br (std.not (std.eq a0.fK a1.fK))
 (some false)
 (br (std.not (std.eq a0.fR a1.fR))
 (some false)
 (br (std.not (std.eq a0.fu a1.fu))
 (some false)
 (br (std.not (std.eq a0.fv a1.fv))
 (some false)
 (some true))))))
theorem runq10 (a0 : TI) (a1 : TI) (r : Bool) (h : Fq10 a0 a1 = some r) : Fun Tryz.prog 139 [.agg [wi a0.fc, wi a0.fp.fo, wi a0.fp.fX, wi a0.fp.fY, wi a0.fK, wi a0.fR, wi a0.fu, wi a0.fv], .agg [wi a1.fc, wi a1.fp.fo, wi a1.fp.fX, wi a1.fp.fY, wi a1.fK, wi a1.fR, wi a1.fu, wi a1.fv]] [] (.c (.v (.bool r))) [] true := by
 refine Fun.of_wp (oneOf []) tok mixed Tryz.func139 (by kernel_rfl) rfl Tryz.ntmps139 rfl trivial (fun _ => ⟨trivial, tv⟩) ?_; unfold Fq10 at h; have hfq116 := @runq116; generalize hLEN : @len = LEN, hGD : @gd = GD, hA : std = A, hP : Tryz.prog = P at *; cbv; revert h; refine fk ?_ ?_ <;> intro h <;> cbv
 ·exact df
 revert h; refine rb fun y1 hy2 h => ?_; refine rc [] [] (hfq116 _ _ _ hy2) zf ?_; cbv; revert h; refine fk ?_ ?_ <;> intro h <;> cbv
 ·exact df
 revert h; refine fk ?_ ?_ <;> intro h <;> cbv
 ·exact df
 revert h; refine fk ?_ ?_ <;> intro h <;> cbv
 ·exact df
 revert h; refine fk ?_ ?_ <;> intro h <;> cbv
 ·exact df
 revert h; refine fk ?_ ?_ <;> intro h <;> cbv
 ·exact df
 exact df

def Lq63_x2 (a0 : List TI) (a1 : List TI) : (Int) -> Option ((Int) ⊕ ((Unit) ⊕ (Unit))) := fun x2 =>
 letO x2 fun v1 =>
 br (std.lt v1 (std.ofN (len a0)))
 (req (std.inR v1 (len a0)) <|
 req (std.inR v1 (len a1)) <|
 (Fq10 (gd a0 (std.toN v1)) (gd a1 (std.toN v1))).bind fun y16 =>
 br (!(y16))
 (some (.inr (.inl ())))
 (some (.inl (std.add .i64 v1 1))))
 (some (.inr (.inr ())))
/-- laws.eqInstanceS -/
def Fq63 (a0 : List TI) (a1 : List TI) : Option (Bool) :=
 br (std.not (std.eq (std.ofN (len a0)) (std.ofN (len a1))))
 (some false)
 ((whileP (σ := Int) (ρ := (Unit) ⊕ (Unit)) (Lq63_x2 a0 a1) 0).bind fun y3 =>
 (match y3 with
 | .inl y3k0 => (
 some false)
 | .inr y3m0 =>
 some true))
theorem runq63 (a0 : List TI) (a1 : List TI) (r : Bool) (h : Fq63 a0 a1 = some r) : Fun Tryz.prog 210 [.c (.bs (len a0) 8 (row gd (eI) a0)), .c (.bs (len a1) 8 (row gd (eI) a1))] [] (.c (.v (.bool r))) [] true := by
 refine Fun.of_wp (oneOf []) tok mixed Tryz.func210 (by kernel_rfl) rfl Tryz.ntmps210 rfl trivial (fun _ => ⟨trivial, tv⟩) ?_; unfold Fq63 at h; unfold Lq63_x2 at h; have hfq10 := @runq10; generalize hLEN : @len = LEN, hGD : @gd = GD, hA : std = A, hP : Tryz.prog = P at *; cbv; revert h; refine fk ?_ ?_ <;> intro h <;> cbv
 ·exact df
 revert h; refine lc (fun x => (sp 27 [(0, .c (.bs (LEN a0) 8 (row GD (eI) a0))), (1, .c (.bs (LEN a1) 8 (row GD (eI) a1))), (5, .c (wi x))] [])) (fun y e s => (match y with | .inl w => e = .ret /\ s.le (sp 27 [(4, .c (.v (.bool false)))] []) | .inr w0 => (fun (w : Unit) => e = .exit 0 /\ s.le (sp 27 [] [])) w0)) zb ?_ ?_
 ·intro v1 z h K hK hY; replace h := oz h; cbv; revert h; refine fk ?_ ?_ <;> intro h <;> cbv
  ·revert h; refine ra fun c14 h => ?_; revert h; refine ra fun c15 h => ?_; revert h; refine rb fun y16 hy17 h => ?_; refine rc [] [] (hfq10 _ _ _ hy17) zf ?_; cbv; revert h; refine fk ?_ ?_ <;> intro h <;> cbv
   ·exact dy
   exact dm
  exact dy
 intro y3 h e12 s13 q11 hne; rcases y3 with y3k0 | y3m0
 ·replace h := h; obtain ⟨rfl, q11⟩ := q11; cbv; injection h with h; subst h; exact ⟨_, q11, lR _, zo, rfl⟩
 ·obtain ⟨rfl, q11⟩ := q11; cbv; refine ⟨_, q11, ?_⟩; cbv; exact df
set_option maxHeartbeats 4000000
/-- laws.eqCell -/
def Fq16 (a0 : TC) (a1 : TC) : Option (Bool) :=
 br (std.not (std.seq a0.fN a1.fN))
 (some false)
 ((Fq59 a0.fS a1.fS).bind fun y1 =>
 br (!(y1))
 (some false)
 ((Fq49 a0.fL a1.fL).bind fun y3 =>
 br (!(y3))
 (some false)
 ((Fq63 a0.fI a1.fI).bind fun y5 =>
 br (!(y5))
 (some false)
 (some true))))
theorem runq16 (a0 : TC) (a1 : TC) (r : Bool) (h : Fq16 a0 a1 = some r) : Fun Tryz.prog 127 [.agg [ws a0.fN, .bs (len a0.fS) 5 (row gd (eS) a0.fS), .bs (len a0.fL) 4 (row gd (eL) a0.fL), .bs (len a0.fI) 8 (row gd (eI) a0.fI)], .agg [ws a1.fN, .bs (len a1.fS) 5 (row gd (eS) a1.fS), .bs (len a1.fL) 4 (row gd (eL) a1.fL), .bs (len a1.fI) 8 (row gd (eI) a1.fI)]] [] (.c (.v (.bool r))) [] true := by
 refine Fun.of_wp (oneOf []) tok mixed Tryz.func127 (by kernel_rfl) rfl Tryz.ntmps127 rfl trivial (fun _ => ⟨trivial, tv⟩) ?_; unfold Fq16 at h; have hfq63 := @runq63; have hfq49 := @runq49; have hfq59 := @runq59; generalize hLEN : @len = LEN, hGD : @gd = GD, hA : std = A, hP : Tryz.prog = P at *; cbv
 revert h; refine fk ?_ ?_ <;> intro h <;> cbv
 ·exact df
 revert h; refine rb fun y1 hy2 h => ?_; refine rc [] [] (hfq59 _ _ _ hy2) zf ?_; cbv; revert h; refine fk ?_ ?_ <;> intro h <;> cbv
 ·exact df
 revert h; refine rb fun y3 hy4 h => ?_; refine rc [] [] (hfq49 _ _ _ hy4) zf ?_; cbv; revert h; refine fk ?_ ?_ <;> intro h <;> cbv
 ·exact df
 revert h; refine rb fun y5 hy6 h => ?_; refine rc [] [] (hfq63 _ _ _ hy6) zf ?_; cbv; revert h; refine fk ?_ ?_ <;> intro h <;> cbv
 ·exact df
 exact df

def Lq53_x2 (a0 : List TC) (a1 : List TC) : (Int) -> Option ((Int) ⊕ ((Unit) ⊕ (Unit))) := fun x2 =>
 letO x2 fun v1 =>
 br (std.lt v1 (std.ofN (len a0)))
 (req (std.inR v1 (len a0)) <|
 req (std.inR v1 (len a1)) <|
 (Fq16 (gd a0 (std.toN v1)) (gd a1 (std.toN v1))).bind fun y16 =>
 br (!(y16))
 (some (.inr (.inl ())))
 (some (.inl (std.add .i64 v1 1))))
 (some (.inr (.inr ())))
/-- laws.eqCellS -/
def Fq53 (a0 : List TC) (a1 : List TC) : Option (Bool) :=
 br (std.not (std.eq (std.ofN (len a0)) (std.ofN (len a1))))
 (some false)
 ((whileP (σ := Int) (ρ := (Unit) ⊕ (Unit)) (Lq53_x2 a0 a1) 0).bind fun y3 =>
 (match y3 with
 | .inl y3k0 => (
 some false)
 | .inr y3m0 =>
 some true))
theorem runq53 (a0 : List TC) (a1 : List TC) (r : Bool) (h : Fq53 a0 a1 = some r) : Fun Tryz.prog 66 [.c (.bs (len a0) 4 (row gd (eC len gd) a0)), .c (.bs (len a1) 4 (row gd (eC len gd) a1))] [] (.c (.v (.bool r))) [] true := by
 refine Fun.of_wp (oneOf []) tok mixed Tryz.func66 (by kernel_rfl) rfl Tryz.ntmps66 rfl trivial (fun _ => ⟨trivial, tv⟩) ?_; unfold Fq53 at h; unfold Lq53_x2 at h; have hfq16 := @runq16; generalize hLEN : @len = LEN, hGD : @gd = GD, hA : std = A, hP : Tryz.prog = P at *; cbv; revert h; refine fk ?_ ?_ <;> intro h <;> cbv
 ·exact df
 revert h; refine lc (fun x => (sp 27 [(0, .c (.bs (LEN a0) 4 (row GD (eC LEN GD) a0))), (1, .c (.bs (LEN a1) 4 (row GD (eC LEN GD) a1))), (5, .c (wi x))] [])) (fun y e s => (match y with | .inl w => e = .ret /\ s.le (sp 27 [(4, .c (.v (.bool false)))] []) | .inr w0 => (fun (w : Unit) => e = .exit 0 /\ s.le (sp 27 [] [])) w0)) zb ?_ ?_
 ·intro v1 z h K hK hY; replace h := oz h; cbv; revert h; refine fk ?_ ?_ <;> intro h <;> cbv
  ·revert h; refine ra fun c14 h => ?_; revert h; refine ra fun c15 h => ?_; revert h; refine rb fun y16 hy17 h => ?_; refine rc [] [] (hfq16 _ _ _ hy17) zf ?_; cbv; revert h; refine fk ?_ ?_ <;> intro h <;> cbv
   ·exact dy
   exact dm
  exact dy
 intro y3 h e12 s13 q11 hne; rcases y3 with y3k0 | y3m0
 ·replace h := h; obtain ⟨rfl, q11⟩ := q11; cbv; injection h with h; subst h; exact ⟨_, q11, lR _, zo, rfl⟩
 ·obtain ⟨rfl, q11⟩ := q11; cbv; refine ⟨_, q11, ?_⟩; cbv; exact df

/-- laws.eqLibrary -/
def Fq43 (a0 : TL) (a1 : TL) : Option (Bool) :=
 (Fq53 a0.fC a1.fC).bind fun y1 =>
 br (!(y1))
 (some false)
 (some true)
theorem runq43 (a0 : TL) (a1 : TL) (r : Bool) (h : Fq43 a0 a1 = some r) : Fun Tryz.prog 20 [.agg [.bs (len a0.fC) 4 (row gd (eC len gd) a0.fC)], .agg [.bs (len a1.fC) 4 (row gd (eC len gd) a1.fC)]] [] (.c (.v (.bool r))) [] true := by
 refine Fun.of_wp (oneOf []) tok mixed Tryz.func20 (by kernel_rfl) rfl Tryz.ntmps20 rfl trivial (fun _ => ⟨trivial, tv⟩) ?_; unfold Fq43 at h; have hfq53 := @runq53; generalize hLEN : @len = LEN, hGD : @gd = GD, hA : std = A, hP : Tryz.prog = P at *; cbv; revert h; refine rb fun y1 hy2 h => ?_; refine rc [] [] (hfq53 _ _ _ hy2) zf ?_; cbv
 revert h; refine fk ?_ ?_ <;> intro h <;> cbv
 ·exact df
 exact df

/-- laws.eqEdit -/
def Fq15 (a0 : TE) (a1 : TE) : Option (Bool) :=
 br (std.not (std.eq a0.fk_ a1.fk_))
 (some false)
 (br (std.not (std.eq a0.fc a1.fc))
 (some false)
 (br (std.not (std.eq a0.fx a1.fx))
 (some false)
 (br (std.not (std.seq a0.fN a1.fN))
 (some false)
 ((Fq8 a0.fs_ a1.fs_).bind fun y1 =>
 br (!(y1))
 (some false)
 ((Fq9 a0.fl_ a1.fl_).bind fun y3 =>
 br (!(y3))
 (some false)
 ((Fq10 a0.fi_ a1.fi_).bind fun y5 =>
 br (!(y5))
 (some false)
 (some true)))))))
theorem runq15 (a0 : TE) (a1 : TE) (r : Bool) (h : Fq15 a0 a1 = some r) : Fun Tryz.prog 71 [.agg (cE a0), .agg (cE a1)] [] (.c (.v (.bool r))) [] true := by
 refine Fun.of_wp (oneOf []) tok mixed Tryz.func71 (by kernel_rfl) rfl Tryz.ntmps71 rfl trivial (fun _ => ⟨trivial, tv⟩) ?_; unfold Fq15 at h; have hfq10 := @runq10; have hfq9 := @runq9; have hfq8 := @runq8; generalize hLEN : @len = LEN, hGD : @gd = GD, hA : std = A, hP : Tryz.prog = P at *; cbv
 revert h; refine fk ?_ ?_ <;> intro h <;> cbv
 ·exact df
 revert h; refine fk ?_ ?_ <;> intro h <;> cbv
 ·exact df
 revert h; refine fk ?_ ?_ <;> intro h <;> cbv
 ·exact df
 revert h; refine fk ?_ ?_ <;> intro h <;> cbv
 ·exact df
 revert h; refine rb fun y1 hy2 h => ?_; refine rc [] [] (hfq8 _ _ _ hy2) zf ?_; cbv; revert h; refine fk ?_ ?_ <;> intro h <;> cbv
 ·exact df
 revert h; refine rb fun y3 hy4 h => ?_; refine rc [] [] (hfq9 _ _ _ hy4) zf ?_; cbv; revert h; refine fk ?_ ?_ <;> intro h <;> cbv
 ·exact df
 revert h; refine rb fun y5 hy6 h => ?_; refine rc [] [] (hfq10 _ _ _ hy6) zf ?_; cbv; revert h; refine fk ?_ ?_ <;> intro h <;> cbv
 ·exact df
 exact df

def Lq37_x2 (a0 : List TE) (a1 : List TE) : (Int) -> Option ((Int) ⊕ ((Unit) ⊕ (Unit))) := fun x2 =>
 letO x2 fun v1 =>
 br (std.lt v1 (std.ofN (len a0)))
 (req (std.inR v1 (len a0)) <|
 req (std.inR v1 (len a1)) <|
 (Fq15 (gd a0 (std.toN v1)) (gd a1 (std.toN v1))).bind fun y16 =>
 br (!(y16))
 (some (.inr (.inl ())))
 (some (.inl (std.add .i64 v1 1))))
 (some (.inr (.inr ())))
/-- laws.eqEditS -/
def Fq37 (a0 : List TE) (a1 : List TE) : Option (Bool) :=
 br (std.not (std.eq (std.ofN (len a0)) (std.ofN (len a1))))
 (some false)
 ((whileP (σ := Int) (ρ := (Unit) ⊕ (Unit)) (Lq37_x2 a0 a1) 0).bind fun y3 =>
 (match y3 with
 | .inl y3k0 => (
 some false)
 | .inr y3m0 =>
 some true))
theorem runq37 (a0 : List TE) (a1 : List TE) (r : Bool) (h : Fq37 a0 a1 = some r) : Fun Tryz.prog 27 [.c (.bs (len a0) 21 (row gd (eE) a0)), .c (.bs (len a1) 21 (row gd (eE) a1))] [] (.c (.v (.bool r))) [] true := by
 refine Fun.of_wp (oneOf []) tok mixed Tryz.func27 (by kernel_rfl) rfl Tryz.ntmps27 rfl trivial (fun _ => ⟨trivial, tv⟩) ?_; unfold Fq37 at h; unfold Lq37_x2 at h; have hfq15 := @runq15; generalize hLEN : @len = LEN, hGD : @gd = GD, hA : std = A, hP : Tryz.prog = P at *; cbv; revert h; refine fk ?_ ?_ <;> intro h <;> cbv
 ·exact df
 revert h; refine lc (fun x => (sp 27 [(0, .c (.bs (LEN a0) 21 (row GD (eE) a0))), (1, .c (.bs (LEN a1) 21 (row GD (eE) a1))), (5, .c (wi x))] [])) (fun y e s => (match y with | .inl w => e = .ret /\ s.le (sp 27 [(4, .c (.v (.bool false)))] []) | .inr w0 => (fun (w : Unit) => e = .exit 0 /\ s.le (sp 27 [] [])) w0)) zb ?_ ?_
 ·intro v1 z h K hK hY; replace h := oz h; cbv; revert h; refine fk ?_ ?_ <;> intro h <;> cbv
  ·revert h; refine ra fun c14 h => ?_; revert h; refine ra fun c15 h => ?_; revert h; refine rb fun y16 hy17 h => ?_; refine rc [] [] (hfq15 _ _ _ hy17) zf ?_; cbv; revert h; refine fk ?_ ?_ <;> intro h <;> cbv
   ·exact dy
   exact dm
  exact dy
 intro y3 h e12 s13 q11 hne; rcases y3 with y3k0 | y3m0
 ·replace h := h; obtain ⟨rfl, q11⟩ := q11; cbv; injection h with h; subst h; exact ⟨_, q11, lR _, zo, rfl⟩
 ·obtain ⟨rfl, q11⟩ := q11; cbv; refine ⟨_, q11, ?_⟩; cbv; exact df

def Lq2_x3  : (Int × ByteArray) -> Option ((Int × ByteArray) ⊕ ((ByteArray))) := fun x3 =>
 letO x3.1 fun v1 =>
 letO x3.2 fun v2 =>
 br (std.lt 0 v1)
 (req (std.nz 10) <|
 letO ([std.conv .u8 (std.add .i64 48 (std.rem v1 10))] : List Int) fun l16 =>
 req (std.room (std.nadd (std.slen (std.ofBytes (len l16) (fun i => gd l16 (0 + i)))) (std.slen v2)) 1) <|
 req (std.nz 10) <|
 some (.inl (std.quo .i64 v1 10, std.scat (std.ofBytes (len l16) (fun i => gd l16 (0 + i))) v2)))
 (some (.inr v2))
/-- laws.markText -/
def Fq2 (a0 : Int) : Option (ByteArray) :=
 br (std.le a0 0)
 (some (ByteArray.mk #[109, 48]))
 ((whileP (σ := Int × ByteArray) (ρ := (ByteArray)) Lq2_x3 (a0, (ByteArray.mk #[]))).bind fun y4 =>
 letO y4 fun y4k0 =>
 letO y4k0 fun w21 =>
 req (std.room (std.nadd (std.slen (ByteArray.mk #[109])) (std.slen w21)) 1) <|
 some (std.scat (ByteArray.mk #[109]) w21))
theorem runq2 (a0 : Int) (r : ByteArray) (h : Fq2 a0 = some r) : Fun Tryz.prog 72 [.c (wi a0)] [] (.c (ws r)) [] true := by
 refine Fun.of_wp (oneOf []) tok mixed Tryz.func72 (by kernel_rfl) rfl Tryz.ntmps72 rfl trivial (fun _ => ⟨trivial, tv⟩) ?_; unfold Fq2 at h; unfold Lq2_x3 at h; generalize hLEN : @len = LEN, hGD : @gd = GD, hA : std = A, hP : Tryz.prog = P at *; cbv; revert h; refine fk ?_ ?_ <;> intro h <;> cbv
 ·exact df
 revert h; refine ln (.exit 0) (fun x => (sp 20 [(0, .c (wi x.1)), (3, .c (ws x.2))] [])) (fun w => (sp 20 [(3, .c (ws w))] [])) zb ?_ ?_
 ·rintro ⟨v1, v2⟩ z h K hK hY; replace h := oz (oz h); dsimp only at h; cbv; revert h; refine fk ?_ ?_ <;> intro h <;> cbv
  ·revert h; refine ra fun c15 h => ?_; revert h; refine rl fun l16 hl16 h => ?_; have e17 : 1 = LEN l16 := by subst hl16 hLEN; rfl
   refine ⟨_, (co e17), _, row GD (encI .u8) l16, e17, wkOf ?_, ?_⟩
   ·intro i hi j hj; rw [<- e17] at hi; subst hl16; subst hGD; obtain rfl : i = 0 := (by omega); all_goals obtain rfl : j = 0 := by omega
    all_goals rfl
   cbv; refine ⟨fun _ _ => rfl, ?_⟩; revert h; refine ra fun c18 h => ?_; revert h; refine ra fun c19 h => ?_; exact dm
  exact dx
 intro w21 h s q12; replace h := oz (oz h); cbv; refine ⟨_, q12, ?_⟩; cbv; revert h; refine ra fun c22 h => ?_; exact df
end
end Go.Proofs.YtohgghncmkiicaaGreat.AM
