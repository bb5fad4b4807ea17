/-
  What the functions that the law reaches compute, and that they do. No condition.
-/
import Derived.Test.YtohgghncmkiicaaGreatAmSX
namespace Go.Proofs.YtohgghncmkiicaaGreat.AM
noncomputable section
open Go Go.Proofs Go.RowKit
set_option linter.unusedVariables false
set_option linter.unusedSimpArgs false
set_option maxRecDepth 100000

set_option maxHeartbeats 4000000
/-- impl.Cell] -/
def Fq90 (a0 : List TC) (a1 : Int) : Option (List TC) :=
 (Fq55 a0 a1 (std.add .i64 a1 1)).bind fun y1 =>
 some y1
theorem runq90 (a0 : List TC) (a1 : Int) (r : List TC) (h : Fq90 a0 a1 = some r) : Fun Tryz.prog 120 [.c (.os 5 0 (len a0)), .c (wi a1)] [(5, .arr .rw [] (len a0) 4 (row gd (oC len gd) a0))] (.c (.os 64000 0 (len r))) [(64000, .arr .rw [] (len r) 4 (row gd (oC len gd) r))] true := by
 refine Fun.of_wp (oneOf []) tok mixed Tryz.func120 (by kernel_rfl) rfl Tryz.ntmps120 rfl ⟨fun i _ j _ k hk => (noref (rC _ _) hk).elim, tv⟩ (fun _ => ⟨trivial, ⟨fun i _ j _ => fl_oncCell _ _, tv⟩⟩) ?_
 unfold Fq90 at h
 have hfq55 := @runq55
 generalize hLEN : @len = LEN, hGD : @gd = GD, hA : std = A, hP : Tryz.prog = P at *
 cbv
 replace h := ob_ h
 obtain ⟨y1, hy2, h⟩ := h
 refine ⟨⟨_, _, _, _, _, [(5, 5)], [(64000, 576)]⟩, hfq55 _ _ _ _ hy2, ⟨zs3, ⟨oS, tv⟩, rfl, rfl, rfl, rfl, ⟨evn 64000 rfl, tv⟩, rfl⟩, _, rfl, _, _, rfl, fun _ _ _ _ => .refl _, ?_⟩
 cbv
 injection h with h
 subst h
 refine ⟨(sp 10 [(4, .c (.os 64000 0 (LEN y1)))] [(64000, .arr .rw [] (LEN y1) 4 (row GD (oC LEN GD) y1))]), ?_, ?_⟩
 ·refine St.le_trans (le_ren 576 64000 (by decide) rfl) ?_
  exact lsp rfl zl1 ⟨oS, tv⟩ rfl
 ·exact ⟨lR _, ⟨oS, tv⟩, rfl⟩

section
open Go.RowKit Go.Lib
set_option maxRecDepth 1000000 in
theorem ins_shift_slices_Insert_Limpl_Shape_impl_Shape_mobo (b off n c i vb voff m vc : Nat) (cs vs : List Value) (w : World) (hi : i < n) (hm : 0 < m) (hroom : n + m <= c) (hc63 : n + m <= 9223372036854775807) (hvb : vb ≠ b)
  (hcl : cs.length = n * 5) (hvl : vs.length = m * 5)
  (hcs : ∀ j v, cs[j]? = some v -> w.cell? ⟨b, off + j, none⟩ = some v) (hsp : ∀ j, j < (n + m) * 5 -> (w.cell? ⟨b, off + j, none⟩).isSome = true) (hfz : ∀ j, j < (n + m) * 5 -> w.frozen? ⟨b, off + j, none⟩ = false)
  (hvs : ∀ j v, vs[j]? = some v -> w.cell? ⟨vb, voff + j, none⟩ = some v) (h1c : ∀ v ∈ cs, v.oneCell' = true) (h1v : ∀ v ∈ vs, v.oneCell' = true)
  (tA tB : TypeId) (kA kB : Nat) (hsa : w.shape? vb = some (tA, kA)) (hsb : w.shape? b = some (tB, kB)) (hkB : kB ≠ 0) (hfa : w.frozen? ⟨vb, voff, none⟩ = false) (hfe : w.frozen? ⟨vb, kA, none⟩ = false) :
  Calls Tryz.prog 121 #[.slice (some ⟨b, off, none⟩) n c, .int .i64 i, .slice (some ⟨vb, voff, none⟩) m vc] w fun e w' =>
   e = .returned (.slice (some ⟨b, off, none⟩) (n + m) c) /\ w' = (w.drew.setCells b (off + (i + m) * 5) (cs.drop (i * 5))).setCells b (off + i * 5) vs := by
 have tSl : Tryz.prog.underlying 145 = some (.slice 49) := by kernel_rfl
 have hz1 : ¬ ((m : Int) = 0) := by omega
 have hz2 : ¬ ((i : Int) = (n : Int)) := by omega
 have hsz : (Tryz.prog.info? 49).map (·.size) = some 5 := by kernel_rfl
 have hov : ∀ lb cb, (callFunc 199 #[.slice (some ⟨vb, voff, none⟩) m vc, .slice (some ⟨b, off + (i + m) * 5, none⟩) lb cb]).run Tryz.prog w = .ok (.value (.bool false)) w := fun lb cb => by
  rw [run_callFunc_extern Tryz.func199 (by kernel_rfl) (by kernel_rfl) (by kernel_rfl) (e := Extern.SlicesOverlaps.overlaps #[145, 145] #[4]) (by kernel_rfl),
   Lib.run_overlaps_apart w 145 4 49 tSl 5 (fun w => run_sizeOf tok (show T 49 = some d49 from rfl)) ⟨vb, voff, none⟩ ⟨b, off + (i + m) * 5, none⟩ m vc lb cb hvb tA tB kA kB hsa hsb hkB hfa hfe]
  rfl
 have hdl : (cs.drop (i * 5)).length = (n - i) * 5 := by rw [List.length_drop, hcl, Nat.sub_mul]
 have mixed : Tryz.prog.follows .mixedOrders = true := by kernel_rfl
 have hw1 : IntKind.i64.wrap ((i : Int) + (m : Int)) = (i : Int) + (m : Int) := by rw [IntKind.wrap_i64]; omega
 have hb1 : (0 : Int) <= (i : Int) + (m : Int) := by omega
 have hin : i <= n := by omega
 have htn : ((i : Int) + (m : Int)).toNat = i + m := by omega
 have hb2 : ¬ (c = i + m) := by omega
 have hb3 : (i : Int) <= (n : Int) + (m : Int) := by omega
 have hb4 : ¬ (c = i) := by omega
 have hcp1 : ∀ ty dc sc, (Builtin.copy_ #[145, 145] ty #[.slice (some ⟨b, off + (i + m) * 5, none⟩) (n + m - (i + m)) dc, .slice (some ⟨b, off + i * 5, none⟩) (n + m - i) sc]).run Tryz.prog w.drew = .ok (goInt (Nat.min (n + m - i) (n + m - (i + m)))) (w.drew.setCells b (off + (i + m) * 5) (cs.drop (i * 5))) := fun ty dc sc =>
  run_copy_cellsN 5 w.drew _ _ ty 49 b (off + (i + m) * 5) (n + m - (i + m)) dc ⟨b, off + i * 5, none⟩ (n + m - i) sc (cs.drop (i * 5)) tSl hsz (by rw [hdl, show Nat.min (n + m - i) (n + m - (i + m)) = n - i by simp only [Nat.min_def]; split <;> omega])
   (fun j v hj => by rw [Addr.add_lit, Nat.add_assoc]; exact hcs (i * 5 + j) v (by rwa [List.getElem?_drop] at hj))
   (fun j hj => by rw [Nat.add_assoc]; exact hsp _ (by omega)) (fun j hj => by rw [Nat.add_assoc]; exact hfz _ (by omega)) (fun v hv => h1c v (List.mem_of_mem_drop hv))
 obtain ⟨W1, hW1⟩ : ∃ W1, W1 = w.drew.setCells b (off + (i + m) * 5) (cs.drop (i * 5)) := ⟨_, rfl⟩
 have hsp1 : ∀ k, k < (n + m) * 5 -> (W1.cell? ⟨b, off + k, none⟩).isSome = true := fun k hk => by
  rw [hW1]
  exact isSome_setCells b _ _ _ (fun j hj => by rw [Nat.add_assoc]; exact hsp _ (by omega)) _ (hsp k hk)
 have hcp2 : ∀ (W : World), (∀ x, W.cell? x = W1.cell? x) -> (∀ x, W.frozen? x = W1.frozen? x) -> ∀ ty dc, (Builtin.copy_ #[145, 145] ty #[.slice (some ⟨b, off + i * 5, none⟩) (n + m - i) dc, .slice (some ⟨vb, voff, none⟩) m vc]).run Tryz.prog W = .ok (goInt (Nat.min m (n + m - i))) (W.setCells b (off + i * 5) vs) := fun W hWc hWf ty dc =>
  run_copy_cellsN 5 W _ _ ty 49 b (off + i * 5) (n + m - i) dc ⟨vb, voff, none⟩ m vc vs tSl hsz (by rw [hvl, show Nat.min m (n + m - i) = m by simp only [Nat.min_def]; split <;> omega])
   (fun j v hj => by
    rw [Addr.add_lit, hWc, hW1, World.cell?_setCells_out b _ _ _ _ (fun h _ => absurd h hvb)]
    exact hvs j v hj)
   (fun j hj => by rw [hWc, Nat.add_assoc]; exact hsp1 _ (by omega)) (fun j hj => by rw [hWf, hW1, World.frozen?_setCells, Nat.add_assoc]; exact hfz _ (by omega)) h1v
 rw [<- hW1] at hcp1
 clear hsp hfz hcs hvs h1c h1v
 go_enter Tryz.func121, Tryz.ntmps121
 go_wp2_with (simp only [hov])
 go_region_law_o (refine step_copy_runI rfl _ _ 145 145 rfl _ _ (by simp [Act.eval, Act.put]) (by simp [Act.eval, Act.put]) (hcp1 _ _ _) ?_)
 go_wp2_with (at_builtin; refine wpList_copy_runI _ rfl _ _ 145 145 rfl _ _ rfl rfl (hcp2 _ (fun _ => rfl) (fun _ => rfl) _ _) ?_)
 go_ret
 first | exact ⟨rfl, rfl⟩ | exact ⟨rfl, by rw [hW1]⟩
set_option maxRecDepth 1000000 in
theorem ins_end_room_slices_Insert_Limpl_Shape_impl_Shape_mobo (b off n c vb voff m vc : Nat) (vs : List Value) (w : World) (hm : 0 < m) (hroom : n + m <= c) (hc63 : n + m <= 9223372036854775807)
  (hvl : vs.length = m * 5) (hsp : ∀ j, j < m * 5 -> (w.cell? ⟨b, off + n * 5 + j, none⟩).isSome = true) (hfz : ∀ j, j < m * 5 -> w.frozen? ⟨b, off + n * 5 + j, none⟩ = false)
  (hvs : ∀ j v, vs[j]? = some v -> w.cell? ⟨vb, voff + j, none⟩ = some v) (h1v : ∀ v ∈ vs, v.oneCell' = true) :
  Calls Tryz.prog 121 #[.slice (some ⟨b, off, none⟩) n c, .int .i64 n, .slice (some ⟨vb, voff, none⟩) m vc] w fun e w' =>
   e = .returned (.slice (some ⟨b, off, none⟩) (n + m) c) /\ w' = w.setCells b (off + n * 5) vs := by
 have tSl : Tryz.prog.underlying 145 = some (.slice 49) := by kernel_rfl
 have mixed : Tryz.prog.follows .mixedOrders = true := by kernel_rfl
 have hI : (Tryz.prog.info? 49).map (·.size) = some 5 := by kernel_rfl
 obtain ⟨i0, hi0, hz5⟩ : ∃ i0, Tryz.prog.info? 49 = some i0 /\ i0.size = 5 := by
  cases h : Tryz.prog.info? 49 with
  | none => rw [h] at hI; cases hI
  | some i0 => rw [h] at hI; exact ⟨i0, rfl, by injection hI⟩
 have hz1 : ¬ ((m : Int) = 0) := by omega
 have hsrc : Src Tryz.prog i0.size 145 (.slice (some ⟨vb, voff, none⟩) m vc) m vs w := Src.ofSlice w tSl ⟨vb, voff, none⟩ m vc vs (by rw [hz5]; exact hvl) (fun j u hj => by rw [Addr.add_lit]; exact hvs j u hj) h1v
 have s1 : Hid (∀ j, j < vs.length -> (w.cell? ⟨b, off + n * i0.size + j, none⟩).isSome = true) := by rw [hvl, hz5]; exact hsp
 have s2 : Hid (∀ j, j < vs.length -> w.frozen? ⟨b, off + n * i0.size + j, none⟩ = false) := by rw [hvl, hz5]; exact hfz
 clear hsp hfz hvs
 go_enter Tryz.func121, Tryz.ntmps121
 go_wp2_with (at_builtin; refine wpList_append_room_src _ rfl _ _ 145 145 rfl 49 i0 tSl hi0 b off n c rfl _ rfl m vs hsrc hroom s1.out s2.out ?_)
 go_ret
 exact ⟨rfl, rfl⟩
set_option maxRecDepth 1000000 in
theorem ins_end_grow_slices_Insert_Limpl_Shape_impl_Shape_mobo (base : Option Addr) (n c vb voff m vc : Nat) (cs vs : List Value) (w : World) (hm : 0 < m) (hnc : n <= c) (hroom : c < n + m) (hbig : (n + m) * 40 <= 140737488355328)
  (hcl : cs.length = n * 5) (hvl : vs.length = m * 5) (hnil : base = none -> n = 0)
  (hcs : ∀ a, base = some a -> ∀ j v, cs[j]? = some v -> w.cell? (a.add j) = some v)
  (hvs : ∀ j v, vs[j]? = some v -> w.cell? ⟨vb, voff + j, none⟩ = some v) (h1v : ∀ v ∈ vs, v.oneCell' = true) :
  Calls Tryz.prog 121 #[.slice base n c, .int .i64 n, .slice (some ⟨vb, voff, none⟩) m vc] w fun e w' =>
   e = .returned (.slice (some ⟨w.heap.size, 0, none⟩) (n + m) (grownCap w (n + m) c 49)) /\
   w' = w.drew.alloc (.cells ((cs ++ vs).toArray ++ Builtin.zeroCells d49.zero.cells (grownCap w (n + m) c 49 - (n + m))) 49) := by
 have tSl : Tryz.prog.underlying 145 = some (.slice 49) := by kernel_rfl
 have mixed : Tryz.prog.follows .mixedOrders = true := by kernel_rfl
 obtain ⟨i0, hi0, hzs, hzb, hz0⟩ := (tok 49 d49 rfl).2.1
 have hzs : i0.size = 5 := hzs
 have hzb : i0.bytes = 40 := hzb
 have hz1 : ¬ ((m : Int) = 0) := by omega
 have hsrc : Src Tryz.prog i0.size 145 (.slice (some ⟨vb, voff, none⟩) m vc) m vs w := Src.ofSlice w tSl ⟨vb, voff, none⟩ m vc vs (by rw [hzs]; exact hvl) (fun j u hj => by rw [Addr.add_lit]; exact hvs j u hj) h1v
 have hold : (Builtin.firstCells i0.size n (.slice base n c)).run Tryz.prog w.drew = .ok cs.toArray w.drew := by
  rw [hzs]
  cases base with
  | none =>
   have h0 := hnil rfl
   subst h0
   have hc0 : cs.length = 0 := by rw [hcl, Nat.zero_mul]
   rw [List.length_eq_zero_iff.1 hc0]
   exact run_firstCells_none w.drew 5 0 0 c
  | some a => exact run_firstCells_some w.drew 5 n a n c cs hcl (fun j v hj => hcs a rfl j v hj)
 have hrun : ∀ ty, (Builtin.append_ #[145, 145] ty #[.slice base n c, .slice (some ⟨vb, voff, none⟩) m vc]).run Tryz.prog w = _ := fun ty =>
  run_append_grow_src w 145 145 ty 49 i0 _ tSl hi0 hz0 base n c cs hold _ m vs hsrc hroom (by omega) (by rw [hzb]; exact growslice_fits hroom hbig)
 go_enter Tryz.func121, Tryz.ntmps121
 cases base with
 | none =>
  have h0 := hnil rfl
  subst h0
  go_wp2_with (at_builtin; refine Lib.wpList_append_run _ rfl _ _ _ _ rfl _ _ rfl rfl _ _ (hrun _) ?_)
  go_ret
  exact ⟨rfl, rfl⟩
 | some a =>
  obtain ⟨ab, ao, asp⟩ := a
  go_wp2_with (at_builtin; refine Lib.wpList_append_run _ rfl _ _ _ _ rfl _ _ rfl rfl _ _ (hrun _) ?_)
  all_goals (go_ret; exact ⟨rfl, rfl⟩)
set_option maxRecDepth 1000000 in
theorem ins_grow_slices_Insert_Limpl_Shape_impl_Shape_mobo (b off n c i vb voff m vc : Nat) (cs vs : List Value) (w : World) (hi : i < n) (hm : 0 < m) (hnc : n <= c) (hroom : c < n + m) (hbig : (n + m) * 40 <= 140737488355328)
  (hcl : cs.length = n * 5) (hvl : vs.length = m * 5)
  (hcs : ∀ j v, cs[j]? = some v -> w.cell? ⟨b, off + j, none⟩ = some v)
  (hvs : ∀ j v, vs[j]? = some v -> w.cell? ⟨vb, voff + j, none⟩ = some v) (h1c : ∀ v ∈ cs, v.oneCell' = true) (h1v : ∀ v ∈ vs, v.oneCell' = true) :
  Calls Tryz.prog 121 #[.slice (some ⟨b, off, none⟩) n c, .int .i64 i, .slice (some ⟨vb, voff, none⟩) m vc] w fun e w' =>
   e = .returned (.slice (some ⟨w.heap.size, 0, none⟩) (n + m) (grownCap w (n + m) c 49)) /\
   w' = (((w.alloc (.cells ((cs.take (i * 5)).toArray ++ Builtin.zeroCells d49.zero.cells (n + m - i) ++ Builtin.zeroCells d49.zero.cells (grownCap w (n + m) c 49 - (n + m))) 49)).drew.setCells w.heap.size (i * 5) vs).drew).setCells w.heap.size ((i + m) * 5) (cs.drop (i * 5)) := by
 have tSl : Tryz.prog.underlying 145 = some (.slice 49) := by kernel_rfl
 have t3 : Tryz.prog.underlying 3 = some (.int .i64) := by kernel_rfl
 have mixed : Tryz.prog.follows .mixedOrders = true := by kernel_rfl
 obtain ⟨i0, hi0, hzs, hzb, hz0⟩ := (tok 49 d49 rfl).2.1
 have hzs : i0.size = 5 := hzs
 have hzb : i0.bytes = 40 := hzb
 have hz5 : d49.zero.cells.size = 5 := by kernel_rfl
 have hz1 : ¬ ((m : Int) = 0) := by omega
 have hz2 : ¬ ((i : Int) = (n : Int)) := by omega
 have hz3 : (c : Int) < (n : Int) + (m : Int) := by omega
 have hsz : (Tryz.prog.info? 49).map (·.size) = some 5 := by rw [hi0]; simp [hzs]
 have hbw : b < w.heap.size := block_lt_of_cell (hcs 0 _ (List.getElem?_eq_getElem (by omega)))
 have hvw : vb < w.heap.size := block_lt_of_cell (hvs 0 _ (List.getElem?_eq_getElem (by omega)))
 have hkk : (n : Int) + (m : Int) - (i : Int) = ((n + m - i : Nat) : Int) := by omega
 have hik : i + (n + m - i) = n + m := by omega
 have htl : (cs.take (i * 5)).length = i * 5 := by rw [List.length_take, hcl]; omega
 have hold : (Builtin.firstCells i0.size i (.slice (some ⟨b, off, none⟩) i c)).run Tryz.prog w.drew = .ok (cs.take (i * 5)).toArray w.drew := by
  rw [hzs]
  exact run_firstCells_some w.drew 5 i ⟨b, off, none⟩ i c (cs.take (i * 5)) htl (fun j v hj => by
   rw [Addr.add_lit]
   rw [List.getElem?_take] at hj
   split at hj
   ·exact hcs j v hj
   ·cases hj)
 have hrz : ∀ ty, (Builtin.append_ #[145, 3] ty #[.slice (some ⟨b, off, none⟩) i c, .int .i64 ((n : Int) + (m : Int) - (i : Int))]).run Tryz.prog w =
   .ok (.slice (some ⟨w.heap.size, 0, none⟩) (n + m) (grownCap w (n + m) c 49)) (w.drew.alloc (.cells ((cs.take (i * 5)).toArray ++ Builtin.zeroCells d49.zero.cells (n + m - i) ++ Builtin.zeroCells d49.zero.cells (grownCap w (n + m) c 49 - (n + m))) 49)) := fun ty => by
  have h := Lib.run_append_grow_zeros w 145 3 ty 49 i0 _ .i64 .i64 tSl t3 hi0 hz0 (some ⟨b, off, none⟩) i c (cs.take (i * 5)) hold (n + m - i) (by omega) (by omega) (by omega) (by omega) (by rw [hzb]; omega) (by rw [hzb, hik]; exact growslice_fits hroom hbig)
  rw [hik] at h
  rw [hkk]
  exact h
 obtain ⟨G, hG⟩ : ∃ G, G = grownCap w (n + m) c 49 := ⟨_, rfl⟩
 obtain ⟨ROW, hROW⟩ : ∃ ROW : Array Value, ROW = (cs.take (i * 5)).toArray ++ Builtin.zeroCells d49.zero.cells (n + m - i) ++ Builtin.zeroCells d49.zero.cells (G - (n + m)) := ⟨_, rfl⟩
 rw [<- hG] at hrz ⊢
 rw [<- hROW] at hrz ⊢
 have hRl : (n + m) * 5 <= ROW.size := by
  rw [hROW, Array.size_append, Array.size_append, size_zeroCells, size_zeroCells, hz5, List.size_toArray, htl]
  omega
 obtain ⟨W1, hW1⟩ : ∃ W1, W1 = w.drew.alloc (.cells ROW 49) := ⟨_, rfl⟩
 rw [<- hW1] at hrz
 have hN : ∀ j, j < (n + m) * 5 -> (W1.cell? ⟨w.heap.size, j, none⟩).isSome = true := fun j hj => by
  rw [hW1, World.cell?_alloc_at (w := w.drew) ROW _ w.heap.size j rfl, Array.getElem?_eq_getElem (by omega)]; rfl
 have hNf : ∀ j, W1.frozen? ⟨w.heap.size, j, none⟩ = false := fun j => by rw [hW1]; exact World.frozen?_alloc_at (w := w.drew) ROW _ w.heap.size j rfl
 have hOb : ∀ j v, w.cell? ⟨b, j, none⟩ = some v -> W1.cell? ⟨b, j, none⟩ = some v := fun j v h => by rw [hW1, World.cell?_alloc_past (w := w.drew) _ b j hbw]; exact h
 have hOv : ∀ j v, w.cell? ⟨vb, j, none⟩ = some v -> W1.cell? ⟨vb, j, none⟩ = some v := fun j v h => by rw [hW1, World.cell?_alloc_past (w := w.drew) _ vb j hvw]; exact h
 have hcpA : ∀ (W : World), (∀ x, W.cell? x = W1.cell? x) -> (∀ x, W.frozen? x = W1.frozen? x) -> ∀ ty dc, (Builtin.copy_ #[145, 145] ty #[.slice (some ⟨w.heap.size, i * 5, none⟩) (n + m - i) dc, .slice (some ⟨vb, voff, none⟩) m vc]).run Tryz.prog W = .ok (goInt (Nat.min m (n + m - i))) (W.setCells w.heap.size (i * 5) vs) := fun W hWc hWf ty dc =>
  run_copy_cellsN 5 W _ _ ty 49 w.heap.size (i * 5) (n + m - i) dc ⟨vb, voff, none⟩ m vc vs tSl hsz (by rw [hvl, show Nat.min m (n + m - i) = m by simp only [Nat.min_def]; split <;> omega])
   (fun j v hj => by rw [Addr.add_lit, hWc]; exact hOv _ v (hvs j v hj))
   (fun j hj => by rw [hWc]; exact hN _ (by omega)) (fun j hj => by rw [hWf]; exact hNf _) h1v
 have hGn : n + m <= G := by rw [hG]; exact grownCap_ge w _ _ _
 have hG63 : G <= 9223372036854775807 := by
  have := grownCap_le_maxLen w (n + m) c 49 (by unfold maxLen; omega)
  rw [<- hG] at this
  unfold maxLen at this
  omega
 have hGi : ¬ (G = i) := by omega
 have hGim : ¬ (G = i + m) := by omega
 have hci : ¬ (c = i) := by omega
 have hbN : b ≠ w.heap.size := by omega
 have hdl : (cs.drop (i * 5)).length = (n - i) * 5 := by rw [List.length_drop, hcl, Nat.sub_mul]
 have hcpB : ∀ (W : World), (∀ x, W.cell? x = (W1.setCells w.heap.size (i * 5) vs).cell? x) -> (∀ x, W.frozen? x = (W1.setCells w.heap.size (i * 5) vs).frozen? x) -> ∀ ty dc sc, (Builtin.copy_ #[145, 145] ty #[.slice (some ⟨w.heap.size, (i + m) * 5, none⟩) (n + m - (i + m)) dc, .slice (some ⟨b, off + i * 5, none⟩) (n - i) sc]).run Tryz.prog W = .ok (goInt (Nat.min (n - i) (n + m - (i + m)))) (W.setCells w.heap.size ((i + m) * 5) (cs.drop (i * 5))) := fun W hWc hWf ty dc sc =>
  run_copy_cellsN 5 W _ _ ty 49 w.heap.size ((i + m) * 5) (n + m - (i + m)) dc ⟨b, off + i * 5, none⟩ (n - i) sc (cs.drop (i * 5)) tSl hsz (by rw [hdl, show Nat.min (n - i) (n + m - (i + m)) = n - i by simp only [Nat.min_def]; split <;> omega])
   (fun j v hj => by
    rw [Addr.add_lit, hWc, World.cell?_setCells_out _ _ _ _ _ (fun h _ => absurd h hbN), Nat.add_assoc]
    exact hOb _ v (hcs (i * 5 + j) v (by rwa [List.getElem?_drop] at hj)))
   (fun j hj => by rw [hWc]; exact isSome_setCells _ _ _ _ (fun t ht => hN _ (by omega)) _ (hN _ (by omega)))
   (fun j hj => by rw [hWf, World.frozen?_setCells]; exact hNf _) (fun v hv => h1c v (List.mem_of_mem_drop hv))
 subst hW1
 have hE1 : ∀ x, ((w.alloc (.cells ROW 49)).drew).cell? x = (w.drew.alloc (.cells ROW 49)).cell? x := fun x => rfl
 have hE2 : ∀ x, ((w.alloc (.cells ROW 49)).drew).frozen? x = (w.drew.alloc (.cells ROW 49)).frozen? x := fun x => rfl
 have hF1 : ∀ x, (((w.alloc (.cells ROW 49)).drew.setCells w.heap.size (i * 5) vs).drew).cell? x = ((w.drew.alloc (.cells ROW 49)).setCells w.heap.size (i * 5) vs).cell? x := fun x => rfl
 have hF2 : ∀ x, (((w.alloc (.cells ROW 49)).drew.setCells w.heap.size (i * 5) vs).drew).frozen? x = ((w.drew.alloc (.cells ROW 49)).setCells w.heap.size (i * 5) vs).frozen? x := fun x => rfl
 have hw1 : IntKind.i64.wrap ((i : Int) + (m : Int)) = (i : Int) + (m : Int) := by rw [IntKind.wrap_i64]; omega
 have hb1 : (0 : Int) <= (i : Int) + (m : Int) := by omega
 have hin : i <= n := by omega
 have htn : ((i : Int) + (m : Int)).toNat = i + m := by omega
 have hb3 : (i : Int) <= (n : Int) := by omega
 clear hkk hik hold hROW hG hRl hcs hvs h1c h1v hN hNf hOb hOv htl hdl
 go_enter Tryz.func121, Tryz.ntmps121
 go_wp2_with (first
  | (at_builtin; refine Lib.wpList_append_run _ rfl _ _ _ _ rfl _ _ rfl rfl _ _ (hrz _) ?_)
  | (at_builtin; refine wpList_copy_runI _ rfl _ _ 145 145 rfl _ _ rfl rfl (hcpA _ hE1 hE2 _ _) ?_)
  | (at_builtin; refine wpList_copy_runI _ rfl _ _ 145 145 rfl _ _ rfl rfl (hcpB _ (fun _ => rfl) (fun _ => rfl) _ _ _) ?_))
 go_region_law_o (refine step_copy_runI rfl _ _ 145 145 rfl (.slice (some ⟨w.heap.size, (i + m) * 5, none⟩) (n + m - (i + m)) (G - (i + m))) (.slice (some ⟨b, off + i * 5, none⟩) (n - i) (c - i)) (by simp [Act.eval, Act.put]) (by simp [Act.eval, Act.put]) (hcpB _ hF1 hF2 3 (G - (i + m)) (c - i)) ?_)
 go_wp2
 go_ret
 exact ⟨rfl, rfl⟩
theorem calls_slices_Insert_Limpl_Shape_impl_Shape_mobo (old : Option (Nat × Nat)) (y : Value) (n cap i vb voff m vc : Nat) (cs vs : List Value) (w : World)
  (hold : (old = none /\ n = 0 /\ cap = 0 /\ ∃ ad, y = .slice ad 0 0) \/ ∃ b off C t, old = some (b, off) /\ y = .slice (some ⟨b, off, none⟩) n cap /\ n <= cap /\ w.heap[b]? = some (.cells C t (0, 0)) /\ off + cap * 5 <= C.size /\ (∀ (q : Nat) u, C[q]? = some u -> u.oneCell' = true) /\ (∀ q, q < n * 5 -> C[off + q]? = cs[q]?) /\ vb ≠ b)
  (hi : i <= n) (hm : 0 < m) (hbig : (n + m) * 40 <= 140737488355328) (hcl : cs.length = n * 5) (hvl : vs.length = m * 5) (hvb : ∃ C2 t2, w.heap[vb]? = some (.cells C2 t2 (0, 0)) /\ ∀ q, q < m * 5 -> C2[voff + q]? = vs[q]?) (h1c : ∀ u ∈ cs, u.oneCell' = true) (h1v : ∀ u ∈ vs, u.oneCell' = true) :
  Calls Tryz.prog 121 #[y, .int .i64 i, .slice (some ⟨vb, voff, none⟩) m vc] w (Inserted w old 5 (n + m) (cs.take (i * 5) ++ vs ++ cs.drop (i * 5))) := by
 obtain ⟨C2, t2, hC2, hvs⟩ := hvb
 have hvcell : ∀ j v, vs[j]? = some v -> w.cell? ⟨vb, voff + j, none⟩ = some v := fun j v h => by
  rw [cell_at hC2, hvs j (by have := (List.getElem?_eq_some_iff.1 h).1; omega)]; exact h
 have hz5 : d49.zero.cells.size = 5 := by kernel_rfl
 have hz1 : ∀ k, ∀ v ∈ (Builtin.zeroCells d49.zero.cells k).toList, v.oneCell' = true := fun k => zeroCells_one _ (fun v hv => by
  have := Array.all_eq_true_iff_forall_mem.1 (show d49.zero.cells.all Value.oneCell' = true by kernel_rfl) v hv
  exact this) _
 have hzn : ∀ k, (Builtin.zeroCells d49.zero.cells k).size = k * 5 := fun k => by rw [size_zeroCells, hz5]
 rcases hold with ⟨ho, h0, hc, ad, rfl⟩ | ⟨b, off, C, t, ho, rfl, hnc, hC, hCs, h1C, hcs, hne⟩
 ·subst h0; subst hc
  obtain rfl : i = 0 := by omega
  have hcs0 : cs = [] := List.length_eq_zero_iff.1 (by omega)
  subst hcs0
  refine (ins_end_grow_slices_Insert_Limpl_Shape_impl_Shape_mobo ad 0 0 vb voff m vc [] vs w hm (Nat.le_refl _) (by omega) hbig hcl hvl (fun _ => rfl) (fun a _ j v h => by simp at h) hvcell h1v).mono ?_
  rintro e w' ⟨rfl, rfl⟩
  exact ins_post_endgrow hcl hvl h1v h1c (grownCap_ge _ _ _ _) (hzn _) (hz1 _)
 ·subst ho
  have hccell : ∀ j v, cs[j]? = some v -> w.cell? ⟨b, off + j, none⟩ = some v := fun j v h => by
   rw [cell_at hC, hcs j (by have := (List.getElem?_eq_some_iff.1 h).1; omega)]; exact h
  by_cases hroom : n + m <= cap
  ·have hsp : ∀ j, j < (n + m) * 5 -> (w.cell? ⟨b, off + j, none⟩).isSome = true := fun j hj => by
    rw [cell_at hC, Array.getElem?_eq_getElem (by omega)]; rfl
   by_cases hin : i = n
   ·subst hin
    refine (ins_end_room_slices_Insert_Limpl_Shape_impl_Shape_mobo b off i cap vb voff m vc vs w hm hroom (by omega) hvl (fun j hj => by rw [Nat.add_assoc]; exact hsp _ (by omega)) (fun j hj => frozen_of hC _) hvcell h1v).mono ?_
    rintro e w' ⟨rfl, rfl⟩
    exact ins_post_end hC hCs h1C hcs hcl hvl h1v hroom
   ·refine (ins_shift_slices_Insert_Limpl_Shape_impl_Shape_mobo b off n cap i vb voff m vc cs vs w (by omega) hm hroom (by omega) hne hcl hvl hccell hsp (fun j hj => frozen_of hC _) hvcell h1c h1v t2 t C2.size C.size (by simp [World.shape?, hC2]) (by simp [World.shape?, hC]) (by omega) (frozen_of hC2 _) (frozen_of hC2 _)).mono ?_
    rintro e w' ⟨rfl, rfl⟩
    exact ins_post_shift hC hCs h1C hcs hcl hvl h1v h1c hi hroom
  ·by_cases hin : i = n
   ·subst hin
    refine (ins_end_grow_slices_Insert_Limpl_Shape_impl_Shape_mobo (some ⟨b, off, none⟩) i cap vb voff m vc cs vs w hm hnc (by omega) hbig hcl hvl (fun h => by cases h) (fun a h j v hv => by injection h with h; subst h; rw [Addr.add_lit]; exact hccell j v hv) hvcell h1v).mono ?_
    rintro e w' ⟨rfl, rfl⟩
    exact ins_post_endgrow hcl hvl h1v h1c (grownCap_ge _ _ _ _) (hzn _) (hz1 _)
   ·refine (ins_grow_slices_Insert_Limpl_Shape_impl_Shape_mobo b off n cap i vb voff m vc cs vs w (by omega) hm hnc (by omega) hbig hcl hvl hccell hvcell h1c h1v).mono ?_
    rintro e w' ⟨rfl, rfl⟩
    exact ins_post_grow hcl hvl h1v h1c hi (grownCap_ge _ _ _ _) (hzn _) (hzn _) (hz1 _) (hz1 _)
end
/-- slices.Insert[[]loop.example/g00890/impl.Shape,loop.example/g00890/impl.Shape] -/
def Fq15 (a0 : List TS) (a1 : Int) (a2 : List TS) : Option (List TS) :=
 if 0 <= a1 /\ a1 <= (a0.length : Int) /\ 0 < a2.length /\ (a0.length + a2.length) * 40 <= 140737488355328 then some (a0.take a1.toNat ++ a2 ++ a0.drop a1.toNat) else none
theorem runq15 (a0 : List TS) (a1 : Int) (a2 : List TS) (r : List TS) (h : Fq15 a0 a1 a2 = some r) : Fun Tryz.prog 121 [.c (.os 5 0 (len a0)), .c (wi a1), .c (.os 7 0 (len a2))] [(5, .arr .rw [] (len a0) 5 (row gd (eS) a0)), (7, .arr .rw [] (len a2) 5 (row gd (eS) a2))] (.c (.os 64000 0 (len r))) [(64000, .arr .rw [] (len r) 5 (row gd (eS) r))] true := by
 unfold Fq15 at h
 split at h
 ·rename_i h1
  injection h with h
  subst h
  obtain ⟨i, rfl⟩ : ∃ i : Nat, a1 = i := ⟨a1.toNat, by omega⟩
  rw [Int.toNat_natCast]
  have e : len (a0.take i ++ a2 ++ a0.drop i) = len a0 + len a2 := by
   show List.length _ = List.length _ + List.length _
   rw [List.length_append, List.length_append, List.length_take, List.length_drop]; omega
  rw [e]
  exact Fun.insert Tryz.func121 (by kernel_rfl) (by kernel_rfl) 5 40 (fun old y n cap i vb voff m vc cs vs w h1 h2 h3 h4 h5 h6 h7 h8 h9 => calls_slices_Insert_Limpl_Shape_impl_Shape_mobo old y n cap i vb voff m vc cs vs w h1 h2 h3 h4 h5 h6 h7 h8 h9) (len a0) i (len a2) _ _ _ (show i <= a0.length by omega) (show 0 < a2.length by omega) (show (a0.length + a2.length) * 40 <= _ by omega)
   (fun t ht q hq => by
    show eS (gd _ t) q = if t < i then eS (gd a0 t) q else if t < i + a2.length then eS (gd a2 (t - i)) q else eS (gd a0 (t - a2.length)) q
    rw [ins_get a0 a2 i t (by omega)]
    split
    ·rfl
    ·split <;> rfl) (fun t q => plain_nil (val_plain (vl_encShape _ _))) (fun t q => plain_nil (val_plain (vl_encShape _ _))) (fun t q => val_flat (vl_encShape _ _))
 ·cases h

section
open Go.RowKit Go.Lib
set_option maxRecDepth 1000000 in
/-- slices.Delete: the elements behind those that are taken out lie further ahead, the cells behind are emptied -/
theorem calls_slices_Delete_Limpl_Shape_impl_Shape_mobb (blk off cap n i j : Nat) (D : List Value) (w : World) (hlen : D.length = n * 5) (hD : ∀ t u, D[t]? = some u -> w.cell? ⟨blk, off + t, none⟩ = some u) (h1 : ∀ u ∈ D, u.oneCell' = true) (hfz : ∀ t, t < n * 5 -> w.frozen? ⟨blk, off + t, none⟩ = false) (hcap : n <= cap) (hij : i < j) (hj : j <= n) :
  Calls Tryz.prog 201 #[.slice (some ⟨blk, off, none⟩) n cap, .int .i64 i, .int .i64 j] w fun e w' => e = .returned (.slice (some ⟨blk, off, none⟩) (n - (j - i)) cap) /\ ∃ zs : List Value, zs.length = (j - i) * 5 /\ (∀ u ∈ zs, u.oneCell' = true) /\ w' = (w.drew.setCells blk (off + i * 5) (D.drop (j * 5))).setCells blk (off + (i + (n - j)) * 5) zs := by
 obtain ⟨news, hnews⟩ : ∃ news, news = D.drop (j * 5) := ⟨_, rfl⟩
 have hl : news.length = (n - j) * 5 := by rw [hnews, List.length_drop, hlen, Nat.sub_mul]
 obtain ⟨A, hA, hsrc⟩ : ∃ A : Addr, (if cap = j then some (⟨blk, off, none⟩ : Addr) else some ⟨blk, off + j * 5, none⟩) = some A /\ Hid (∀ t u, news[t]? = some u -> w.drew.cell? (A.add t) = some u) := by
  by_cases h : cap = j
  ·refine ⟨⟨blk, off, none⟩, by simp [h], fun t u hu => ?_⟩
   have h00 : n - j = 0 := by omega
   have h0 : news.length = 0 := by rw [hl, h00, Nat.zero_mul]
   rw [List.length_eq_zero_iff.1 h0] at hu
   simp at hu
  ·refine ⟨⟨blk, off + j * 5, none⟩, by simp [h], fun t u hu => ?_⟩
   rw [Addr.add_lit, Nat.add_assoc]
   exact hD _ u (by rw [hnews, List.getElem?_drop] at hu; exact hu)
 have s1 : Hid (news.length = (n - j) * 5) := hl
 have s2 : Hid (∀ u ∈ news, u.oneCell' = true) := fun u hu => h1 u (List.mem_of_mem_drop (by rw [hnews] at hu; exact hu))
 have hex : ∀ t, t < n * 5 -> (w.cell? ⟨blk, off + t, none⟩).isSome = true := fun t ht => by
  rw [hD t (D[t]'(by omega)) (List.getElem?_eq_getElem (by omega))]; rfl
 have s3 : Hid (∀ t, t < news.length -> (w.drew.cell? ⟨blk, off + i * 5 + t, none⟩).isSome = true /\ w.drew.frozen? ⟨blk, off + i * 5 + t, none⟩ = false) := fun t ht => by
  rw [hl] at ht
  rw [Nat.add_assoc]
  exact ⟨hex _ (by omega), hfz _ (by omega)⟩
 obtain ⟨W1, hW1⟩ : ∃ W1, W1 = w.drew.setCells blk (off + i * 5) news := ⟨_, rfl⟩
 have hW : Hid (W1 = w.drew.setCells blk (off + i * 5) news) := hW1
 obtain ⟨z, hz⟩ : ∃ z, z = (Builtin.zeroCells d49.zero.cells (j - i)).toList := ⟨_, rfl⟩
 have hzs : d49.zero.cells.size = 5 := by kernel_rfl
 have hzl : z.length = (j - i) * 5 := by rw [hz, Array.length_toList, size_zeroCells, hzs]
 have hz1 : ∀ v ∈ z, v.oneCell' = true := by
  rw [hz]
  exact zeroCells_one _ (fun v hv => by
   have := Array.all_eq_true_iff_forall_mem.1 (show d49.zero.cells.all Value.oneCell' = true by kernel_rfl) v hv
   exact this) _
 have hcl : ∀ ty, (Builtin.clear_ #[145] ty #[.slice (some ⟨blk, off + (i + (n - j)) * 5, none⟩) (n - (i + (n - j))) (cap - (i + (n - j)))]).run Tryz.prog W1 = .ok (.tuple #[]) (W1.setCells blk (off + (i + (n - j)) * 5) z) := fun ty => by
  have e : n - (i + (n - j)) = j - i := by omega
  rw [e, hz]
  refine run_clear_cells W1 145 49 ty d49.zero (by kernel_rfl) (fun w => ?_) blk _ _ _ (by omega) ?_ ?_ ?_
  ·exact run_zero tok (show T 49 = some d49 from rfl)
  ·rw [<- hz]; exact hz1
  ·intro t ht
   rw [size_zeroCells, hzs] at ht
   rw [hW1, Nat.add_assoc]
   refine isSome_setCells blk _ _ _ (fun q hq => ?_) _ (hex _ ?_)
   ·rw [hl] at hq
    rw [Nat.add_assoc]; exact hex _ (by omega)
   ·omega
  ·intro t ht
   rw [size_zeroCells, hzs] at ht
   rw [hW1, World.frozen?_setCells, Nat.add_assoc]
   exact hfz _ (by omega)
 have hX : Hid (∃ zs : List Value, zs.length = (j - i) * 5 /\ (∀ u ∈ zs, u.oneCell' = true) /\ W1.setCells blk (off + (i + (n - j)) * 5) z = (w.drew.setCells blk (off + i * 5) (D.drop (j * 5))).setCells blk (off + (i + (n - j)) * 5) zs) := ⟨z, hzl, hz1, by rw [hW1, hnews]⟩
 have hic : i <= cap := by omega
 have hjc : j <= cap := by omega
 have hne : ¬ (i = j) := by omega
 have hI : (Tryz.prog.info? 49).map (·.size) = some 5 := by kernel_rfl
 obtain ⟨i0, hi0, hz5⟩ : ∃ i0, Tryz.prog.info? 49 = some i0 /\ i0.size = 5 := by
  cases h : Tryz.prog.info? 49 with
  | none => rw [h] at hI; cases hI
  | some i0 => rw [h] at hI; exact ⟨i0, rfl, by injection hI⟩
 have mixed : Tryz.prog.follows .mixedOrders = true := by kernel_rfl
 clear hW1 hex hzs hnews hl hz hzl hz1 hD h1 hfz
 go_enter Tryz.func201, Tryz.ntmps201
 go_wp2_with fail
 go_region_law_o (refine step_append_room rfl (.tmp 22) (.tmp 25) 145 rfl 49 i0 5 (by kernel_rfl) hi0 hz5 blk off i cap (by simp [Act.eval, Act.put]) A (n - j) (cap - j) news (by simp [Act.eval, Act.put, hA]) s1.out hsrc.out s2.out (by omega) s3.out ?_; rw [<- hW.out])
 go_wp2
 go_ret
 refine ⟨by rw [show n - (j - i) = i + (n - j) by omega]; rfl, hX.out⟩
end
/-- slices.Delete[[]loop.example/g00890/impl.Shape,loop.example/g00890/impl.Shape] -/
def Fq52 (a0 : List TS) (a1 : Int) (a2 : Int) : Option (List TS) :=
 if 0 <= a1 /\ a1 < a2 /\ a2 <= (a0.length : Int) then some (a0.take a1.toNat ++ a0.drop a2.toNat) else none
theorem runq52 (a0 : List TS) (a1 : Int) (a2 : Int) (r : List TS) (h : Fq52 a0 a1 a2 = some r) : Fun Tryz.prog 201 [.c (.os 5 0 (len a0)), .c (wi a1), .c (wi a2)] [(5, .arr .rw [] (len a0) 5 (row gd (eS) a0))] (.c (.os 64000 0 (len r))) [(64000, .arr .rw [] (len r) 5 (row gd (eS) r))] true := by
 unfold Fq52 at h
 split at h
 ·rename_i h1
  injection h with h
  subst h
  obtain ⟨i, rfl⟩ : ∃ i : Nat, a1 = i := ⟨a1.toNat, by omega⟩
  obtain ⟨j, rfl⟩ : ∃ j : Nat, a2 = j := ⟨a2.toNat, by omega⟩
  rw [Int.toNat_natCast, Int.toNat_natCast]
  have e : len (a0.take i ++ a0.drop j) = len a0 - (j - i) := by
   show List.length _ = List.length _ - _
   rw [List.length_append, List.length_take, List.length_drop]; omega
  rw [e]
  exact Fun.delete Tryz.func201 (by kernel_rfl) (by kernel_rfl) 5 (fun blk off cap n i j D w h1 h2 h3 h4 h5 h6 h7 => calls_slices_Delete_Limpl_Shape_impl_Shape_mobb blk off cap n i j D w h1 h2 h3 h4 h5 h6 h7) (len a0) i j _ _ (by omega) (show j <= a0.length by omega)
   (fun t ht q hq => by show eS (gd _ t) q = eS (gd a0 _) q; rw [cut_get a0 i j t (by omega) (by omega)]) (fun t q => plain_nil (val_plain (vl_encShape _ _))) (fun t q => val_flat (vl_encShape _ _))
 ·cases h

/-- impl.Shape] -/
def Fq77 (a0 : List TS) (a1 : Int) : Option (List TS) :=
 (Fq52 a0 a1 (std.add .i64 a1 1)).bind fun y1 =>
 some y1
theorem runq77 (a0 : List TS) (a1 : Int) (r : List TS) (h : Fq77 a0 a1 = some r) : Fun Tryz.prog 122 [.c (.os 5 0 (len a0)), .c (wi a1)] [(5, .arr .rw [] (len a0) 5 (row gd (eS) a0))] (.c (.os 64000 0 (len r))) [(64000, .arr .rw [] (len r) 5 (row gd (eS) r))] true := by
 refine Fun.of_wp (oneOf []) tok mixed Tryz.func122 (by kernel_rfl) rfl Tryz.ntmps122 rfl ⟨fun i _ j _ k hk => (noref (plain_nil (pl_encShape _ _)) hk).elim, tv⟩ (fun _ => ⟨trivial, ⟨fun i _ j _ => val_flat (vl_encShape _ _), tv⟩⟩) ?_
 unfold Fq77 at h
 have hfq52 := @runq52
 generalize hLEN : @len = LEN, hGD : @gd = GD, hA : std = A, hP : Tryz.prog = P at *
 cbv
 replace h := ob_ h
 obtain ⟨y1, hy2, h⟩ := h
 refine ⟨⟨_, _, _, _, _, [(5, 5)], [(64000, 576)]⟩, hfq52 _ _ _ _ hy2, ⟨zs3, ⟨oS, tv⟩, rfl, rfl, rfl, rfl, ⟨evn 64000 rfl, tv⟩, rfl⟩, _, rfl, _, _, rfl, fun _ _ _ _ => .refl _, ?_⟩
 cbv
 injection h with h
 subst h
 refine ⟨(sp 10 [(4, .c (.os 64000 0 (LEN y1)))] [(64000, .arr .rw [] (LEN y1) 5 (row GD (eS) y1))]), ?_, ?_⟩
 ·refine St.le_trans (le_ren 576 64000 (by decide) rfl) ?_
  exact lsp rfl zl1 ⟨oS, tv⟩ rfl
 ·exact ⟨lR _, ⟨oS, tv⟩, rfl⟩

section
open Go.RowKit Go.Lib
set_option maxRecDepth 1000000 in
theorem ins_shift_slices_Insert_Limpl_Label_impl_Label_mobo (b off n c i vb voff m vc : Nat) (cs vs : List Value) (w : World) (hi : i < n) (hm : 0 < m) (hroom : n + m <= c) (hc63 : n + m <= 9223372036854775807) (hvb : vb ≠ b)
  (hcl : cs.length = n * 4) (hvl : vs.length = m * 4)
  (hcs : ∀ j v, cs[j]? = some v -> w.cell? ⟨b, off + j, none⟩ = some v) (hsp : ∀ j, j < (n + m) * 4 -> (w.cell? ⟨b, off + j, none⟩).isSome = true) (hfz : ∀ j, j < (n + m) * 4 -> w.frozen? ⟨b, off + j, none⟩ = false)
  (hvs : ∀ j v, vs[j]? = some v -> w.cell? ⟨vb, voff + j, none⟩ = some v) (h1c : ∀ v ∈ cs, v.oneCell' = true) (h1v : ∀ v ∈ vs, v.oneCell' = true)
  (tA tB : TypeId) (kA kB : Nat) (hsa : w.shape? vb = some (tA, kA)) (hsb : w.shape? b = some (tB, kB)) (hkB : kB ≠ 0) (hfa : w.frozen? ⟨vb, voff, none⟩ = false) (hfe : w.frozen? ⟨vb, kA, none⟩ = false) :
  Calls Tryz.prog 123 #[.slice (some ⟨b, off, none⟩) n c, .int .i64 i, .slice (some ⟨vb, voff, none⟩) m vc] w fun e w' =>
   e = .returned (.slice (some ⟨b, off, none⟩) (n + m) c) /\ w' = (w.drew.setCells b (off + (i + m) * 4) (cs.drop (i * 4))).setCells b (off + i * 4) vs := by
 have tSl : Tryz.prog.underlying 146 = some (.slice 52) := by kernel_rfl
 have hz1 : ¬ ((m : Int) = 0) := by omega
 have hz2 : ¬ ((i : Int) = (n : Int)) := by omega
 have hsz : (Tryz.prog.info? 52).map (·.size) = some 4 := by kernel_rfl
 have hov : ∀ lb cb, (callFunc 202 #[.slice (some ⟨vb, voff, none⟩) m vc, .slice (some ⟨b, off + (i + m) * 4, none⟩) lb cb]).run Tryz.prog w = .ok (.value (.bool false)) w := fun lb cb => by
  rw [run_callFunc_extern Tryz.func202 (by kernel_rfl) (by kernel_rfl) (by kernel_rfl) (e := Extern.SlicesOverlaps.overlaps #[146, 146] #[4]) (by kernel_rfl),
   Lib.run_overlaps_apart w 146 4 52 tSl 4 (fun w => run_sizeOf tok (show T 52 = some d52 from rfl)) ⟨vb, voff, none⟩ ⟨b, off + (i + m) * 4, none⟩ m vc lb cb hvb tA tB kA kB hsa hsb hkB hfa hfe]
  rfl
 have hdl : (cs.drop (i * 4)).length = (n - i) * 4 := by rw [List.length_drop, hcl, Nat.sub_mul]
 have mixed : Tryz.prog.follows .mixedOrders = true := by kernel_rfl
 have hw1 : IntKind.i64.wrap ((i : Int) + (m : Int)) = (i : Int) + (m : Int) := by rw [IntKind.wrap_i64]; omega
 have hb1 : (0 : Int) <= (i : Int) + (m : Int) := by omega
 have hin : i <= n := by omega
 have htn : ((i : Int) + (m : Int)).toNat = i + m := by omega
 have hb2 : ¬ (c = i + m) := by omega
 have hb3 : (i : Int) <= (n : Int) + (m : Int) := by omega
 have hb4 : ¬ (c = i) := by omega
 have hcp1 : ∀ ty dc sc, (Builtin.copy_ #[146, 146] ty #[.slice (some ⟨b, off + (i + m) * 4, none⟩) (n + m - (i + m)) dc, .slice (some ⟨b, off + i * 4, none⟩) (n + m - i) sc]).run Tryz.prog w.drew = .ok (goInt (Nat.min (n + m - i) (n + m - (i + m)))) (w.drew.setCells b (off + (i + m) * 4) (cs.drop (i * 4))) := fun ty dc sc =>
  run_copy_cellsN 4 w.drew _ _ ty 52 b (off + (i + m) * 4) (n + m - (i + m)) dc ⟨b, off + i * 4, none⟩ (n + m - i) sc (cs.drop (i * 4)) tSl hsz (by rw [hdl, show Nat.min (n + m - i) (n + m - (i + m)) = n - i by simp only [Nat.min_def]; split <;> omega])
   (fun j v hj => by rw [Addr.add_lit, Nat.add_assoc]; exact hcs (i * 4 + j) v (by rwa [List.getElem?_drop] at hj))
   (fun j hj => by rw [Nat.add_assoc]; exact hsp _ (by omega)) (fun j hj => by rw [Nat.add_assoc]; exact hfz _ (by omega)) (fun v hv => h1c v (List.mem_of_mem_drop hv))
 obtain ⟨W1, hW1⟩ : ∃ W1, W1 = w.drew.setCells b (off + (i + m) * 4) (cs.drop (i * 4)) := ⟨_, rfl⟩
 have hsp1 : ∀ k, k < (n + m) * 4 -> (W1.cell? ⟨b, off + k, none⟩).isSome = true := fun k hk => by
  rw [hW1]
  exact isSome_setCells b _ _ _ (fun j hj => by rw [Nat.add_assoc]; exact hsp _ (by omega)) _ (hsp k hk)
 have hcp2 : ∀ (W : World), (∀ x, W.cell? x = W1.cell? x) -> (∀ x, W.frozen? x = W1.frozen? x) -> ∀ ty dc, (Builtin.copy_ #[146, 146] ty #[.slice (some ⟨b, off + i * 4, none⟩) (n + m - i) dc, .slice (some ⟨vb, voff, none⟩) m vc]).run Tryz.prog W = .ok (goInt (Nat.min m (n + m - i))) (W.setCells b (off + i * 4) vs) := fun W hWc hWf ty dc =>
  run_copy_cellsN 4 W _ _ ty 52 b (off + i * 4) (n + m - i) dc ⟨vb, voff, none⟩ m vc vs tSl hsz (by rw [hvl, show Nat.min m (n + m - i) = m by simp only [Nat.min_def]; split <;> omega])
   (fun j v hj => by
    rw [Addr.add_lit, hWc, hW1, World.cell?_setCells_out b _ _ _ _ (fun h _ => absurd h hvb)]
    exact hvs j v hj)
   (fun j hj => by rw [hWc, Nat.add_assoc]; exact hsp1 _ (by omega)) (fun j hj => by rw [hWf, hW1, World.frozen?_setCells, Nat.add_assoc]; exact hfz _ (by omega)) h1v
 rw [<- hW1] at hcp1
 clear hsp hfz hcs hvs h1c h1v
 go_enter Tryz.func123, Tryz.ntmps123
 go_wp2_with (simp only [hov])
 go_region_law_o (refine step_copy_runI rfl _ _ 146 146 rfl _ _ (by simp [Act.eval, Act.put]) (by simp [Act.eval, Act.put]) (hcp1 _ _ _) ?_)
 go_wp2_with (at_builtin; refine wpList_copy_runI _ rfl _ _ 146 146 rfl _ _ rfl rfl (hcp2 _ (fun _ => rfl) (fun _ => rfl) _ _) ?_)
 go_ret
 first | exact ⟨rfl, rfl⟩ | exact ⟨rfl, by rw [hW1]⟩
set_option maxRecDepth 1000000 in
theorem ins_end_room_slices_Insert_Limpl_Label_impl_Label_mobo (b off n c vb voff m vc : Nat) (vs : List Value) (w : World) (hm : 0 < m) (hroom : n + m <= c) (hc63 : n + m <= 9223372036854775807)
  (hvl : vs.length = m * 4) (hsp : ∀ j, j < m * 4 -> (w.cell? ⟨b, off + n * 4 + j, none⟩).isSome = true) (hfz : ∀ j, j < m * 4 -> w.frozen? ⟨b, off + n * 4 + j, none⟩ = false)
  (hvs : ∀ j v, vs[j]? = some v -> w.cell? ⟨vb, voff + j, none⟩ = some v) (h1v : ∀ v ∈ vs, v.oneCell' = true) :
  Calls Tryz.prog 123 #[.slice (some ⟨b, off, none⟩) n c, .int .i64 n, .slice (some ⟨vb, voff, none⟩) m vc] w fun e w' =>
   e = .returned (.slice (some ⟨b, off, none⟩) (n + m) c) /\ w' = w.setCells b (off + n * 4) vs := by
 have tSl : Tryz.prog.underlying 146 = some (.slice 52) := by kernel_rfl
 have mixed : Tryz.prog.follows .mixedOrders = true := by kernel_rfl
 have hI : (Tryz.prog.info? 52).map (·.size) = some 4 := by kernel_rfl
 obtain ⟨i0, hi0, hz5⟩ : ∃ i0, Tryz.prog.info? 52 = some i0 /\ i0.size = 4 := by
  cases h : Tryz.prog.info? 52 with
  | none => rw [h] at hI; cases hI
  | some i0 => rw [h] at hI; exact ⟨i0, rfl, by injection hI⟩
 have hz1 : ¬ ((m : Int) = 0) := by omega
 have hsrc : Src Tryz.prog i0.size 146 (.slice (some ⟨vb, voff, none⟩) m vc) m vs w := Src.ofSlice w tSl ⟨vb, voff, none⟩ m vc vs (by rw [hz5]; exact hvl) (fun j u hj => by rw [Addr.add_lit]; exact hvs j u hj) h1v
 have s1 : Hid (∀ j, j < vs.length -> (w.cell? ⟨b, off + n * i0.size + j, none⟩).isSome = true) := by rw [hvl, hz5]; exact hsp
 have s2 : Hid (∀ j, j < vs.length -> w.frozen? ⟨b, off + n * i0.size + j, none⟩ = false) := by rw [hvl, hz5]; exact hfz
 clear hsp hfz hvs
 go_enter Tryz.func123, Tryz.ntmps123
 go_wp2_with (at_builtin; refine wpList_append_room_src _ rfl _ _ 146 146 rfl 52 i0 tSl hi0 b off n c rfl _ rfl m vs hsrc hroom s1.out s2.out ?_)
 go_ret
 exact ⟨rfl, rfl⟩
set_option maxRecDepth 1000000 in
theorem ins_end_grow_slices_Insert_Limpl_Label_impl_Label_mobo (base : Option Addr) (n c vb voff m vc : Nat) (cs vs : List Value) (w : World) (hm : 0 < m) (hnc : n <= c) (hroom : c < n + m) (hbig : (n + m) * 40 <= 140737488355328)
  (hcl : cs.length = n * 4) (hvl : vs.length = m * 4) (hnil : base = none -> n = 0)
  (hcs : ∀ a, base = some a -> ∀ j v, cs[j]? = some v -> w.cell? (a.add j) = some v)
  (hvs : ∀ j v, vs[j]? = some v -> w.cell? ⟨vb, voff + j, none⟩ = some v) (h1v : ∀ v ∈ vs, v.oneCell' = true) :
  Calls Tryz.prog 123 #[.slice base n c, .int .i64 n, .slice (some ⟨vb, voff, none⟩) m vc] w fun e w' =>
   e = .returned (.slice (some ⟨w.heap.size, 0, none⟩) (n + m) (grownCap w (n + m) c 52)) /\
   w' = w.drew.alloc (.cells ((cs ++ vs).toArray ++ Builtin.zeroCells d52.zero.cells (grownCap w (n + m) c 52 - (n + m))) 52) := by
 have tSl : Tryz.prog.underlying 146 = some (.slice 52) := by kernel_rfl
 have mixed : Tryz.prog.follows .mixedOrders = true := by kernel_rfl
 obtain ⟨i0, hi0, hzs, hzb, hz0⟩ := (tok 52 d52 rfl).2.1
 have hzs : i0.size = 4 := hzs
 have hzb : i0.bytes = 40 := hzb
 have hz1 : ¬ ((m : Int) = 0) := by omega
 have hsrc : Src Tryz.prog i0.size 146 (.slice (some ⟨vb, voff, none⟩) m vc) m vs w := Src.ofSlice w tSl ⟨vb, voff, none⟩ m vc vs (by rw [hzs]; exact hvl) (fun j u hj => by rw [Addr.add_lit]; exact hvs j u hj) h1v
 have hold : (Builtin.firstCells i0.size n (.slice base n c)).run Tryz.prog w.drew = .ok cs.toArray w.drew := by
  rw [hzs]
  cases base with
  | none =>
   have h0 := hnil rfl
   subst h0
   have hc0 : cs.length = 0 := by rw [hcl, Nat.zero_mul]
   rw [List.length_eq_zero_iff.1 hc0]
   exact run_firstCells_none w.drew 4 0 0 c
  | some a => exact run_firstCells_some w.drew 4 n a n c cs hcl (fun j v hj => hcs a rfl j v hj)
 have hrun : ∀ ty, (Builtin.append_ #[146, 146] ty #[.slice base n c, .slice (some ⟨vb, voff, none⟩) m vc]).run Tryz.prog w = _ := fun ty =>
  run_append_grow_src w 146 146 ty 52 i0 _ tSl hi0 hz0 base n c cs hold _ m vs hsrc hroom (by omega) (by rw [hzb]; exact growslice_fits hroom hbig)
 go_enter Tryz.func123, Tryz.ntmps123
 cases base with
 | none =>
  have h0 := hnil rfl
  subst h0
  go_wp2_with (at_builtin; refine Lib.wpList_append_run _ rfl _ _ _ _ rfl _ _ rfl rfl _ _ (hrun _) ?_)
  go_ret
  exact ⟨rfl, rfl⟩
 | some a =>
  obtain ⟨ab, ao, asp⟩ := a
  go_wp2_with (at_builtin; refine Lib.wpList_append_run _ rfl _ _ _ _ rfl _ _ rfl rfl _ _ (hrun _) ?_)
  all_goals (go_ret; exact ⟨rfl, rfl⟩)
set_option maxRecDepth 1000000 in
theorem ins_grow_slices_Insert_Limpl_Label_impl_Label_mobo (b off n c i vb voff m vc : Nat) (cs vs : List Value) (w : World) (hi : i < n) (hm : 0 < m) (hnc : n <= c) (hroom : c < n + m) (hbig : (n + m) * 40 <= 140737488355328)
  (hcl : cs.length = n * 4) (hvl : vs.length = m * 4)
  (hcs : ∀ j v, cs[j]? = some v -> w.cell? ⟨b, off + j, none⟩ = some v)
  (hvs : ∀ j v, vs[j]? = some v -> w.cell? ⟨vb, voff + j, none⟩ = some v) (h1c : ∀ v ∈ cs, v.oneCell' = true) (h1v : ∀ v ∈ vs, v.oneCell' = true) :
  Calls Tryz.prog 123 #[.slice (some ⟨b, off, none⟩) n c, .int .i64 i, .slice (some ⟨vb, voff, none⟩) m vc] w fun e w' =>
   e = .returned (.slice (some ⟨w.heap.size, 0, none⟩) (n + m) (grownCap w (n + m) c 52)) /\
   w' = (((w.alloc (.cells ((cs.take (i * 4)).toArray ++ Builtin.zeroCells d52.zero.cells (n + m - i) ++ Builtin.zeroCells d52.zero.cells (grownCap w (n + m) c 52 - (n + m))) 52)).drew.setCells w.heap.size (i * 4) vs).drew).setCells w.heap.size ((i + m) * 4) (cs.drop (i * 4)) := by
 have tSl : Tryz.prog.underlying 146 = some (.slice 52) := by kernel_rfl
 have t3 : Tryz.prog.underlying 3 = some (.int .i64) := by kernel_rfl
 have mixed : Tryz.prog.follows .mixedOrders = true := by kernel_rfl
 obtain ⟨i0, hi0, hzs, hzb, hz0⟩ := (tok 52 d52 rfl).2.1
 have hzs : i0.size = 4 := hzs
 have hzb : i0.bytes = 40 := hzb
 have hz5 : d52.zero.cells.size = 4 := by kernel_rfl
 have hz1 : ¬ ((m : Int) = 0) := by omega
 have hz2 : ¬ ((i : Int) = (n : Int)) := by omega
 have hz3 : (c : Int) < (n : Int) + (m : Int) := by omega
 have hsz : (Tryz.prog.info? 52).map (·.size) = some 4 := by rw [hi0]; simp [hzs]
 have hbw : b < w.heap.size := block_lt_of_cell (hcs 0 _ (List.getElem?_eq_getElem (by omega)))
 have hvw : vb < w.heap.size := block_lt_of_cell (hvs 0 _ (List.getElem?_eq_getElem (by omega)))
 have hkk : (n : Int) + (m : Int) - (i : Int) = ((n + m - i : Nat) : Int) := by omega
 have hik : i + (n + m - i) = n + m := by omega
 have htl : (cs.take (i * 4)).length = i * 4 := by rw [List.length_take, hcl]; omega
 have hold : (Builtin.firstCells i0.size i (.slice (some ⟨b, off, none⟩) i c)).run Tryz.prog w.drew = .ok (cs.take (i * 4)).toArray w.drew := by
  rw [hzs]
  exact run_firstCells_some w.drew 4 i ⟨b, off, none⟩ i c (cs.take (i * 4)) htl (fun j v hj => by
   rw [Addr.add_lit]
   rw [List.getElem?_take] at hj
   split at hj
   ·exact hcs j v hj
   ·cases hj)
 have hrz : ∀ ty, (Builtin.append_ #[146, 3] ty #[.slice (some ⟨b, off, none⟩) i c, .int .i64 ((n : Int) + (m : Int) - (i : Int))]).run Tryz.prog w =
   .ok (.slice (some ⟨w.heap.size, 0, none⟩) (n + m) (grownCap w (n + m) c 52)) (w.drew.alloc (.cells ((cs.take (i * 4)).toArray ++ Builtin.zeroCells d52.zero.cells (n + m - i) ++ Builtin.zeroCells d52.zero.cells (grownCap w (n + m) c 52 - (n + m))) 52)) := fun ty => by
  have h := Lib.run_append_grow_zeros w 146 3 ty 52 i0 _ .i64 .i64 tSl t3 hi0 hz0 (some ⟨b, off, none⟩) i c (cs.take (i * 4)) hold (n + m - i) (by omega) (by omega) (by omega) (by omega) (by rw [hzb]; omega) (by rw [hzb, hik]; exact growslice_fits hroom hbig)
  rw [hik] at h
  rw [hkk]
  exact h
 obtain ⟨G, hG⟩ : ∃ G, G = grownCap w (n + m) c 52 := ⟨_, rfl⟩
 obtain ⟨ROW, hROW⟩ : ∃ ROW : Array Value, ROW = (cs.take (i * 4)).toArray ++ Builtin.zeroCells d52.zero.cells (n + m - i) ++ Builtin.zeroCells d52.zero.cells (G - (n + m)) := ⟨_, rfl⟩
 rw [<- hG] at hrz ⊢
 rw [<- hROW] at hrz ⊢
 have hRl : (n + m) * 4 <= ROW.size := by
  rw [hROW, Array.size_append, Array.size_append, size_zeroCells, size_zeroCells, hz5, List.size_toArray, htl]
  omega
 obtain ⟨W1, hW1⟩ : ∃ W1, W1 = w.drew.alloc (.cells ROW 52) := ⟨_, rfl⟩
 rw [<- hW1] at hrz
 have hN : ∀ j, j < (n + m) * 4 -> (W1.cell? ⟨w.heap.size, j, none⟩).isSome = true := fun j hj => by
  rw [hW1, World.cell?_alloc_at (w := w.drew) ROW _ w.heap.size j rfl, Array.getElem?_eq_getElem (by omega)]; rfl
 have hNf : ∀ j, W1.frozen? ⟨w.heap.size, j, none⟩ = false := fun j => by rw [hW1]; exact World.frozen?_alloc_at (w := w.drew) ROW _ w.heap.size j rfl
 have hOb : ∀ j v, w.cell? ⟨b, j, none⟩ = some v -> W1.cell? ⟨b, j, none⟩ = some v := fun j v h => by rw [hW1, World.cell?_alloc_past (w := w.drew) _ b j hbw]; exact h
 have hOv : ∀ j v, w.cell? ⟨vb, j, none⟩ = some v -> W1.cell? ⟨vb, j, none⟩ = some v := fun j v h => by rw [hW1, World.cell?_alloc_past (w := w.drew) _ vb j hvw]; exact h
 have hcpA : ∀ (W : World), (∀ x, W.cell? x = W1.cell? x) -> (∀ x, W.frozen? x = W1.frozen? x) -> ∀ ty dc, (Builtin.copy_ #[146, 146] ty #[.slice (some ⟨w.heap.size, i * 4, none⟩) (n + m - i) dc, .slice (some ⟨vb, voff, none⟩) m vc]).run Tryz.prog W = .ok (goInt (Nat.min m (n + m - i))) (W.setCells w.heap.size (i * 4) vs) := fun W hWc hWf ty dc =>
  run_copy_cellsN 4 W _ _ ty 52 w.heap.size (i * 4) (n + m - i) dc ⟨vb, voff, none⟩ m vc vs tSl hsz (by rw [hvl, show Nat.min m (n + m - i) = m by simp only [Nat.min_def]; split <;> omega])
   (fun j v hj => by rw [Addr.add_lit, hWc]; exact hOv _ v (hvs j v hj))
   (fun j hj => by rw [hWc]; exact hN _ (by omega)) (fun j hj => by rw [hWf]; exact hNf _) h1v
 have hGn : n + m <= G := by rw [hG]; exact grownCap_ge w _ _ _
 have hG63 : G <= 9223372036854775807 := by
  have := grownCap_le_maxLen w (n + m) c 52 (by unfold maxLen; omega)
  rw [<- hG] at this
  unfold maxLen at this
  omega
 have hGi : ¬ (G = i) := by omega
 have hGim : ¬ (G = i + m) := by omega
 have hci : ¬ (c = i) := by omega
 have hbN : b ≠ w.heap.size := by omega
 have hdl : (cs.drop (i * 4)).length = (n - i) * 4 := by rw [List.length_drop, hcl, Nat.sub_mul]
 have hcpB : ∀ (W : World), (∀ x, W.cell? x = (W1.setCells w.heap.size (i * 4) vs).cell? x) -> (∀ x, W.frozen? x = (W1.setCells w.heap.size (i * 4) vs).frozen? x) -> ∀ ty dc sc, (Builtin.copy_ #[146, 146] ty #[.slice (some ⟨w.heap.size, (i + m) * 4, none⟩) (n + m - (i + m)) dc, .slice (some ⟨b, off + i * 4, none⟩) (n - i) sc]).run Tryz.prog W = .ok (goInt (Nat.min (n - i) (n + m - (i + m)))) (W.setCells w.heap.size ((i + m) * 4) (cs.drop (i * 4))) := fun W hWc hWf ty dc sc =>
  run_copy_cellsN 4 W _ _ ty 52 w.heap.size ((i + m) * 4) (n + m - (i + m)) dc ⟨b, off + i * 4, none⟩ (n - i) sc (cs.drop (i * 4)) tSl hsz (by rw [hdl, show Nat.min (n - i) (n + m - (i + m)) = n - i by simp only [Nat.min_def]; split <;> omega])
   (fun j v hj => by
    rw [Addr.add_lit, hWc, World.cell?_setCells_out _ _ _ _ _ (fun h _ => absurd h hbN), Nat.add_assoc]
    exact hOb _ v (hcs (i * 4 + j) v (by rwa [List.getElem?_drop] at hj)))
   (fun j hj => by rw [hWc]; exact isSome_setCells _ _ _ _ (fun t ht => hN _ (by omega)) _ (hN _ (by omega)))
   (fun j hj => by rw [hWf, World.frozen?_setCells]; exact hNf _) (fun v hv => h1c v (List.mem_of_mem_drop hv))
 subst hW1
 have hE1 : ∀ x, ((w.alloc (.cells ROW 52)).drew).cell? x = (w.drew.alloc (.cells ROW 52)).cell? x := fun x => rfl
 have hE2 : ∀ x, ((w.alloc (.cells ROW 52)).drew).frozen? x = (w.drew.alloc (.cells ROW 52)).frozen? x := fun x => rfl
 have hF1 : ∀ x, (((w.alloc (.cells ROW 52)).drew.setCells w.heap.size (i * 4) vs).drew).cell? x = ((w.drew.alloc (.cells ROW 52)).setCells w.heap.size (i * 4) vs).cell? x := fun x => rfl
 have hF2 : ∀ x, (((w.alloc (.cells ROW 52)).drew.setCells w.heap.size (i * 4) vs).drew).frozen? x = ((w.drew.alloc (.cells ROW 52)).setCells w.heap.size (i * 4) vs).frozen? x := fun x => rfl
 have hw1 : IntKind.i64.wrap ((i : Int) + (m : Int)) = (i : Int) + (m : Int) := by rw [IntKind.wrap_i64]; omega
 have hb1 : (0 : Int) <= (i : Int) + (m : Int) := by omega
 have hin : i <= n := by omega
 have htn : ((i : Int) + (m : Int)).toNat = i + m := by omega
 have hb3 : (i : Int) <= (n : Int) := by omega
 clear hkk hik hold hROW hG hRl hcs hvs h1c h1v hN hNf hOb hOv htl hdl
 go_enter Tryz.func123, Tryz.ntmps123
 go_wp2_with (first
  | (at_builtin; refine Lib.wpList_append_run _ rfl _ _ _ _ rfl _ _ rfl rfl _ _ (hrz _) ?_)
  | (at_builtin; refine wpList_copy_runI _ rfl _ _ 146 146 rfl _ _ rfl rfl (hcpA _ hE1 hE2 _ _) ?_)
  | (at_builtin; refine wpList_copy_runI _ rfl _ _ 146 146 rfl _ _ rfl rfl (hcpB _ (fun _ => rfl) (fun _ => rfl) _ _ _) ?_))
 go_region_law_o (refine step_copy_runI rfl _ _ 146 146 rfl (.slice (some ⟨w.heap.size, (i + m) * 4, none⟩) (n + m - (i + m)) (G - (i + m))) (.slice (some ⟨b, off + i * 4, none⟩) (n - i) (c - i)) (by simp [Act.eval, Act.put]) (by simp [Act.eval, Act.put]) (hcpB _ hF1 hF2 3 (G - (i + m)) (c - i)) ?_)
 go_wp2
 go_ret
 exact ⟨rfl, rfl⟩
theorem calls_slices_Insert_Limpl_Label_impl_Label_mobo (old : Option (Nat × Nat)) (y : Value) (n cap i vb voff m vc : Nat) (cs vs : List Value) (w : World)
  (hold : (old = none /\ n = 0 /\ cap = 0 /\ ∃ ad, y = .slice ad 0 0) \/ ∃ b off C t, old = some (b, off) /\ y = .slice (some ⟨b, off, none⟩) n cap /\ n <= cap /\ w.heap[b]? = some (.cells C t (0, 0)) /\ off + cap * 4 <= C.size /\ (∀ (q : Nat) u, C[q]? = some u -> u.oneCell' = true) /\ (∀ q, q < n * 4 -> C[off + q]? = cs[q]?) /\ vb ≠ b)
  (hi : i <= n) (hm : 0 < m) (hbig : (n + m) * 40 <= 140737488355328) (hcl : cs.length = n * 4) (hvl : vs.length = m * 4) (hvb : ∃ C2 t2, w.heap[vb]? = some (.cells C2 t2 (0, 0)) /\ ∀ q, q < m * 4 -> C2[voff + q]? = vs[q]?) (h1c : ∀ u ∈ cs, u.oneCell' = true) (h1v : ∀ u ∈ vs, u.oneCell' = true) :
  Calls Tryz.prog 123 #[y, .int .i64 i, .slice (some ⟨vb, voff, none⟩) m vc] w (Inserted w old 4 (n + m) (cs.take (i * 4) ++ vs ++ cs.drop (i * 4))) := by
 obtain ⟨C2, t2, hC2, hvs⟩ := hvb
 have hvcell : ∀ j v, vs[j]? = some v -> w.cell? ⟨vb, voff + j, none⟩ = some v := fun j v h => by
  rw [cell_at hC2, hvs j (by have := (List.getElem?_eq_some_iff.1 h).1; omega)]; exact h
 have hz5 : d52.zero.cells.size = 4 := by kernel_rfl
 have hz1 : ∀ k, ∀ v ∈ (Builtin.zeroCells d52.zero.cells k).toList, v.oneCell' = true := fun k => zeroCells_one _ (fun v hv => by
  have := Array.all_eq_true_iff_forall_mem.1 (show d52.zero.cells.all Value.oneCell' = true by kernel_rfl) v hv
  exact this) _
 have hzn : ∀ k, (Builtin.zeroCells d52.zero.cells k).size = k * 4 := fun k => by rw [size_zeroCells, hz5]
 rcases hold with ⟨ho, h0, hc, ad, rfl⟩ | ⟨b, off, C, t, ho, rfl, hnc, hC, hCs, h1C, hcs, hne⟩
 ·subst h0; subst hc
  obtain rfl : i = 0 := by omega
  have hcs0 : cs = [] := List.length_eq_zero_iff.1 (by omega)
  subst hcs0
  refine (ins_end_grow_slices_Insert_Limpl_Label_impl_Label_mobo ad 0 0 vb voff m vc [] vs w hm (Nat.le_refl _) (by omega) hbig hcl hvl (fun _ => rfl) (fun a _ j v h => by simp at h) hvcell h1v).mono ?_
  rintro e w' ⟨rfl, rfl⟩
  exact ins_post_endgrow hcl hvl h1v h1c (grownCap_ge _ _ _ _) (hzn _) (hz1 _)
 ·subst ho
  have hccell : ∀ j v, cs[j]? = some v -> w.cell? ⟨b, off + j, none⟩ = some v := fun j v h => by
   rw [cell_at hC, hcs j (by have := (List.getElem?_eq_some_iff.1 h).1; omega)]; exact h
  by_cases hroom : n + m <= cap
  ·have hsp : ∀ j, j < (n + m) * 4 -> (w.cell? ⟨b, off + j, none⟩).isSome = true := fun j hj => by
    rw [cell_at hC, Array.getElem?_eq_getElem (by omega)]; rfl
   by_cases hin : i = n
   ·subst hin
    refine (ins_end_room_slices_Insert_Limpl_Label_impl_Label_mobo b off i cap vb voff m vc vs w hm hroom (by omega) hvl (fun j hj => by rw [Nat.add_assoc]; exact hsp _ (by omega)) (fun j hj => frozen_of hC _) hvcell h1v).mono ?_
    rintro e w' ⟨rfl, rfl⟩
    exact ins_post_end hC hCs h1C hcs hcl hvl h1v hroom
   ·refine (ins_shift_slices_Insert_Limpl_Label_impl_Label_mobo b off n cap i vb voff m vc cs vs w (by omega) hm hroom (by omega) hne hcl hvl hccell hsp (fun j hj => frozen_of hC _) hvcell h1c h1v t2 t C2.size C.size (by simp [World.shape?, hC2]) (by simp [World.shape?, hC]) (by omega) (frozen_of hC2 _) (frozen_of hC2 _)).mono ?_
    rintro e w' ⟨rfl, rfl⟩
    exact ins_post_shift hC hCs h1C hcs hcl hvl h1v h1c hi hroom
  ·by_cases hin : i = n
   ·subst hin
    refine (ins_end_grow_slices_Insert_Limpl_Label_impl_Label_mobo (some ⟨b, off, none⟩) i cap vb voff m vc cs vs w hm hnc (by omega) hbig hcl hvl (fun h => by cases h) (fun a h j v hv => by injection h with h; subst h; rw [Addr.add_lit]; exact hccell j v hv) hvcell h1v).mono ?_
    rintro e w' ⟨rfl, rfl⟩
    exact ins_post_endgrow hcl hvl h1v h1c (grownCap_ge _ _ _ _) (hzn _) (hz1 _)
   ·refine (ins_grow_slices_Insert_Limpl_Label_impl_Label_mobo b off n cap i vb voff m vc cs vs w (by omega) hm hnc (by omega) hbig hcl hvl hccell hvcell h1c h1v).mono ?_
    rintro e w' ⟨rfl, rfl⟩
    exact ins_post_grow hcl hvl h1v h1c hi (grownCap_ge _ _ _ _) (hzn _) (hzn _) (hz1 _) (hz1 _)
end
/-- slices.Insert[[]loop.example/g00890/impl.Label,loop.example/g00890/impl.Label] -/
def Fq14 (a0 : List TB) (a1 : Int) (a2 : List TB) : Option (List TB) :=
 if 0 <= a1 /\ a1 <= (a0.length : Int) /\ 0 < a2.length /\ (a0.length + a2.length) * 40 <= 140737488355328 then some (a0.take a1.toNat ++ a2 ++ a0.drop a1.toNat) else none
theorem runq14 (a0 : List TB) (a1 : Int) (a2 : List TB) (r : List TB) (h : Fq14 a0 a1 a2 = some r) : Fun Tryz.prog 123 [.c (.os 5 0 (len a0)), .c (wi a1), .c (.os 7 0 (len a2))] [(5, .arr .rw [] (len a0) 4 (row gd (eL) a0)), (7, .arr .rw [] (len a2) 4 (row gd (eL) a2))] (.c (.os 64000 0 (len r))) [(64000, .arr .rw [] (len r) 4 (row gd (eL) r))] true := by
 unfold Fq14 at h
 split at h
 ·rename_i h1
  injection h with h
  subst h
  obtain ⟨i, rfl⟩ : ∃ i : Nat, a1 = i := ⟨a1.toNat, by omega⟩
  rw [Int.toNat_natCast]
  have e : len (a0.take i ++ a2 ++ a0.drop i) = len a0 + len a2 := by
   show List.length _ = List.length _ + List.length _
   rw [List.length_append, List.length_append, List.length_take, List.length_drop]; omega
  rw [e]
  exact Fun.insert Tryz.func123 (by kernel_rfl) (by kernel_rfl) 4 40 (fun old y n cap i vb voff m vc cs vs w h1 h2 h3 h4 h5 h6 h7 h8 h9 => calls_slices_Insert_Limpl_Label_impl_Label_mobo old y n cap i vb voff m vc cs vs w h1 h2 h3 h4 h5 h6 h7 h8 h9) (len a0) i (len a2) _ _ _ (show i <= a0.length by omega) (show 0 < a2.length by omega) (show (a0.length + a2.length) * 40 <= _ by omega)
   (fun t ht q hq => by
    show eL (gd _ t) q = if t < i then eL (gd a0 t) q else if t < i + a2.length then eL (gd a2 (t - i)) q else eL (gd a0 (t - a2.length)) q
    rw [ins_get a0 a2 i t (by omega)]
    split
    ·rfl
    ·split <;> rfl) (fun t q => plain_nil (val_plain (vl_encLabel _ _))) (fun t q => plain_nil (val_plain (vl_encLabel _ _))) (fun t q => val_flat (vl_encLabel _ _))
 ·cases h

section
open Go.RowKit Go.Lib
set_option maxRecDepth 1000000 in
/-- slices.Delete: the elements behind those that are taken out lie further ahead, the cells behind are emptied -/
theorem calls_slices_Delete_Limpl_Label_impl_Label_mobb (blk off cap n i j : Nat) (D : List Value) (w : World) (hlen : D.length = n * 4) (hD : ∀ t u, D[t]? = some u -> w.cell? ⟨blk, off + t, none⟩ = some u) (h1 : ∀ u ∈ D, u.oneCell' = true) (hfz : ∀ t, t < n * 4 -> w.frozen? ⟨blk, off + t, none⟩ = false) (hcap : n <= cap) (hij : i < j) (hj : j <= n) :
  Calls Tryz.prog 204 #[.slice (some ⟨blk, off, none⟩) n cap, .int .i64 i, .int .i64 j] w fun e w' => e = .returned (.slice (some ⟨blk, off, none⟩) (n - (j - i)) cap) /\ ∃ zs : List Value, zs.length = (j - i) * 4 /\ (∀ u ∈ zs, u.oneCell' = true) /\ w' = (w.drew.setCells blk (off + i * 4) (D.drop (j * 4))).setCells blk (off + (i + (n - j)) * 4) zs := by
 obtain ⟨news, hnews⟩ : ∃ news, news = D.drop (j * 4) := ⟨_, rfl⟩
 have hl : news.length = (n - j) * 4 := by rw [hnews, List.length_drop, hlen, Nat.sub_mul]
 obtain ⟨A, hA, hsrc⟩ : ∃ A : Addr, (if cap = j then some (⟨blk, off, none⟩ : Addr) else some ⟨blk, off + j * 4, none⟩) = some A /\ Hid (∀ t u, news[t]? = some u -> w.drew.cell? (A.add t) = some u) := by
  by_cases h : cap = j
  ·refine ⟨⟨blk, off, none⟩, by simp [h], fun t u hu => ?_⟩
   have h00 : n - j = 0 := by omega
   have h0 : news.length = 0 := by rw [hl, h00, Nat.zero_mul]
   rw [List.length_eq_zero_iff.1 h0] at hu
   simp at hu
  ·refine ⟨⟨blk, off + j * 4, none⟩, by simp [h], fun t u hu => ?_⟩
   rw [Addr.add_lit, Nat.add_assoc]
   exact hD _ u (by rw [hnews, List.getElem?_drop] at hu; exact hu)
 have s1 : Hid (news.length = (n - j) * 4) := hl
 have s2 : Hid (∀ u ∈ news, u.oneCell' = true) := fun u hu => h1 u (List.mem_of_mem_drop (by rw [hnews] at hu; exact hu))
 have hex : ∀ t, t < n * 4 -> (w.cell? ⟨blk, off + t, none⟩).isSome = true := fun t ht => by
  rw [hD t (D[t]'(by omega)) (List.getElem?_eq_getElem (by omega))]; rfl
 have s3 : Hid (∀ t, t < news.length -> (w.drew.cell? ⟨blk, off + i * 4 + t, none⟩).isSome = true /\ w.drew.frozen? ⟨blk, off + i * 4 + t, none⟩ = false) := fun t ht => by
  rw [hl] at ht
  rw [Nat.add_assoc]
  exact ⟨hex _ (by omega), hfz _ (by omega)⟩
 obtain ⟨W1, hW1⟩ : ∃ W1, W1 = w.drew.setCells blk (off + i * 4) news := ⟨_, rfl⟩
 have hW : Hid (W1 = w.drew.setCells blk (off + i * 4) news) := hW1
 obtain ⟨z, hz⟩ : ∃ z, z = (Builtin.zeroCells d52.zero.cells (j - i)).toList := ⟨_, rfl⟩
 have hzs : d52.zero.cells.size = 4 := by kernel_rfl
 have hzl : z.length = (j - i) * 4 := by rw [hz, Array.length_toList, size_zeroCells, hzs]
 have hz1 : ∀ v ∈ z, v.oneCell' = true := by
  rw [hz]
  exact zeroCells_one _ (fun v hv => by
   have := Array.all_eq_true_iff_forall_mem.1 (show d52.zero.cells.all Value.oneCell' = true by kernel_rfl) v hv
   exact this) _
 have hcl : ∀ ty, (Builtin.clear_ #[146] ty #[.slice (some ⟨blk, off + (i + (n - j)) * 4, none⟩) (n - (i + (n - j))) (cap - (i + (n - j)))]).run Tryz.prog W1 = .ok (.tuple #[]) (W1.setCells blk (off + (i + (n - j)) * 4) z) := fun ty => by
  have e : n - (i + (n - j)) = j - i := by omega
  rw [e, hz]
  refine run_clear_cells W1 146 52 ty d52.zero (by kernel_rfl) (fun w => ?_) blk _ _ _ (by omega) ?_ ?_ ?_
  ·exact run_zero tok (show T 52 = some d52 from rfl)
  ·rw [<- hz]; exact hz1
  ·intro t ht
   rw [size_zeroCells, hzs] at ht
   rw [hW1, Nat.add_assoc]
   refine isSome_setCells blk _ _ _ (fun q hq => ?_) _ (hex _ ?_)
   ·rw [hl] at hq
    rw [Nat.add_assoc]; exact hex _ (by omega)
   ·omega
  ·intro t ht
   rw [size_zeroCells, hzs] at ht
   rw [hW1, World.frozen?_setCells, Nat.add_assoc]
   exact hfz _ (by omega)
 have hX : Hid (∃ zs : List Value, zs.length = (j - i) * 4 /\ (∀ u ∈ zs, u.oneCell' = true) /\ W1.setCells blk (off + (i + (n - j)) * 4) z = (w.drew.setCells blk (off + i * 4) (D.drop (j * 4))).setCells blk (off + (i + (n - j)) * 4) zs) := ⟨z, hzl, hz1, by rw [hW1, hnews]⟩
 have hic : i <= cap := by omega
 have hjc : j <= cap := by omega
 have hne : ¬ (i = j) := by omega
 have hI : (Tryz.prog.info? 52).map (·.size) = some 4 := by kernel_rfl
 obtain ⟨i0, hi0, hz5⟩ : ∃ i0, Tryz.prog.info? 52 = some i0 /\ i0.size = 4 := by
  cases h : Tryz.prog.info? 52 with
  | none => rw [h] at hI; cases hI
  | some i0 => rw [h] at hI; exact ⟨i0, rfl, by injection hI⟩
 have mixed : Tryz.prog.follows .mixedOrders = true := by kernel_rfl
 clear hW1 hex hzs hnews hl hz hzl hz1 hD h1 hfz
 go_enter Tryz.func204, Tryz.ntmps204
 go_wp2_with fail
 go_region_law_o (refine step_append_room rfl (.tmp 22) (.tmp 25) 146 rfl 52 i0 4 (by kernel_rfl) hi0 hz5 blk off i cap (by simp [Act.eval, Act.put]) A (n - j) (cap - j) news (by simp [Act.eval, Act.put, hA]) s1.out hsrc.out s2.out (by omega) s3.out ?_; rw [<- hW.out])
 go_wp2
 go_ret
 refine ⟨by rw [show n - (j - i) = i + (n - j) by omega]; rfl, hX.out⟩
end
/-- slices.Delete[[]loop.example/g00890/impl.Label,loop.example/g00890/impl.Label] -/
def Fq54 (a0 : List TB) (a1 : Int) (a2 : Int) : Option (List TB) :=
 if 0 <= a1 /\ a1 < a2 /\ a2 <= (a0.length : Int) then some (a0.take a1.toNat ++ a0.drop a2.toNat) else none
theorem runq54 (a0 : List TB) (a1 : Int) (a2 : Int) (r : List TB) (h : Fq54 a0 a1 a2 = some r) : Fun Tryz.prog 204 [.c (.os 5 0 (len a0)), .c (wi a1), .c (wi a2)] [(5, .arr .rw [] (len a0) 4 (row gd (eL) a0))] (.c (.os 64000 0 (len r))) [(64000, .arr .rw [] (len r) 4 (row gd (eL) r))] true := by
 unfold Fq54 at h
 split at h
 ·rename_i h1
  injection h with h
  subst h
  obtain ⟨i, rfl⟩ : ∃ i : Nat, a1 = i := ⟨a1.toNat, by omega⟩
  obtain ⟨j, rfl⟩ : ∃ j : Nat, a2 = j := ⟨a2.toNat, by omega⟩
  rw [Int.toNat_natCast, Int.toNat_natCast]
  have e : len (a0.take i ++ a0.drop j) = len a0 - (j - i) := by
   show List.length _ = List.length _ - _
   rw [List.length_append, List.length_take, List.length_drop]; omega
  rw [e]
  exact Fun.delete Tryz.func204 (by kernel_rfl) (by kernel_rfl) 4 (fun blk off cap n i j D w h1 h2 h3 h4 h5 h6 h7 => calls_slices_Delete_Limpl_Label_impl_Label_mobb blk off cap n i j D w h1 h2 h3 h4 h5 h6 h7) (len a0) i j _ _ (by omega) (show j <= a0.length by omega)
   (fun t ht q hq => by show eL (gd _ t) q = eL (gd a0 _) q; rw [cut_get a0 i j t (by omega) (by omega)]) (fun t q => plain_nil (val_plain (vl_encLabel _ _))) (fun t q => val_flat (vl_encLabel _ _))
 ·cases h
set_option maxHeartbeats 4000000
/-- impl.Label] -/
def Fq61 (a0 : List TB) (a1 : Int) : Option (List TB) :=
 (Fq54 a0 a1 (std.add .i64 a1 1)).bind fun y1 =>
 some y1
theorem runq61 (a0 : List TB) (a1 : Int) (r : List TB) (h : Fq61 a0 a1 = some r) : Fun Tryz.prog 124 [.c (.os 5 0 (len a0)), .c (wi a1)] [(5, .arr .rw [] (len a0) 4 (row gd (eL) a0))] (.c (.os 64000 0 (len r))) [(64000, .arr .rw [] (len r) 4 (row gd (eL) r))] true := by
 refine Fun.of_wp (oneOf []) tok mixed Tryz.func124 (by kernel_rfl) rfl Tryz.ntmps124 rfl ⟨fun i _ j _ k hk => (noref (plain_nil (pl_encLabel _ _)) hk).elim, tv⟩ (fun _ => ⟨trivial, ⟨fun i _ j _ => val_flat (vl_encLabel _ _), tv⟩⟩) ?_
 unfold Fq61 at h
 have hfq54 := @runq54
 generalize hLEN : @len = LEN, hGD : @gd = GD, hA : std = A, hP : Tryz.prog = P at *
 cbv
 replace h := ob_ h
 obtain ⟨y1, hy2, h⟩ := h
 refine ⟨⟨_, _, _, _, _, [(5, 5)], [(64000, 576)]⟩, hfq54 _ _ _ _ hy2, ⟨zs3, ⟨oS, tv⟩, rfl, rfl, rfl, rfl, ⟨evn 64000 rfl, tv⟩, rfl⟩, _, rfl, _, _, rfl, fun _ _ _ _ => .refl _, ?_⟩
 cbv
 injection h with h
 subst h
 refine ⟨(sp 10 [(4, .c (.os 64000 0 (LEN y1)))] [(64000, .arr .rw [] (LEN y1) 4 (row GD (eL) y1))]), ?_, ?_⟩
 ·refine St.le_trans (le_ren 576 64000 (by decide) rfl) ?_
  exact lsp rfl zl1 ⟨oS, tv⟩ rfl
 ·exact ⟨lR _, ⟨oS, tv⟩, rfl⟩

section
open Go.RowKit Go.Lib
set_option maxRecDepth 1000000 in
theorem ins_shift_slices_Insert_Limpl_Instance_impl_Instance_mobo (b off n c i vb voff m vc : Nat) (cs vs : List Value) (w : World) (hi : i < n) (hm : 0 < m) (hroom : n + m <= c) (hc63 : n + m <= 9223372036854775807) (hvb : vb ≠ b)
  (hcl : cs.length = n * 8) (hvl : vs.length = m * 8)
  (hcs : ∀ j v, cs[j]? = some v -> w.cell? ⟨b, off + j, none⟩ = some v) (hsp : ∀ j, j < (n + m) * 8 -> (w.cell? ⟨b, off + j, none⟩).isSome = true) (hfz : ∀ j, j < (n + m) * 8 -> w.frozen? ⟨b, off + j, none⟩ = false)
  (hvs : ∀ j v, vs[j]? = some v -> w.cell? ⟨vb, voff + j, none⟩ = some v) (h1c : ∀ v ∈ cs, v.oneCell' = true) (h1v : ∀ v ∈ vs, v.oneCell' = true)
  (tA tB : TypeId) (kA kB : Nat) (hsa : w.shape? vb = some (tA, kA)) (hsb : w.shape? b = some (tB, kB)) (hkB : kB ≠ 0) (hfa : w.frozen? ⟨vb, voff, none⟩ = false) (hfe : w.frozen? ⟨vb, kA, none⟩ = false) :
  Calls Tryz.prog 125 #[.slice (some ⟨b, off, none⟩) n c, .int .i64 i, .slice (some ⟨vb, voff, none⟩) m vc] w fun e w' =>
   e = .returned (.slice (some ⟨b, off, none⟩) (n + m) c) /\ w' = (w.drew.setCells b (off + (i + m) * 8) (cs.drop (i * 8))).setCells b (off + i * 8) vs := by
 have tSl : Tryz.prog.underlying 147 = some (.slice 55) := by kernel_rfl
 have hz1 : ¬ ((m : Int) = 0) := by omega
 have hz2 : ¬ ((i : Int) = (n : Int)) := by omega
 have hsz : (Tryz.prog.info? 55).map (·.size) = some 8 := by kernel_rfl
 have hov : ∀ lb cb, (callFunc 205 #[.slice (some ⟨vb, voff, none⟩) m vc, .slice (some ⟨b, off + (i + m) * 8, none⟩) lb cb]).run Tryz.prog w = .ok (.value (.bool false)) w := fun lb cb => by
  rw [run_callFunc_extern Tryz.func205 (by kernel_rfl) (by kernel_rfl) (by kernel_rfl) (e := Extern.SlicesOverlaps.overlaps #[147, 147] #[4]) (by kernel_rfl),
   Lib.run_overlaps_apart w 147 4 55 tSl 8 (fun w => run_sizeOf tok (show T 55 = some d55 from rfl)) ⟨vb, voff, none⟩ ⟨b, off + (i + m) * 8, none⟩ m vc lb cb hvb tA tB kA kB hsa hsb hkB hfa hfe]
  rfl
 have hdl : (cs.drop (i * 8)).length = (n - i) * 8 := by rw [List.length_drop, hcl, Nat.sub_mul]
 have mixed : Tryz.prog.follows .mixedOrders = true := by kernel_rfl
 have hw1 : IntKind.i64.wrap ((i : Int) + (m : Int)) = (i : Int) + (m : Int) := by rw [IntKind.wrap_i64]; omega
 have hb1 : (0 : Int) <= (i : Int) + (m : Int) := by omega
 have hin : i <= n := by omega
 have htn : ((i : Int) + (m : Int)).toNat = i + m := by omega
 have hb2 : ¬ (c = i + m) := by omega
 have hb3 : (i : Int) <= (n : Int) + (m : Int) := by omega
 have hb4 : ¬ (c = i) := by omega
 have hcp1 : ∀ ty dc sc, (Builtin.copy_ #[147, 147] ty #[.slice (some ⟨b, off + (i + m) * 8, none⟩) (n + m - (i + m)) dc, .slice (some ⟨b, off + i * 8, none⟩) (n + m - i) sc]).run Tryz.prog w.drew = .ok (goInt (Nat.min (n + m - i) (n + m - (i + m)))) (w.drew.setCells b (off + (i + m) * 8) (cs.drop (i * 8))) := fun ty dc sc =>
  run_copy_cellsN 8 w.drew _ _ ty 55 b (off + (i + m) * 8) (n + m - (i + m)) dc ⟨b, off + i * 8, none⟩ (n + m - i) sc (cs.drop (i * 8)) tSl hsz (by rw [hdl, show Nat.min (n + m - i) (n + m - (i + m)) = n - i by simp only [Nat.min_def]; split <;> omega])
   (fun j v hj => by rw [Addr.add_lit, Nat.add_assoc]; exact hcs (i * 8 + j) v (by rwa [List.getElem?_drop] at hj))
   (fun j hj => by rw [Nat.add_assoc]; exact hsp _ (by omega)) (fun j hj => by rw [Nat.add_assoc]; exact hfz _ (by omega)) (fun v hv => h1c v (List.mem_of_mem_drop hv))
 obtain ⟨W1, hW1⟩ : ∃ W1, W1 = w.drew.setCells b (off + (i + m) * 8) (cs.drop (i * 8)) := ⟨_, rfl⟩
 have hsp1 : ∀ k, k < (n + m) * 8 -> (W1.cell? ⟨b, off + k, none⟩).isSome = true := fun k hk => by
  rw [hW1]
  exact isSome_setCells b _ _ _ (fun j hj => by rw [Nat.add_assoc]; exact hsp _ (by omega)) _ (hsp k hk)
 have hcp2 : ∀ (W : World), (∀ x, W.cell? x = W1.cell? x) -> (∀ x, W.frozen? x = W1.frozen? x) -> ∀ ty dc, (Builtin.copy_ #[147, 147] ty #[.slice (some ⟨b, off + i * 8, none⟩) (n + m - i) dc, .slice (some ⟨vb, voff, none⟩) m vc]).run Tryz.prog W = .ok (goInt (Nat.min m (n + m - i))) (W.setCells b (off + i * 8) vs) := fun W hWc hWf ty dc =>
  run_copy_cellsN 8 W _ _ ty 55 b (off + i * 8) (n + m - i) dc ⟨vb, voff, none⟩ m vc vs tSl hsz (by rw [hvl, show Nat.min m (n + m - i) = m by simp only [Nat.min_def]; split <;> omega])
   (fun j v hj => by
    rw [Addr.add_lit, hWc, hW1, World.cell?_setCells_out b _ _ _ _ (fun h _ => absurd h hvb)]
    exact hvs j v hj)
   (fun j hj => by rw [hWc, Nat.add_assoc]; exact hsp1 _ (by omega)) (fun j hj => by rw [hWf, hW1, World.frozen?_setCells, Nat.add_assoc]; exact hfz _ (by omega)) h1v
 rw [<- hW1] at hcp1
 clear hsp hfz hcs hvs h1c h1v
 go_enter Tryz.func125, Tryz.ntmps125
 go_wp2_with (simp only [hov])
 go_region_law_o (refine step_copy_runI rfl _ _ 147 147 rfl _ _ (by simp [Act.eval, Act.put]) (by simp [Act.eval, Act.put]) (hcp1 _ _ _) ?_)
 go_wp2_with (at_builtin; refine wpList_copy_runI _ rfl _ _ 147 147 rfl _ _ rfl rfl (hcp2 _ (fun _ => rfl) (fun _ => rfl) _ _) ?_)
 go_ret
 first | exact ⟨rfl, rfl⟩ | exact ⟨rfl, by rw [hW1]⟩
set_option maxRecDepth 1000000 in
theorem ins_end_room_slices_Insert_Limpl_Instance_impl_Instance_mobo (b off n c vb voff m vc : Nat) (vs : List Value) (w : World) (hm : 0 < m) (hroom : n + m <= c) (hc63 : n + m <= 9223372036854775807)
  (hvl : vs.length = m * 8) (hsp : ∀ j, j < m * 8 -> (w.cell? ⟨b, off + n * 8 + j, none⟩).isSome = true) (hfz : ∀ j, j < m * 8 -> w.frozen? ⟨b, off + n * 8 + j, none⟩ = false)
  (hvs : ∀ j v, vs[j]? = some v -> w.cell? ⟨vb, voff + j, none⟩ = some v) (h1v : ∀ v ∈ vs, v.oneCell' = true) :
  Calls Tryz.prog 125 #[.slice (some ⟨b, off, none⟩) n c, .int .i64 n, .slice (some ⟨vb, voff, none⟩) m vc] w fun e w' =>
   e = .returned (.slice (some ⟨b, off, none⟩) (n + m) c) /\ w' = w.setCells b (off + n * 8) vs := by
 have tSl : Tryz.prog.underlying 147 = some (.slice 55) := by kernel_rfl
 have mixed : Tryz.prog.follows .mixedOrders = true := by kernel_rfl
 have hI : (Tryz.prog.info? 55).map (·.size) = some 8 := by kernel_rfl
 obtain ⟨i0, hi0, hz5⟩ : ∃ i0, Tryz.prog.info? 55 = some i0 /\ i0.size = 8 := by
  cases h : Tryz.prog.info? 55 with
  | none => rw [h] at hI; cases hI
  | some i0 => rw [h] at hI; exact ⟨i0, rfl, by injection hI⟩
 have hz1 : ¬ ((m : Int) = 0) := by omega
 have hsrc : Src Tryz.prog i0.size 147 (.slice (some ⟨vb, voff, none⟩) m vc) m vs w := Src.ofSlice w tSl ⟨vb, voff, none⟩ m vc vs (by rw [hz5]; exact hvl) (fun j u hj => by rw [Addr.add_lit]; exact hvs j u hj) h1v
 have s1 : Hid (∀ j, j < vs.length -> (w.cell? ⟨b, off + n * i0.size + j, none⟩).isSome = true) := by rw [hvl, hz5]; exact hsp
 have s2 : Hid (∀ j, j < vs.length -> w.frozen? ⟨b, off + n * i0.size + j, none⟩ = false) := by rw [hvl, hz5]; exact hfz
 clear hsp hfz hvs
 go_enter Tryz.func125, Tryz.ntmps125
 go_wp2_with (at_builtin; refine wpList_append_room_src _ rfl _ _ 147 147 rfl 55 i0 tSl hi0 b off n c rfl _ rfl m vs hsrc hroom s1.out s2.out ?_)
 go_ret
 exact ⟨rfl, rfl⟩
set_option maxRecDepth 1000000 in
theorem ins_end_grow_slices_Insert_Limpl_Instance_impl_Instance_mobo (base : Option Addr) (n c vb voff m vc : Nat) (cs vs : List Value) (w : World) (hm : 0 < m) (hnc : n <= c) (hroom : c < n + m) (hbig : (n + m) * 64 <= 140737488355328)
  (hcl : cs.length = n * 8) (hvl : vs.length = m * 8) (hnil : base = none -> n = 0)
  (hcs : ∀ a, base = some a -> ∀ j v, cs[j]? = some v -> w.cell? (a.add j) = some v)
  (hvs : ∀ j v, vs[j]? = some v -> w.cell? ⟨vb, voff + j, none⟩ = some v) (h1v : ∀ v ∈ vs, v.oneCell' = true) :
  Calls Tryz.prog 125 #[.slice base n c, .int .i64 n, .slice (some ⟨vb, voff, none⟩) m vc] w fun e w' =>
   e = .returned (.slice (some ⟨w.heap.size, 0, none⟩) (n + m) (grownCap w (n + m) c 55)) /\
   w' = w.drew.alloc (.cells ((cs ++ vs).toArray ++ Builtin.zeroCells d55.zero.cells (grownCap w (n + m) c 55 - (n + m))) 55) := by
 have tSl : Tryz.prog.underlying 147 = some (.slice 55) := by kernel_rfl
 have mixed : Tryz.prog.follows .mixedOrders = true := by kernel_rfl
 obtain ⟨i0, hi0, hzs, hzb, hz0⟩ := (tok 55 d55 rfl).2.1
 have hzs : i0.size = 8 := hzs
 have hzb : i0.bytes = 64 := hzb
 have hz1 : ¬ ((m : Int) = 0) := by omega
 have hsrc : Src Tryz.prog i0.size 147 (.slice (some ⟨vb, voff, none⟩) m vc) m vs w := Src.ofSlice w tSl ⟨vb, voff, none⟩ m vc vs (by rw [hzs]; exact hvl) (fun j u hj => by rw [Addr.add_lit]; exact hvs j u hj) h1v
 have hold : (Builtin.firstCells i0.size n (.slice base n c)).run Tryz.prog w.drew = .ok cs.toArray w.drew := by
  rw [hzs]
  cases base with
  | none =>
   have h0 := hnil rfl
   subst h0
   have hc0 : cs.length = 0 := by rw [hcl, Nat.zero_mul]
   rw [List.length_eq_zero_iff.1 hc0]
   exact run_firstCells_none w.drew 8 0 0 c
  | some a => exact run_firstCells_some w.drew 8 n a n c cs hcl (fun j v hj => hcs a rfl j v hj)
 have hrun : ∀ ty, (Builtin.append_ #[147, 147] ty #[.slice base n c, .slice (some ⟨vb, voff, none⟩) m vc]).run Tryz.prog w = _ := fun ty =>
  run_append_grow_src w 147 147 ty 55 i0 _ tSl hi0 hz0 base n c cs hold _ m vs hsrc hroom (by omega) (by rw [hzb]; exact growslice_fits hroom hbig)
 go_enter Tryz.func125, Tryz.ntmps125
 cases base with
 | none =>
  have h0 := hnil rfl
  subst h0
  go_wp2_with (at_builtin; refine Lib.wpList_append_run _ rfl _ _ _ _ rfl _ _ rfl rfl _ _ (hrun _) ?_)
  go_ret
  exact ⟨rfl, rfl⟩
 | some a =>
  obtain ⟨ab, ao, asp⟩ := a
  go_wp2_with (at_builtin; refine Lib.wpList_append_run _ rfl _ _ _ _ rfl _ _ rfl rfl _ _ (hrun _) ?_)
  all_goals (go_ret; exact ⟨rfl, rfl⟩)
set_option maxRecDepth 1000000 in
theorem ins_grow_slices_Insert_Limpl_Instance_impl_Instance_mobo (b off n c i vb voff m vc : Nat) (cs vs : List Value) (w : World) (hi : i < n) (hm : 0 < m) (hnc : n <= c) (hroom : c < n + m) (hbig : (n + m) * 64 <= 140737488355328)
  (hcl : cs.length = n * 8) (hvl : vs.length = m * 8)
  (hcs : ∀ j v, cs[j]? = some v -> w.cell? ⟨b, off + j, none⟩ = some v)
  (hvs : ∀ j v, vs[j]? = some v -> w.cell? ⟨vb, voff + j, none⟩ = some v) (h1c : ∀ v ∈ cs, v.oneCell' = true) (h1v : ∀ v ∈ vs, v.oneCell' = true) :
  Calls Tryz.prog 125 #[.slice (some ⟨b, off, none⟩) n c, .int .i64 i, .slice (some ⟨vb, voff, none⟩) m vc] w fun e w' =>
   e = .returned (.slice (some ⟨w.heap.size, 0, none⟩) (n + m) (grownCap w (n + m) c 55)) /\
   w' = (((w.alloc (.cells ((cs.take (i * 8)).toArray ++ Builtin.zeroCells d55.zero.cells (n + m - i) ++ Builtin.zeroCells d55.zero.cells (grownCap w (n + m) c 55 - (n + m))) 55)).drew.setCells w.heap.size (i * 8) vs).drew).setCells w.heap.size ((i + m) * 8) (cs.drop (i * 8)) := by
 have tSl : Tryz.prog.underlying 147 = some (.slice 55) := by kernel_rfl
 have t3 : Tryz.prog.underlying 3 = some (.int .i64) := by kernel_rfl
 have mixed : Tryz.prog.follows .mixedOrders = true := by kernel_rfl
 obtain ⟨i0, hi0, hzs, hzb, hz0⟩ := (tok 55 d55 rfl).2.1
 have hzs : i0.size = 8 := hzs
 have hzb : i0.bytes = 64 := hzb
 have hz5 : d55.zero.cells.size = 8 := by kernel_rfl
 have hz1 : ¬ ((m : Int) = 0) := by omega
 have hz2 : ¬ ((i : Int) = (n : Int)) := by omega
 have hz3 : (c : Int) < (n : Int) + (m : Int) := by omega
 have hsz : (Tryz.prog.info? 55).map (·.size) = some 8 := by rw [hi0]; simp [hzs]
 have hbw : b < w.heap.size := block_lt_of_cell (hcs 0 _ (List.getElem?_eq_getElem (by omega)))
 have hvw : vb < w.heap.size := block_lt_of_cell (hvs 0 _ (List.getElem?_eq_getElem (by omega)))
 have hkk : (n : Int) + (m : Int) - (i : Int) = ((n + m - i : Nat) : Int) := by omega
 have hik : i + (n + m - i) = n + m := by omega
 have htl : (cs.take (i * 8)).length = i * 8 := by rw [List.length_take, hcl]; omega
 have hold : (Builtin.firstCells i0.size i (.slice (some ⟨b, off, none⟩) i c)).run Tryz.prog w.drew = .ok (cs.take (i * 8)).toArray w.drew := by
  rw [hzs]
  exact run_firstCells_some w.drew 8 i ⟨b, off, none⟩ i c (cs.take (i * 8)) htl (fun j v hj => by
   rw [Addr.add_lit]
   rw [List.getElem?_take] at hj
   split at hj
   ·exact hcs j v hj
   ·cases hj)
 have hrz : ∀ ty, (Builtin.append_ #[147, 3] ty #[.slice (some ⟨b, off, none⟩) i c, .int .i64 ((n : Int) + (m : Int) - (i : Int))]).run Tryz.prog w =
   .ok (.slice (some ⟨w.heap.size, 0, none⟩) (n + m) (grownCap w (n + m) c 55)) (w.drew.alloc (.cells ((cs.take (i * 8)).toArray ++ Builtin.zeroCells d55.zero.cells (n + m - i) ++ Builtin.zeroCells d55.zero.cells (grownCap w (n + m) c 55 - (n + m))) 55)) := fun ty => by
  have h := Lib.run_append_grow_zeros w 147 3 ty 55 i0 _ .i64 .i64 tSl t3 hi0 hz0 (some ⟨b, off, none⟩) i c (cs.take (i * 8)) hold (n + m - i) (by omega) (by omega) (by omega) (by omega) (by rw [hzb]; omega) (by rw [hzb, hik]; exact growslice_fits hroom hbig)
  rw [hik] at h
  rw [hkk]
  exact h
 obtain ⟨G, hG⟩ : ∃ G, G = grownCap w (n + m) c 55 := ⟨_, rfl⟩
 obtain ⟨ROW, hROW⟩ : ∃ ROW : Array Value, ROW = (cs.take (i * 8)).toArray ++ Builtin.zeroCells d55.zero.cells (n + m - i) ++ Builtin.zeroCells d55.zero.cells (G - (n + m)) := ⟨_, rfl⟩
 rw [<- hG] at hrz ⊢
 rw [<- hROW] at hrz ⊢
 have hRl : (n + m) * 8 <= ROW.size := by
  rw [hROW, Array.size_append, Array.size_append, size_zeroCells, size_zeroCells, hz5, List.size_toArray, htl]
  omega
 obtain ⟨W1, hW1⟩ : ∃ W1, W1 = w.drew.alloc (.cells ROW 55) := ⟨_, rfl⟩
 rw [<- hW1] at hrz
 have hN : ∀ j, j < (n + m) * 8 -> (W1.cell? ⟨w.heap.size, j, none⟩).isSome = true := fun j hj => by
  rw [hW1, World.cell?_alloc_at (w := w.drew) ROW _ w.heap.size j rfl, Array.getElem?_eq_getElem (by omega)]; rfl
 have hNf : ∀ j, W1.frozen? ⟨w.heap.size, j, none⟩ = false := fun j => by rw [hW1]; exact World.frozen?_alloc_at (w := w.drew) ROW _ w.heap.size j rfl
 have hOb : ∀ j v, w.cell? ⟨b, j, none⟩ = some v -> W1.cell? ⟨b, j, none⟩ = some v := fun j v h => by rw [hW1, World.cell?_alloc_past (w := w.drew) _ b j hbw]; exact h
 have hOv : ∀ j v, w.cell? ⟨vb, j, none⟩ = some v -> W1.cell? ⟨vb, j, none⟩ = some v := fun j v h => by rw [hW1, World.cell?_alloc_past (w := w.drew) _ vb j hvw]; exact h
 have hcpA : ∀ (W : World), (∀ x, W.cell? x = W1.cell? x) -> (∀ x, W.frozen? x = W1.frozen? x) -> ∀ ty dc, (Builtin.copy_ #[147, 147] ty #[.slice (some ⟨w.heap.size, i * 8, none⟩) (n + m - i) dc, .slice (some ⟨vb, voff, none⟩) m vc]).run Tryz.prog W = .ok (goInt (Nat.min m (n + m - i))) (W.setCells w.heap.size (i * 8) vs) := fun W hWc hWf ty dc =>
  run_copy_cellsN 8 W _ _ ty 55 w.heap.size (i * 8) (n + m - i) dc ⟨vb, voff, none⟩ m vc vs tSl hsz (by rw [hvl, show Nat.min m (n + m - i) = m by simp only [Nat.min_def]; split <;> omega])
   (fun j v hj => by rw [Addr.add_lit, hWc]; exact hOv _ v (hvs j v hj))
   (fun j hj => by rw [hWc]; exact hN _ (by omega)) (fun j hj => by rw [hWf]; exact hNf _) h1v
 have hGn : n + m <= G := by rw [hG]; exact grownCap_ge w _ _ _
 have hG63 : G <= 9223372036854775807 := by
  have := grownCap_le_maxLen w (n + m) c 55 (by unfold maxLen; omega)
  rw [<- hG] at this
  unfold maxLen at this
  omega
 have hGi : ¬ (G = i) := by omega
 have hGim : ¬ (G = i + m) := by omega
 have hci : ¬ (c = i) := by omega
 have hbN : b ≠ w.heap.size := by omega
 have hdl : (cs.drop (i * 8)).length = (n - i) * 8 := by rw [List.length_drop, hcl, Nat.sub_mul]
 have hcpB : ∀ (W : World), (∀ x, W.cell? x = (W1.setCells w.heap.size (i * 8) vs).cell? x) -> (∀ x, W.frozen? x = (W1.setCells w.heap.size (i * 8) vs).frozen? x) -> ∀ ty dc sc, (Builtin.copy_ #[147, 147] ty #[.slice (some ⟨w.heap.size, (i + m) * 8, none⟩) (n + m - (i + m)) dc, .slice (some ⟨b, off + i * 8, none⟩) (n - i) sc]).run Tryz.prog W = .ok (goInt (Nat.min (n - i) (n + m - (i + m)))) (W.setCells w.heap.size ((i + m) * 8) (cs.drop (i * 8))) := fun W hWc hWf ty dc sc =>
  run_copy_cellsN 8 W _ _ ty 55 w.heap.size ((i + m) * 8) (n + m - (i + m)) dc ⟨b, off + i * 8, none⟩ (n - i) sc (cs.drop (i * 8)) tSl hsz (by rw [hdl, show Nat.min (n - i) (n + m - (i + m)) = n - i by simp only [Nat.min_def]; split <;> omega])
   (fun j v hj => by
    rw [Addr.add_lit, hWc, World.cell?_setCells_out _ _ _ _ _ (fun h _ => absurd h hbN), Nat.add_assoc]
    exact hOb _ v (hcs (i * 8 + j) v (by rwa [List.getElem?_drop] at hj)))
   (fun j hj => by rw [hWc]; exact isSome_setCells _ _ _ _ (fun t ht => hN _ (by omega)) _ (hN _ (by omega)))
   (fun j hj => by rw [hWf, World.frozen?_setCells]; exact hNf _) (fun v hv => h1c v (List.mem_of_mem_drop hv))
 subst hW1
 have hE1 : ∀ x, ((w.alloc (.cells ROW 55)).drew).cell? x = (w.drew.alloc (.cells ROW 55)).cell? x := fun x => rfl
 have hE2 : ∀ x, ((w.alloc (.cells ROW 55)).drew).frozen? x = (w.drew.alloc (.cells ROW 55)).frozen? x := fun x => rfl
 have hF1 : ∀ x, (((w.alloc (.cells ROW 55)).drew.setCells w.heap.size (i * 8) vs).drew).cell? x = ((w.drew.alloc (.cells ROW 55)).setCells w.heap.size (i * 8) vs).cell? x := fun x => rfl
 have hF2 : ∀ x, (((w.alloc (.cells ROW 55)).drew.setCells w.heap.size (i * 8) vs).drew).frozen? x = ((w.drew.alloc (.cells ROW 55)).setCells w.heap.size (i * 8) vs).frozen? x := fun x => rfl
 have hw1 : IntKind.i64.wrap ((i : Int) + (m : Int)) = (i : Int) + (m : Int) := by rw [IntKind.wrap_i64]; omega
 have hb1 : (0 : Int) <= (i : Int) + (m : Int) := by omega
 have hin : i <= n := by omega
 have htn : ((i : Int) + (m : Int)).toNat = i + m := by omega
 have hb3 : (i : Int) <= (n : Int) := by omega
 clear hkk hik hold hROW hG hRl hcs hvs h1c h1v hN hNf hOb hOv htl hdl
 go_enter Tryz.func125, Tryz.ntmps125
 go_wp2_with (first
  | (at_builtin; refine Lib.wpList_append_run _ rfl _ _ _ _ rfl _ _ rfl rfl _ _ (hrz _) ?_)
  | (at_builtin; refine wpList_copy_runI _ rfl _ _ 147 147 rfl _ _ rfl rfl (hcpA _ hE1 hE2 _ _) ?_)
  | (at_builtin; refine wpList_copy_runI _ rfl _ _ 147 147 rfl _ _ rfl rfl (hcpB _ (fun _ => rfl) (fun _ => rfl) _ _ _) ?_))
 go_region_law_o (refine step_copy_runI rfl _ _ 147 147 rfl (.slice (some ⟨w.heap.size, (i + m) * 8, none⟩) (n + m - (i + m)) (G - (i + m))) (.slice (some ⟨b, off + i * 8, none⟩) (n - i) (c - i)) (by simp [Act.eval, Act.put]) (by simp [Act.eval, Act.put]) (hcpB _ hF1 hF2 3 (G - (i + m)) (c - i)) ?_)
 go_wp2
 go_ret
 exact ⟨rfl, rfl⟩
theorem calls_slices_Insert_Limpl_Instance_impl_Instance_mobo (old : Option (Nat × Nat)) (y : Value) (n cap i vb voff m vc : Nat) (cs vs : List Value) (w : World)
  (hold : (old = none /\ n = 0 /\ cap = 0 /\ ∃ ad, y = .slice ad 0 0) \/ ∃ b off C t, old = some (b, off) /\ y = .slice (some ⟨b, off, none⟩) n cap /\ n <= cap /\ w.heap[b]? = some (.cells C t (0, 0)) /\ off + cap * 8 <= C.size /\ (∀ (q : Nat) u, C[q]? = some u -> u.oneCell' = true) /\ (∀ q, q < n * 8 -> C[off + q]? = cs[q]?) /\ vb ≠ b)
  (hi : i <= n) (hm : 0 < m) (hbig : (n + m) * 64 <= 140737488355328) (hcl : cs.length = n * 8) (hvl : vs.length = m * 8) (hvb : ∃ C2 t2, w.heap[vb]? = some (.cells C2 t2 (0, 0)) /\ ∀ q, q < m * 8 -> C2[voff + q]? = vs[q]?) (h1c : ∀ u ∈ cs, u.oneCell' = true) (h1v : ∀ u ∈ vs, u.oneCell' = true) :
  Calls Tryz.prog 125 #[y, .int .i64 i, .slice (some ⟨vb, voff, none⟩) m vc] w (Inserted w old 8 (n + m) (cs.take (i * 8) ++ vs ++ cs.drop (i * 8))) := by
 obtain ⟨C2, t2, hC2, hvs⟩ := hvb
 have hvcell : ∀ j v, vs[j]? = some v -> w.cell? ⟨vb, voff + j, none⟩ = some v := fun j v h => by
  rw [cell_at hC2, hvs j (by have := (List.getElem?_eq_some_iff.1 h).1; omega)]; exact h
 have hz5 : d55.zero.cells.size = 8 := by kernel_rfl
 have hz1 : ∀ k, ∀ v ∈ (Builtin.zeroCells d55.zero.cells k).toList, v.oneCell' = true := fun k => zeroCells_one _ (fun v hv => by
  have := Array.all_eq_true_iff_forall_mem.1 (show d55.zero.cells.all Value.oneCell' = true by kernel_rfl) v hv
  exact this) _
 have hzn : ∀ k, (Builtin.zeroCells d55.zero.cells k).size = k * 8 := fun k => by rw [size_zeroCells, hz5]
 rcases hold with ⟨ho, h0, hc, ad, rfl⟩ | ⟨b, off, C, t, ho, rfl, hnc, hC, hCs, h1C, hcs, hne⟩
 ·subst h0; subst hc
  obtain rfl : i = 0 := by omega
  have hcs0 : cs = [] := List.length_eq_zero_iff.1 (by omega)
  subst hcs0
  refine (ins_end_grow_slices_Insert_Limpl_Instance_impl_Instance_mobo ad 0 0 vb voff m vc [] vs w hm (Nat.le_refl _) (by omega) hbig hcl hvl (fun _ => rfl) (fun a _ j v h => by simp at h) hvcell h1v).mono ?_
  rintro e w' ⟨rfl, rfl⟩
  exact ins_post_endgrow hcl hvl h1v h1c (grownCap_ge _ _ _ _) (hzn _) (hz1 _)
 ·subst ho
  have hccell : ∀ j v, cs[j]? = some v -> w.cell? ⟨b, off + j, none⟩ = some v := fun j v h => by
   rw [cell_at hC, hcs j (by have := (List.getElem?_eq_some_iff.1 h).1; omega)]; exact h
  by_cases hroom : n + m <= cap
  ·have hsp : ∀ j, j < (n + m) * 8 -> (w.cell? ⟨b, off + j, none⟩).isSome = true := fun j hj => by
    rw [cell_at hC, Array.getElem?_eq_getElem (by omega)]; rfl
   by_cases hin : i = n
   ·subst hin
    refine (ins_end_room_slices_Insert_Limpl_Instance_impl_Instance_mobo b off i cap vb voff m vc vs w hm hroom (by omega) hvl (fun j hj => by rw [Nat.add_assoc]; exact hsp _ (by omega)) (fun j hj => frozen_of hC _) hvcell h1v).mono ?_
    rintro e w' ⟨rfl, rfl⟩
    exact ins_post_end hC hCs h1C hcs hcl hvl h1v hroom
   ·refine (ins_shift_slices_Insert_Limpl_Instance_impl_Instance_mobo b off n cap i vb voff m vc cs vs w (by omega) hm hroom (by omega) hne hcl hvl hccell hsp (fun j hj => frozen_of hC _) hvcell h1c h1v t2 t C2.size C.size (by simp [World.shape?, hC2]) (by simp [World.shape?, hC]) (by omega) (frozen_of hC2 _) (frozen_of hC2 _)).mono ?_
    rintro e w' ⟨rfl, rfl⟩
    exact ins_post_shift hC hCs h1C hcs hcl hvl h1v h1c hi hroom
  ·by_cases hin : i = n
   ·subst hin
    refine (ins_end_grow_slices_Insert_Limpl_Instance_impl_Instance_mobo (some ⟨b, off, none⟩) i cap vb voff m vc cs vs w hm hnc (by omega) hbig hcl hvl (fun h => by cases h) (fun a h j v hv => by injection h with h; subst h; rw [Addr.add_lit]; exact hccell j v hv) hvcell h1v).mono ?_
    rintro e w' ⟨rfl, rfl⟩
    exact ins_post_endgrow hcl hvl h1v h1c (grownCap_ge _ _ _ _) (hzn _) (hz1 _)
   ·refine (ins_grow_slices_Insert_Limpl_Instance_impl_Instance_mobo b off n cap i vb voff m vc cs vs w (by omega) hm hnc (by omega) hbig hcl hvl hccell hvcell h1c h1v).mono ?_
    rintro e w' ⟨rfl, rfl⟩
    exact ins_post_grow hcl hvl h1v h1c hi (grownCap_ge _ _ _ _) (hzn _) (hzn _) (hz1 _) (hz1 _)
end
/-- slices.Insert[[]loop.example/g00890/impl.Instance,loop.example/g00890/impl.Instance] -/
def Fq13 (a0 : List TI) (a1 : Int) (a2 : List TI) : Option (List TI) :=
 if 0 <= a1 /\ a1 <= (a0.length : Int) /\ 0 < a2.length /\ (a0.length + a2.length) * 64 <= 140737488355328 then some (a0.take a1.toNat ++ a2 ++ a0.drop a1.toNat) else none
theorem runq13 (a0 : List TI) (a1 : Int) (a2 : List TI) (r : List TI) (h : Fq13 a0 a1 a2 = some r) : Fun Tryz.prog 125 [.c (.os 5 0 (len a0)), .c (wi a1), .c (.os 7 0 (len a2))] [(5, .arr .rw [] (len a0) 8 (row gd (eI) a0)), (7, .arr .rw [] (len a2) 8 (row gd (eI) a2))] (.c (.os 64000 0 (len r))) [(64000, .arr .rw [] (len r) 8 (row gd (eI) r))] true := by
 unfold Fq13 at h
 split at h
 ·rename_i h1
  injection h with h
  subst h
  obtain ⟨i, rfl⟩ : ∃ i : Nat, a1 = i := ⟨a1.toNat, by omega⟩
  rw [Int.toNat_natCast]
  have e : len (a0.take i ++ a2 ++ a0.drop i) = len a0 + len a2 := by
   show List.length _ = List.length _ + List.length _
   rw [List.length_append, List.length_append, List.length_take, List.length_drop]; omega
  rw [e]
  exact Fun.insert Tryz.func125 (by kernel_rfl) (by kernel_rfl) 8 64 (fun old y n cap i vb voff m vc cs vs w h1 h2 h3 h4 h5 h6 h7 h8 h9 => calls_slices_Insert_Limpl_Instance_impl_Instance_mobo old y n cap i vb voff m vc cs vs w h1 h2 h3 h4 h5 h6 h7 h8 h9) (len a0) i (len a2) _ _ _ (show i <= a0.length by omega) (show 0 < a2.length by omega) (show (a0.length + a2.length) * 64 <= _ by omega)
   (fun t ht q hq => by
    show eI (gd _ t) q = if t < i then eI (gd a0 t) q else if t < i + a2.length then eI (gd a2 (t - i)) q else eI (gd a0 (t - a2.length)) q
    rw [ins_get a0 a2 i t (by omega)]
    split
    ·rfl
    ·split <;> rfl) (fun t q => plain_nil (val_plain (vl_encInstance _ _))) (fun t q => plain_nil (val_plain (vl_encInstance _ _))) (fun t q => val_flat (vl_encInstance _ _))
 ·cases h

section
open Go.RowKit Go.Lib
set_option maxRecDepth 1000000 in
/-- slices.Delete: the elements behind those that are taken out lie further ahead, the cells behind are emptied -/
theorem calls_slices_Delete_Limpl_Instance_impl_Instance_mobb (blk off cap n i j : Nat) (D : List Value) (w : World) (hlen : D.length = n * 8) (hD : ∀ t u, D[t]? = some u -> w.cell? ⟨blk, off + t, none⟩ = some u) (h1 : ∀ u ∈ D, u.oneCell' = true) (hfz : ∀ t, t < n * 8 -> w.frozen? ⟨blk, off + t, none⟩ = false) (hcap : n <= cap) (hij : i < j) (hj : j <= n) :
  Calls Tryz.prog 207 #[.slice (some ⟨blk, off, none⟩) n cap, .int .i64 i, .int .i64 j] w fun e w' => e = .returned (.slice (some ⟨blk, off, none⟩) (n - (j - i)) cap) /\ ∃ zs : List Value, zs.length = (j - i) * 8 /\ (∀ u ∈ zs, u.oneCell' = true) /\ w' = (w.drew.setCells blk (off + i * 8) (D.drop (j * 8))).setCells blk (off + (i + (n - j)) * 8) zs := by
 obtain ⟨news, hnews⟩ : ∃ news, news = D.drop (j * 8) := ⟨_, rfl⟩
 have hl : news.length = (n - j) * 8 := by rw [hnews, List.length_drop, hlen, Nat.sub_mul]
 obtain ⟨A, hA, hsrc⟩ : ∃ A : Addr, (if cap = j then some (⟨blk, off, none⟩ : Addr) else some ⟨blk, off + j * 8, none⟩) = some A /\ Hid (∀ t u, news[t]? = some u -> w.drew.cell? (A.add t) = some u) := by
  by_cases h : cap = j
  ·refine ⟨⟨blk, off, none⟩, by simp [h], fun t u hu => ?_⟩
   have h00 : n - j = 0 := by omega
   have h0 : news.length = 0 := by rw [hl, h00, Nat.zero_mul]
   rw [List.length_eq_zero_iff.1 h0] at hu
   simp at hu
  ·refine ⟨⟨blk, off + j * 8, none⟩, by simp [h], fun t u hu => ?_⟩
   rw [Addr.add_lit, Nat.add_assoc]
   exact hD _ u (by rw [hnews, List.getElem?_drop] at hu; exact hu)
 have s1 : Hid (news.length = (n - j) * 8) := hl
 have s2 : Hid (∀ u ∈ news, u.oneCell' = true) := fun u hu => h1 u (List.mem_of_mem_drop (by rw [hnews] at hu; exact hu))
 have hex : ∀ t, t < n * 8 -> (w.cell? ⟨blk, off + t, none⟩).isSome = true := fun t ht => by
  rw [hD t (D[t]'(by omega)) (List.getElem?_eq_getElem (by omega))]; rfl
 have s3 : Hid (∀ t, t < news.length -> (w.drew.cell? ⟨blk, off + i * 8 + t, none⟩).isSome = true /\ w.drew.frozen? ⟨blk, off + i * 8 + t, none⟩ = false) := fun t ht => by
  rw [hl] at ht
  rw [Nat.add_assoc]
  exact ⟨hex _ (by omega), hfz _ (by omega)⟩
 obtain ⟨W1, hW1⟩ : ∃ W1, W1 = w.drew.setCells blk (off + i * 8) news := ⟨_, rfl⟩
 have hW : Hid (W1 = w.drew.setCells blk (off + i * 8) news) := hW1
 obtain ⟨z, hz⟩ : ∃ z, z = (Builtin.zeroCells d55.zero.cells (j - i)).toList := ⟨_, rfl⟩
 have hzs : d55.zero.cells.size = 8 := by kernel_rfl
 have hzl : z.length = (j - i) * 8 := by rw [hz, Array.length_toList, size_zeroCells, hzs]
 have hz1 : ∀ v ∈ z, v.oneCell' = true := by
  rw [hz]
  exact zeroCells_one _ (fun v hv => by
   have := Array.all_eq_true_iff_forall_mem.1 (show d55.zero.cells.all Value.oneCell' = true by kernel_rfl) v hv
   exact this) _
 have hcl : ∀ ty, (Builtin.clear_ #[147] ty #[.slice (some ⟨blk, off + (i + (n - j)) * 8, none⟩) (n - (i + (n - j))) (cap - (i + (n - j)))]).run Tryz.prog W1 = .ok (.tuple #[]) (W1.setCells blk (off + (i + (n - j)) * 8) z) := fun ty => by
  have e : n - (i + (n - j)) = j - i := by omega
  rw [e, hz]
  refine run_clear_cells W1 147 55 ty d55.zero (by kernel_rfl) (fun w => ?_) blk _ _ _ (by omega) ?_ ?_ ?_
  ·exact run_zero tok (show T 55 = some d55 from rfl)
  ·rw [<- hz]; exact hz1
  ·intro t ht
   rw [size_zeroCells, hzs] at ht
   rw [hW1, Nat.add_assoc]
   refine isSome_setCells blk _ _ _ (fun q hq => ?_) _ (hex _ ?_)
   ·rw [hl] at hq
    rw [Nat.add_assoc]; exact hex _ (by omega)
   ·omega
  ·intro t ht
   rw [size_zeroCells, hzs] at ht
   rw [hW1, World.frozen?_setCells, Nat.add_assoc]
   exact hfz _ (by omega)
 have hX : Hid (∃ zs : List Value, zs.length = (j - i) * 8 /\ (∀ u ∈ zs, u.oneCell' = true) /\ W1.setCells blk (off + (i + (n - j)) * 8) z = (w.drew.setCells blk (off + i * 8) (D.drop (j * 8))).setCells blk (off + (i + (n - j)) * 8) zs) := ⟨z, hzl, hz1, by rw [hW1, hnews]⟩
 have hic : i <= cap := by omega
 have hjc : j <= cap := by omega
 have hne : ¬ (i = j) := by omega
 have hI : (Tryz.prog.info? 55).map (·.size) = some 8 := by kernel_rfl
 obtain ⟨i0, hi0, hz5⟩ : ∃ i0, Tryz.prog.info? 55 = some i0 /\ i0.size = 8 := by
  cases h : Tryz.prog.info? 55 with
  | none => rw [h] at hI; cases hI
  | some i0 => rw [h] at hI; exact ⟨i0, rfl, by injection hI⟩
 have mixed : Tryz.prog.follows .mixedOrders = true := by kernel_rfl
 clear hW1 hex hzs hnews hl hz hzl hz1 hD h1 hfz
 go_enter Tryz.func207, Tryz.ntmps207
 go_wp2_with fail
 go_region_law_o (refine step_append_room rfl (.tmp 22) (.tmp 25) 147 rfl 55 i0 8 (by kernel_rfl) hi0 hz5 blk off i cap (by simp [Act.eval, Act.put]) A (n - j) (cap - j) news (by simp [Act.eval, Act.put, hA]) s1.out hsrc.out s2.out (by omega) s3.out ?_; rw [<- hW.out])
 go_wp2
 go_ret
 refine ⟨by rw [show n - (j - i) = i + (n - j) by omega]; rfl, hX.out⟩
end
/-- slices.Delete[[]loop.example/g00890/impl.Instance,loop.example/g00890/impl.Instance] -/
def Fq53 (a0 : List TI) (a1 : Int) (a2 : Int) : Option (List TI) :=
 if 0 <= a1 /\ a1 < a2 /\ a2 <= (a0.length : Int) then some (a0.take a1.toNat ++ a0.drop a2.toNat) else none
theorem runq53 (a0 : List TI) (a1 : Int) (a2 : Int) (r : List TI) (h : Fq53 a0 a1 a2 = some r) : Fun Tryz.prog 207 [.c (.os 5 0 (len a0)), .c (wi a1), .c (wi a2)] [(5, .arr .rw [] (len a0) 8 (row gd (eI) a0))] (.c (.os 64000 0 (len r))) [(64000, .arr .rw [] (len r) 8 (row gd (eI) r))] true := by
 unfold Fq53 at h
 split at h
 ·rename_i h1
  injection h with h
  subst h
  obtain ⟨i, rfl⟩ : ∃ i : Nat, a1 = i := ⟨a1.toNat, by omega⟩
  obtain ⟨j, rfl⟩ : ∃ j : Nat, a2 = j := ⟨a2.toNat, by omega⟩
  rw [Int.toNat_natCast, Int.toNat_natCast]
  have e : len (a0.take i ++ a0.drop j) = len a0 - (j - i) := by
   show List.length _ = List.length _ - _
   rw [List.length_append, List.length_take, List.length_drop]; omega
  rw [e]
  exact Fun.delete Tryz.func207 (by kernel_rfl) (by kernel_rfl) 8 (fun blk off cap n i j D w h1 h2 h3 h4 h5 h6 h7 => calls_slices_Delete_Limpl_Instance_impl_Instance_mobb blk off cap n i j D w h1 h2 h3 h4 h5 h6 h7) (len a0) i j _ _ (by omega) (show j <= a0.length by omega)
   (fun t ht q hq => by show eI (gd _ t) q = eI (gd a0 _) q; rw [cut_get a0 i j t (by omega) (by omega)]) (fun t q => plain_nil (val_plain (vl_encInstance _ _))) (fun t q => val_flat (vl_encInstance _ _))
 ·cases h

/-- impl.Instance] -/
def Fq63 (a0 : List TI) (a1 : Int) : Option (List TI) :=
 (Fq53 a0 a1 (std.add .i64 a1 1)).bind fun y1 =>
 some y1
theorem runq63 (a0 : List TI) (a1 : Int) (r : List TI) (h : Fq63 a0 a1 = some r) : Fun Tryz.prog 126 [.c (.os 5 0 (len a0)), .c (wi a1)] [(5, .arr .rw [] (len a0) 8 (row gd (eI) a0))] (.c (.os 64000 0 (len r))) [(64000, .arr .rw [] (len r) 8 (row gd (eI) r))] true := by
 refine Fun.of_wp (oneOf []) tok mixed Tryz.func126 (by kernel_rfl) rfl Tryz.ntmps126 rfl ⟨fun i _ j _ k hk => (noref (plain_nil (pl_encInstance _ _)) hk).elim, tv⟩ (fun _ => ⟨trivial, ⟨fun i _ j _ => val_flat (vl_encInstance _ _), tv⟩⟩) ?_
 unfold Fq63 at h
 have hfq53 := @runq53
 generalize hLEN : @len = LEN, hGD : @gd = GD, hA : std = A, hP : Tryz.prog = P at *
 cbv
 replace h := ob_ h
 obtain ⟨y1, hy2, h⟩ := h
 refine ⟨⟨_, _, _, _, _, [(5, 5)], [(64000, 576)]⟩, hfq53 _ _ _ _ hy2, ⟨zs3, ⟨oS, tv⟩, rfl, rfl, rfl, rfl, ⟨evn 64000 rfl, tv⟩, rfl⟩, _, rfl, _, _, rfl, fun _ _ _ _ => .refl _, ?_⟩
 cbv
 injection h with h
 subst h
 refine ⟨(sp 10 [(4, .c (.os 64000 0 (LEN y1)))] [(64000, .arr .rw [] (LEN y1) 8 (row GD (eI) y1))]), ?_, ?_⟩
 ·refine St.le_trans (le_ren 576 64000 (by decide) rfl) ?_
  exact lsp rfl zl1 ⟨oS, tv⟩ rfl
 ·exact ⟨lR _, ⟨oS, tv⟩, rfl⟩

/-- impl.edited -/
def Fq80 (a0 : TL) (a1 : TE) : Option (TL) :=
 (Fq21 a0).bind fun y1 =>
 br (std.eq a1.fk 8)
 (letO ([(TC.mk a1.fN ([] : List TS) ([] : List TB) ([] : List TI))] : List TC) fun l3 =>
 (Fq16 y1.fC a1.fc l3).bind fun y5 =>
 (Fq11 (TL.mk y5) a1.fc 1).bind fun y7 =>
 req (len y7 = len y5) <|
 req (len y5 = len y7) <|
 some (TL.mk y7))
 (br (std.eq a1.fk 9)
 ((Fq90 y1.fC a1.fc).bind fun y11 =>
 (Fq11 (TL.mk y11) a1.fc (-1)).bind fun y13 =>
 req (len y13 = len y11) <|
 req (len y11 = len y13) <|
 some (TL.mk y13))
 (req (std.inR a1.fc (len y1.fC)) <|
 ((
 br (std.eq a1.fk 1)
 (((
 letO ([a1.fs_] : List TS) fun l32 =>
 (Fq15 (gd y1.fC (std.nadd 0 (std.toN a1.fc))).fS a1.fx l32).bind fun y34 =>
 letO (List.set y1.fC (std.nadd 0 (std.toN a1.fc)) (TC.mk (gd y1.fC (std.nadd 0 (std.toN a1.fc))).fN y34 (gd y1.fC (std.nadd 0 (std.toN a1.fc))).fL (gd y1.fC (std.nadd 0 (std.toN a1.fc))).fI)) fun l36 =>
 some l36
 ) : Option ((List TC))).bind fun y25 =>
 letO y25 fun w31 =>
 some w31)
 (((
 br (std.eq a1.fk 2)
 (((
 (Fq77 (gd y1.fC (std.nadd 0 (std.toN a1.fc))).fS a1.fx).bind fun y51 =>
 letO (List.set y1.fC (std.nadd 0 (std.toN a1.fc)) (TC.mk (gd y1.fC (std.nadd 0 (std.toN a1.fc))).fN y51 (gd y1.fC (std.nadd 0 (std.toN a1.fc))).fL (gd y1.fC (std.nadd 0 (std.toN a1.fc))).fI)) fun l53 =>
 some l53
 ) : Option ((List TC))).bind fun y44 =>
 letO y44 fun w50 =>
 some w50)
 (((
 br (std.eq a1.fk 3)
 (((
 letO ([a1.fl_] : List TB) fun l68 =>
 (Fq14 (gd y1.fC (std.nadd 0 (std.toN a1.fc))).fL a1.fx l68).bind fun y70 =>
 letO (List.set y1.fC (std.nadd 0 (std.toN a1.fc)) (TC.mk (gd y1.fC (std.nadd 0 (std.toN a1.fc))).fN (gd y1.fC (std.nadd 0 (std.toN a1.fc))).fS y70 (gd y1.fC (std.nadd 0 (std.toN a1.fc))).fI)) fun l72 =>
 some l72
 ) : Option ((List TC))).bind fun y61 =>
 letO y61 fun w67 =>
 some w67)
 (((
 br (std.eq a1.fk 4)
 (((
 (Fq61 (gd y1.fC (std.nadd 0 (std.toN a1.fc))).fL a1.fx).bind fun y87 =>
 letO (List.set y1.fC (std.nadd 0 (std.toN a1.fc)) (TC.mk (gd y1.fC (std.nadd 0 (std.toN a1.fc))).fN (gd y1.fC (std.nadd 0 (std.toN a1.fc))).fS y87 (gd y1.fC (std.nadd 0 (std.toN a1.fc))).fI)) fun l89 =>
 some l89
 ) : Option ((List TC))).bind fun y80 =>
 letO y80 fun w86 =>
 some w86)
 (((
 br (std.eq a1.fk 5)
 (((
 letO ([a1.fi_] : List TI) fun l104 =>
 (Fq13 (gd y1.fC (std.nadd 0 (std.toN a1.fc))).fI a1.fx l104).bind fun y106 =>
 letO (List.set y1.fC (std.nadd 0 (std.toN a1.fc)) (TC.mk (gd y1.fC (std.nadd 0 (std.toN a1.fc))).fN (gd y1.fC (std.nadd 0 (std.toN a1.fc))).fS (gd y1.fC (std.nadd 0 (std.toN a1.fc))).fL y106)) fun l108 =>
 some l108
 ) : Option ((List TC))).bind fun y97 =>
 letO y97 fun w103 =>
 some w103)
 (((
 br (std.eq a1.fk 6)
 (((
 (Fq63 (gd y1.fC (std.nadd 0 (std.toN a1.fc))).fI a1.fx).bind fun y123 =>
 letO (List.set y1.fC (std.nadd 0 (std.toN a1.fc)) (TC.mk (gd y1.fC (std.nadd 0 (std.toN a1.fc))).fN (gd y1.fC (std.nadd 0 (std.toN a1.fc))).fS (gd y1.fC (std.nadd 0 (std.toN a1.fc))).fL y123)) fun l125 =>
 some l125
 ) : Option ((List TC))).bind fun y116 =>
 letO y116 fun w122 =>
 some w122)
 (((
 br (std.eq a1.fk 7)
 (((
 letO (List.set y1.fC (std.nadd 0 (std.toN a1.fc)) (TC.mk a1.fN (gd y1.fC (std.nadd 0 (std.toN a1.fc))).fS (gd y1.fC (std.nadd 0 (std.toN a1.fc))).fL (gd y1.fC (std.nadd 0 (std.toN a1.fc))).fI)) fun l140 =>
 some l140
 ) : Option ((List TC))).bind fun y133 =>
 letO y133 fun w139 =>
 some w139)
 (some y1.fC)
 ) : Option ((List TC))).bind fun y126 =>
 letO y126 fun w132 =>
 some w132)
 ) : Option ((List TC))).bind fun y109 =>
 letO y109 fun w115 =>
 some w115)
 ) : Option ((List TC))).bind fun y90 =>
 letO y90 fun w96 =>
 some w96)
 ) : Option ((List TC))).bind fun y73 =>
 letO y73 fun w79 =>
 some w79)
 ) : Option ((List TC))).bind fun y54 =>
 letO y54 fun w60 =>
 some w60)
 ) : Option ((List TC))).bind fun y37 =>
 letO y37 fun w43 =>
 some w43)
 ) : Option ((List TC))).bind fun y18 =>
 letO y18 fun w24 =>
 req (len y1.fC = len w24) <|
 some (TL.mk w24)))
theorem runq80 (a0 : TL) (a1 : TE) (r : TL) (h : Fq80 a0 a1 = some r) : Fun Tryz.prog 65 [.agg [.bs (len a0.fC) 4 (row gd (eC len gd) a0.fC)], .agg (cE a1)] [] (.agg [.os 64000 0 (len r.fC)]) [(64000, .arr .rw [] (len r.fC) 4 (row gd (oC len gd) r.fC))] true := by
 refine Fun.of_wp (oneOf [13, 15, 17, 19, 21, 23, 25, 100048, 100063, 100075, 100090, 100102, 100117, 100129]) tok mixed Tryz.func65 (by kernel_rfl) rfl Tryz.ntmps65 rfl trivial (fun _ => ⟨(by simp [AV.flat, AV.flat1, AC.flat]), ⟨fun i _ j _ => fl_oncCell _ _, tv⟩⟩) ?_
 unfold Fq80 at h
 have hfq21 := @runq21
 have hfq90 := @runq90
 have hfq63 := @runq63
 have hfq61 := @runq61
 have hfq77 := @runq77
 have hfq11 := @runq11
 have hfq16 := @runq16
 have hfq13 := @runq13
 have hfq14 := @runq14
 have hfq15 := @runq15
 generalize hLEN : @len = LEN, hGD : @gd = GD, hA : std = A, hP : Tryz.prog = P at *
 cbv
 replace h := ob_ h
 obtain ⟨y1, hy2, h⟩ := h
 refine ⟨⟨_, _, _, _, _, [], [(64000, 512)]⟩, hfq21 _ _ hy2, ⟨zs1, trivial, rfl, rfl, rfl, rfl, ⟨evn 64000 rfl, tv⟩, rfl⟩, _, rfl, _, _, rfl, fun _ _ _ _ => .refl _, ?_⟩
 cbv
 refine fork (fun b150 => ?_) (fun b150 => ?_)
 ·replace h := ot b150 h
  cbv
  replace h := ol h
  obtain ⟨l3, hl3, h⟩ := h
  have e4 : 1 = LEN l3 := by subst hl3 hLEN; rfl
  refine ⟨_, congrArg (fun n => AV.c (AC.os 1216 0 n)) e4, _, row GD (oC LEN GD) l3, e4, ?_, ?_⟩
  ·intro i hi j hj
   rw [<- e4] at hi
   subst hl3
   subst hGD hLEN
   obtain rfl : i = 0 := (by omega) <;> obtain rfl | rfl | rfl | rfl : j = 0 \/ j = 1 \/ j = 2 \/ j = 3 := (by omega)
   all_goals first | rfl | exact AC.wk.refl _ | exact AC.wk.ow | exact AC.wk.bs
  cbv
  replace h := ob_ h
  obtain ⟨y5, hy6, h⟩ := h
  refine ⟨⟨_, _, _, _, _, [(5, 512), (7, 1216)], [(64000, 1280)]⟩, hfq16 _ _ _ _ hy6, ⟨zs3, ⟨oS, oS, tv⟩, rfl, rfl, rfl, rfl, ⟨evn 64000 rfl, tv⟩, rfl⟩, _, rfl, _, _, rfl, fun _ _ _ _ => .refl _, ?_⟩
  cbv
  replace h := ob_ h
  obtain ⟨y7, hy8, h⟩ := h
  replace h := oq_ h
  obtain ⟨c10, h⟩ := h
  refine ⟨⟨_, _, _, _, _, [(5, 1280)], [(5, 1280)]⟩, hfq11 _ _ _ _ hy8, ⟨zs3, ⟨oS, tv⟩, rfl, rfl, rfl, rfl, ⟨fun _ => ⟨c10.symm, rfl, fun c h => h⟩, tv⟩, rfl⟩, _, rfl, LEN y5, _, c10, fun _ _ _ _ => .refl _, ?_⟩
  cbv
  replace h := oq_ h
  obtain ⟨c9, h⟩ := h
  injection h with h
  subst h
  refine ⟨(sp 137 [(4, .c (.ptr 256 0))] [(256, .var [.os 64000 0 (LEN y7)]), (64000, .arr .rw [] (LEN y7) 4 (row GD (oC LEN GD) y7))]), ?_, ?_⟩
  ·refine St.le_trans (le_ren 1280 64000 (by decide) rfl) ?_
   rw [c9]
   exact lsp rfl zl1 ⟨rfl, oS, tv⟩ rfl
  ·exact ⟨lR _, ⟨oS, tv⟩, rfl⟩
 ·replace h := og b150 h
  cbv
  refine fork (fun b149 => ?_) (fun b149 => ?_)
  ·replace h := ot b149 h
   cbv
   replace h := ob_ h
   obtain ⟨y11, hy12, h⟩ := h
   refine ⟨⟨_, _, _, _, _, [(5, 512)], [(64000, 2176)]⟩, hfq90 _ _ _ hy12, ⟨zs2, ⟨oS, tv⟩, rfl, rfl, rfl, rfl, ⟨evn 64000 rfl, tv⟩, rfl⟩, _, rfl, _, _, rfl, fun _ _ _ _ => .refl _, ?_⟩
   cbv
   replace h := ob_ h
   obtain ⟨y13, hy14, h⟩ := h
   replace h := oq_ h
   obtain ⟨c16, h⟩ := h
   refine ⟨⟨_, _, _, _, _, [(5, 2176)], [(5, 2176)]⟩, hfq11 _ _ _ _ hy14, ⟨zs3, ⟨oS, tv⟩, rfl, rfl, rfl, rfl, ⟨fun _ => ⟨c16.symm, rfl, fun c h => h⟩, tv⟩, rfl⟩, _, rfl, LEN y11, _, c16, fun _ _ _ _ => .refl _, ?_⟩
   cbv
   replace h := oq_ h
   obtain ⟨c15, h⟩ := h
   injection h with h
   subst h
   refine ⟨(sp 137 [(4, .c (.ptr 256 0))] [(256, .var [.os 64000 0 (LEN y13)]), (64000, .arr .rw [] (LEN y13) 4 (row GD (oC LEN GD) y13))]), ?_, ?_⟩
   ·refine St.le_trans (le_ren 2176 64000 (by decide) rfl) ?_
    rw [c15]
    exact lsp rfl zl1 ⟨rfl, oS, tv⟩ rfl
   ·exact ⟨lR _, ⟨oS, tv⟩, rfl⟩
  ·replace h := og b149 h
   cbv
   replace h := oq_ h
   obtain ⟨c17, h⟩ := h
   refine ⟨⟨c17, tv⟩, ?_⟩
   replace h := ob_ h
   obtain ⟨y18, hy19, h⟩ := h
   obtain ⟨S22, hS23⟩ : ∃ S, S = some (sp 137 [(4, .c (.ptr 256 0)), (5, .c (.ptr 320 0))] [(256, .var [.v (.slice none 0 0)]), (320, .var [.os 512 0 (LEN y1.fC)]), (512, .arr .rw [] (LEN y1.fC) 4 (row GD (oC LEN GD) y18))]) := ⟨_, rfl⟩
   refine ⟨S22, ?_, ?_⟩
   ·clear h
    have h := hy19
    clear hy19
    cbv
    refine fork (fun b147 => ?_) (fun b147 => ?_)
    ·replace h := ot b147 h
     cbv
     replace h := ob_ h
     obtain ⟨y25, hy26, h⟩ := h
     obtain ⟨S29, hS30⟩ : ∃ S, S = (sp 137 [(4, .c (.ptr 256 0)), (5, .c (.ptr 320 0))] [(256, .var [.v (.slice none 0 0)]), (320, .var [.os 512 0 (LEN y1.fC)]), (512, .arr .rw [] (LEN y1.fC) 4 (row GD (oC LEN GD) y25))]) := ⟨_, rfl⟩
     refine ⟨S29, ?_, ?_⟩
     ·clear h
      have h := hy26
      clear hy26
      cbv
      refine And.intro (by subst hA; have p := ix c17; first | exact p | exact ⟨p, tv⟩ | exact ⟨p, trivial, tv⟩) ?_
      refine ⟨_, rfl, _, (pC (row GD (oC LEN GD) y1.fC) (A.nadd 0 (A.toN a1.fc)) [ws (GD y1.fC (A.nadd 0 (A.toN a1.fc))).fN, .os 3458 0 (LEN (GD y1.fC (A.nadd 0 (A.toN a1.fc))).fS), .ow (LEN (GD y1.fC (A.nadd 0 (A.toN a1.fc))).fL) 4 (row GD (eL) (GD y1.fC (A.nadd 0 (A.toN a1.fc))).fL), .ow (LEN (GD y1.fC (A.nadd 0 (A.toN a1.fc))).fI) 8 (row GD (eI) (GD y1.fC (A.nadd 0 (A.toN a1.fc))).fI)]), rfl, wkOf ?_, ?_⟩
      ·refine patch_of ?_
       intro j hj
       match j, hj with | 0, _ => (rfl) | 1, _ => (rfl) | 2, _ => (rfl) | 3, _ => (rfl) | (j_ + 4), h_ => omega
      refine ⟨_, row GD (eS) (GD y1.fC (A.nadd 0 (A.toN a1.fc))).fS, rfl, wkOf ?_, ?_⟩
      ·exact fun i _ j _ => plain_cp (pl_encShape _ _)
      cbv
      replace h := ol h
      obtain ⟨l32, hl32, h⟩ := h
      have e33 : 1 = LEN l32 := by subst hl32 hLEN; rfl
      refine ⟨_, congrArg (fun n => AV.c (AC.os 3776 0 n)) e33, _, row GD (eS) l32, e33, wkOf ?_, ?_⟩
      ·intro i hi j hj
       rw [<- e33] at hi
       subst hl32
       subst hGD
       obtain rfl : i = 0 := (by omega) <;> obtain rfl | rfl | rfl | rfl | rfl : j = 0 \/ j = 1 \/ j = 2 \/ j = 3 \/ j = 4 := (by omega)
       all_goals rfl
      cbv
      replace h := ob_ h
      obtain ⟨y34, hy35, h⟩ := h
      refine ⟨⟨_, _, _, _, _, [(5, 3458), (7, 3776)], [(64000, 3840)]⟩, hfq15 _ _ _ _ hy35, ⟨zs3, ⟨oS, oS, tv⟩, rfl, rfl, rfl, rfl, ⟨evn 64000 rfl, tv⟩, rfl⟩, _, rfl, _, _, rfl, fun _ _ _ _ => .refl _, ?_⟩
      cbv
      refine And.intro (by subst hA; have p := ix c17; first | exact p | exact ⟨p, tv⟩ | exact ⟨p, trivial, tv⟩) ?_
      refine ⟨_, rfl, _, (pC (row GD (oC LEN GD) y1.fC) (A.nadd 0 (A.toN a1.fc)) [ws (GD y1.fC (A.nadd 0 (A.toN a1.fc))).fN, .os 3840 0 (LEN y34), .ow (LEN (GD y1.fC (A.nadd 0 (A.toN a1.fc))).fL) 4 (row GD (eL) (GD y1.fC (A.nadd 0 (A.toN a1.fc))).fL), .ow (LEN (GD y1.fC (A.nadd 0 (A.toN a1.fc))).fI) 8 (row GD (eI) (GD y1.fC (A.nadd 0 (A.toN a1.fc))).fI)]), rfl, wkOf ?_, ?_⟩
      ·first | refine patch_of2 ?_ | refine patch_of2K (fun _ _ => rC _ _) ?_
       intro j hj
       match j, hj with | 0, _ => (rfl) | 1, _ => (rfl) | 2, _ => (rfl) | 3, _ => (rfl) | (j_ + 4), h_ => omega
      cbv
      replace h := ol h
      obtain ⟨l36, hl36, h⟩ := h
      injection h with h
      subst h
      subst hS30
      refine St.le_trans (le_foldP 512 1 3840 rfl rfl rfl (by decide) (by subst hA; exact ix c17) (by decide) rfl (fun _ _ => rC _ _)) ?_
      exact lsp rfl zl2 ⟨rfl, rfl, ⟨fun hw => hw, fun c hc => (by cases hc), .inr (fun i _ j _ z hz => (noref (rC _ _) hz).elim), rfl, rfl, (by subst hGD hLEN hA; exact patch_set hl36 (ix c17) (by intro j hj; match j, hj with | 0, _ => rfl | 1, _ => rfl | 2, _ => rfl | 3, _ => rfl | (j_ + 4), h_ => omega))⟩, tv⟩ rfl
     ·clear hy26
      subst hS30
      replace h := ol h
      obtain ⟨w31, hw31, h⟩ := h
      have hw31 : w31 = y25 := hw31
      subst hw31
      cbv
      injection h with h
      subst h
      subst hS23
      exact lsp rfl zl2 ⟨rfl, rfl, oS, tv⟩ rfl
    ·replace h := og b147 h
     cbv
     replace h := ob_ h
     obtain ⟨y37, hy38, h⟩ := h
     obtain ⟨S41, hS42⟩ : ∃ S, S = some (sp 137 [(4, .c (.ptr 256 0)), (5, .c (.ptr 320 0))] [(256, .var [.v (.slice none 0 0)]), (320, .var [.os 512 0 (LEN y1.fC)]), (512, .arr .rw [] (LEN y1.fC) 4 (row GD (oC LEN GD) y37))]) := ⟨_, rfl⟩
     refine ⟨S41, ?_, ?_⟩
     ·clear h
      have h := hy38
      clear hy38
      cbv
      refine fork (fun b146 => ?_) (fun b146 => ?_)
      ·replace h := ot b146 h
       cbv
       replace h := ob_ h
       obtain ⟨y44, hy45, h⟩ := h
       obtain ⟨S48, hS49⟩ : ∃ S, S = (sp 137 [(4, .c (.ptr 256 0)), (5, .c (.ptr 320 0))] [(256, .var [.v (.slice none 0 0)]), (320, .var [.os 512 0 (LEN y1.fC)]), (512, .arr .rw [] (LEN y1.fC) 4 (row GD (oC LEN GD) y44))]) := ⟨_, rfl⟩
       refine ⟨S48, ?_, ?_⟩
       ·clear h
        have h := hy45
        clear hy45
        cbv
        refine And.intro (by subst hA; have p := ix c17; first | exact p | exact ⟨p, tv⟩ | exact ⟨p, trivial, tv⟩) ?_
        refine ⟨_, rfl, _, (pC (row GD (oC LEN GD) y1.fC) (A.nadd 0 (A.toN a1.fc)) [ws (GD y1.fC (A.nadd 0 (A.toN a1.fc))).fN, .os 4418 0 (LEN (GD y1.fC (A.nadd 0 (A.toN a1.fc))).fS), .ow (LEN (GD y1.fC (A.nadd 0 (A.toN a1.fc))).fL) 4 (row GD (eL) (GD y1.fC (A.nadd 0 (A.toN a1.fc))).fL), .ow (LEN (GD y1.fC (A.nadd 0 (A.toN a1.fc))).fI) 8 (row GD (eI) (GD y1.fC (A.nadd 0 (A.toN a1.fc))).fI)]), rfl, wkOf ?_, ?_⟩
        ·refine patch_of ?_
         intro j hj
         match j, hj with | 0, _ => (rfl) | 1, _ => (rfl) | 2, _ => (rfl) | 3, _ => (rfl) | (j_ + 4), h_ => omega
        refine ⟨_, row GD (eS) (GD y1.fC (A.nadd 0 (A.toN a1.fc))).fS, rfl, wkOf ?_, ?_⟩
        ·exact fun i _ j _ => plain_cp (pl_encShape _ _)
        cbv
        replace h := ob_ h
        obtain ⟨y51, hy52, h⟩ := h
        refine ⟨⟨_, _, _, _, _, [(5, 4418)], [(64000, 4608)]⟩, hfq77 _ _ _ hy52, ⟨zs2, ⟨oS, tv⟩, rfl, rfl, rfl, rfl, ⟨evn 64000 rfl, tv⟩, rfl⟩, _, rfl, _, _, rfl, fun _ _ _ _ => .refl _, ?_⟩
        cbv
        refine And.intro (by subst hA; have p := ix c17; first | exact p | exact ⟨p, tv⟩ | exact ⟨p, trivial, tv⟩) ?_
        refine ⟨_, rfl, _, (pC (row GD (oC LEN GD) y1.fC) (A.nadd 0 (A.toN a1.fc)) [ws (GD y1.fC (A.nadd 0 (A.toN a1.fc))).fN, .os 4608 0 (LEN y51), .ow (LEN (GD y1.fC (A.nadd 0 (A.toN a1.fc))).fL) 4 (row GD (eL) (GD y1.fC (A.nadd 0 (A.toN a1.fc))).fL), .ow (LEN (GD y1.fC (A.nadd 0 (A.toN a1.fc))).fI) 8 (row GD (eI) (GD y1.fC (A.nadd 0 (A.toN a1.fc))).fI)]), rfl, wkOf ?_, ?_⟩
        ·first | refine patch_of2 ?_ | refine patch_of2K (fun _ _ => rC _ _) ?_
         intro j hj
         match j, hj with | 0, _ => (rfl) | 1, _ => (rfl) | 2, _ => (rfl) | 3, _ => (rfl) | (j_ + 4), h_ => omega
        cbv
        replace h := ol h
        obtain ⟨l53, hl53, h⟩ := h
        injection h with h
        subst h
        subst hS49
        refine St.le_trans (le_foldP 512 1 4608 rfl rfl rfl (by decide) (by subst hA; exact ix c17) (by decide) rfl (fun _ _ => rC _ _)) ?_
        exact lsp rfl zl2 ⟨rfl, rfl, ⟨fun hw => hw, fun c hc => (by cases hc), .inr (fun i _ j _ z hz => (noref (rC _ _) hz).elim), rfl, rfl, (by subst hGD hLEN hA; exact patch_set hl53 (ix c17) (by intro j hj; match j, hj with | 0, _ => rfl | 1, _ => rfl | 2, _ => rfl | 3, _ => rfl | (j_ + 4), h_ => omega))⟩, tv⟩ rfl
       ·clear hy45
        subst hS49
        replace h := ol h
        obtain ⟨w50, hw50, h⟩ := h
        have hw50 : w50 = y44 := hw50
        subst hw50
        cbv
        injection h with h
        subst h
        subst hS42
        exact lsp rfl zl2 ⟨rfl, rfl, oS, tv⟩ rfl
      ·replace h := og b146 h
       cbv
       replace h := ob_ h
       obtain ⟨y54, hy55, h⟩ := h
       obtain ⟨S58, hS59⟩ : ∃ S, S = some (sp 137 [(4, .c (.ptr 256 0)), (5, .c (.ptr 320 0))] [(256, .var [.v (.slice none 0 0)]), (320, .var [.os 512 0 (LEN y1.fC)]), (512, .arr .rw [] (LEN y1.fC) 4 (row GD (oC LEN GD) y54))]) := ⟨_, rfl⟩
       refine ⟨S58, ?_, ?_⟩
       ·clear h
        have h := hy55
        clear hy55
        cbv
        refine fork (fun b145 => ?_) (fun b145 => ?_)
        ·replace h := ot b145 h
         cbv
         replace h := ob_ h
         obtain ⟨y61, hy62, h⟩ := h
         obtain ⟨S65, hS66⟩ : ∃ S, S = (sp 137 [(4, .c (.ptr 256 0)), (5, .c (.ptr 320 0))] [(256, .var [.v (.slice none 0 0)]), (320, .var [.os 512 0 (LEN y1.fC)]), (512, .arr .rw [] (LEN y1.fC) 4 (row GD (oC LEN GD) y61))]) := ⟨_, rfl⟩
         refine ⟨S65, ?_, ?_⟩
         ·clear h
          have h := hy62
          clear hy62
          cbv
          refine And.intro (by subst hA; have p := ix c17; first | exact p | exact ⟨p, tv⟩ | exact ⟨p, trivial, tv⟩) ?_
          refine ⟨_, rfl, _, (pC (row GD (oC LEN GD) y1.fC) (A.nadd 0 (A.toN a1.fc)) [ws (GD y1.fC (A.nadd 0 (A.toN a1.fc))).fN, .ow (LEN (GD y1.fC (A.nadd 0 (A.toN a1.fc))).fS) 5 (row GD (eS) (GD y1.fC (A.nadd 0 (A.toN a1.fc))).fS), .os 5186 0 (LEN (GD y1.fC (A.nadd 0 (A.toN a1.fc))).fL), .ow (LEN (GD y1.fC (A.nadd 0 (A.toN a1.fc))).fI) 8 (row GD (eI) (GD y1.fC (A.nadd 0 (A.toN a1.fc))).fI)]), rfl, wkOf ?_, ?_⟩
          ·refine patch_of ?_
           intro j hj
           match j, hj with | 0, _ => (rfl) | 1, _ => (rfl) | 2, _ => (rfl) | 3, _ => (rfl) | (j_ + 4), h_ => omega
          refine ⟨_, row GD (eL) (GD y1.fC (A.nadd 0 (A.toN a1.fc))).fL, rfl, wkOf ?_, ?_⟩
          ·exact fun i _ j _ => plain_cp (pl_encLabel _ _)
          cbv
          replace h := ol h
          obtain ⟨l68, hl68, h⟩ := h
          have e69 : 1 = LEN l68 := by subst hl68 hLEN; rfl
          refine ⟨_, congrArg (fun n => AV.c (AC.os 5504 0 n)) e69, _, row GD (eL) l68, e69, wkOf ?_, ?_⟩
          ·intro i hi j hj
           rw [<- e69] at hi
           subst hl68
           subst hGD
           obtain rfl : i = 0 := (by omega) <;> obtain rfl | rfl | rfl | rfl : j = 0 \/ j = 1 \/ j = 2 \/ j = 3 := (by omega)
           all_goals rfl
          cbv
          replace h := ob_ h
          obtain ⟨y70, hy71, h⟩ := h
          refine ⟨⟨_, _, _, _, _, [(5, 5186), (7, 5504)], [(64000, 5568)]⟩, hfq14 _ _ _ _ hy71, ⟨zs3, ⟨oS, oS, tv⟩, rfl, rfl, rfl, rfl, ⟨evn 64000 rfl, tv⟩, rfl⟩, _, rfl, _, _, rfl, fun _ _ _ _ => .refl _, ?_⟩
          cbv
          refine And.intro (by subst hA; have p := ix c17; first | exact p | exact ⟨p, tv⟩ | exact ⟨p, trivial, tv⟩) ?_
          refine ⟨_, rfl, _, (pC (row GD (oC LEN GD) y1.fC) (A.nadd 0 (A.toN a1.fc)) [ws (GD y1.fC (A.nadd 0 (A.toN a1.fc))).fN, .ow (LEN (GD y1.fC (A.nadd 0 (A.toN a1.fc))).fS) 5 (row GD (eS) (GD y1.fC (A.nadd 0 (A.toN a1.fc))).fS), .os 5568 0 (LEN y70), .ow (LEN (GD y1.fC (A.nadd 0 (A.toN a1.fc))).fI) 8 (row GD (eI) (GD y1.fC (A.nadd 0 (A.toN a1.fc))).fI)]), rfl, wkOf ?_, ?_⟩
          ·first | refine patch_of2 ?_ | refine patch_of2K (fun _ _ => rC _ _) ?_
           intro j hj
           match j, hj with | 0, _ => (rfl) | 1, _ => (rfl) | 2, _ => (rfl) | 3, _ => (rfl) | (j_ + 4), h_ => omega
          cbv
          replace h := ol h
          obtain ⟨l72, hl72, h⟩ := h
          injection h with h
          subst h
          subst hS66
          refine St.le_trans (le_foldP 512 2 5568 rfl rfl rfl (by decide) (by subst hA; exact ix c17) (by decide) rfl (fun _ _ => rC _ _)) ?_
          exact lsp rfl zl2 ⟨rfl, rfl, ⟨fun hw => hw, fun c hc => (by cases hc), .inr (fun i _ j _ z hz => (noref (rC _ _) hz).elim), rfl, rfl, (by subst hGD hLEN hA; exact patch_set hl72 (ix c17) (by intro j hj; match j, hj with | 0, _ => rfl | 1, _ => rfl | 2, _ => rfl | 3, _ => rfl | (j_ + 4), h_ => omega))⟩, tv⟩ rfl
         ·clear hy62
          subst hS66
          replace h := ol h
          obtain ⟨w67, hw67, h⟩ := h
          have hw67 : w67 = y61 := hw67
          subst hw67
          cbv
          injection h with h
          subst h
          subst hS59
          exact lsp rfl zl2 ⟨rfl, rfl, oS, tv⟩ rfl
        ·replace h := og b145 h
         cbv
         replace h := ob_ h
         obtain ⟨y73, hy74, h⟩ := h
         obtain ⟨S77, hS78⟩ : ∃ S, S = some (sp 137 [(4, .c (.ptr 256 0)), (5, .c (.ptr 320 0))] [(256, .var [.v (.slice none 0 0)]), (320, .var [.os 512 0 (LEN y1.fC)]), (512, .arr .rw [] (LEN y1.fC) 4 (row GD (oC LEN GD) y73))]) := ⟨_, rfl⟩
         refine ⟨S77, ?_, ?_⟩
         ·clear h
          have h := hy74
          clear hy74
          cbv
          refine fork (fun b144 => ?_) (fun b144 => ?_)
          ·replace h := ot b144 h
           cbv
           replace h := ob_ h
           obtain ⟨y80, hy81, h⟩ := h
           obtain ⟨S84, hS85⟩ : ∃ S, S = (sp 137 [(4, .c (.ptr 256 0)), (5, .c (.ptr 320 0))] [(256, .var [.v (.slice none 0 0)]), (320, .var [.os 512 0 (LEN y1.fC)]), (512, .arr .rw [] (LEN y1.fC) 4 (row GD (oC LEN GD) y80))]) := ⟨_, rfl⟩
           refine ⟨S84, ?_, ?_⟩
           ·clear h
            have h := hy81
            clear hy81
            cbv
            refine And.intro (by subst hA; have p := ix c17; first | exact p | exact ⟨p, tv⟩ | exact ⟨p, trivial, tv⟩) ?_
            refine ⟨_, rfl, _, (pC (row GD (oC LEN GD) y1.fC) (A.nadd 0 (A.toN a1.fc)) [ws (GD y1.fC (A.nadd 0 (A.toN a1.fc))).fN, .ow (LEN (GD y1.fC (A.nadd 0 (A.toN a1.fc))).fS) 5 (row GD (eS) (GD y1.fC (A.nadd 0 (A.toN a1.fc))).fS), .os 6146 0 (LEN (GD y1.fC (A.nadd 0 (A.toN a1.fc))).fL), .ow (LEN (GD y1.fC (A.nadd 0 (A.toN a1.fc))).fI) 8 (row GD (eI) (GD y1.fC (A.nadd 0 (A.toN a1.fc))).fI)]), rfl, wkOf ?_, ?_⟩
            ·refine patch_of ?_
             intro j hj
             match j, hj with | 0, _ => (rfl) | 1, _ => (rfl) | 2, _ => (rfl) | 3, _ => (rfl) | (j_ + 4), h_ => omega
            refine ⟨_, row GD (eL) (GD y1.fC (A.nadd 0 (A.toN a1.fc))).fL, rfl, wkOf ?_, ?_⟩
            ·exact fun i _ j _ => plain_cp (pl_encLabel _ _)
            cbv
            replace h := ob_ h
            obtain ⟨y87, hy88, h⟩ := h
            refine ⟨⟨_, _, _, _, _, [(5, 6146)], [(64000, 6336)]⟩, hfq61 _ _ _ hy88, ⟨zs2, ⟨oS, tv⟩, rfl, rfl, rfl, rfl, ⟨evn 64000 rfl, tv⟩, rfl⟩, _, rfl, _, _, rfl, fun _ _ _ _ => .refl _, ?_⟩
            cbv
            refine And.intro (by subst hA; have p := ix c17; first | exact p | exact ⟨p, tv⟩ | exact ⟨p, trivial, tv⟩) ?_
            refine ⟨_, rfl, _, (pC (row GD (oC LEN GD) y1.fC) (A.nadd 0 (A.toN a1.fc)) [ws (GD y1.fC (A.nadd 0 (A.toN a1.fc))).fN, .ow (LEN (GD y1.fC (A.nadd 0 (A.toN a1.fc))).fS) 5 (row GD (eS) (GD y1.fC (A.nadd 0 (A.toN a1.fc))).fS), .os 6336 0 (LEN y87), .ow (LEN (GD y1.fC (A.nadd 0 (A.toN a1.fc))).fI) 8 (row GD (eI) (GD y1.fC (A.nadd 0 (A.toN a1.fc))).fI)]), rfl, wkOf ?_, ?_⟩
            ·first | refine patch_of2 ?_ | refine patch_of2K (fun _ _ => rC _ _) ?_
             intro j hj
             match j, hj with | 0, _ => (rfl) | 1, _ => (rfl) | 2, _ => (rfl) | 3, _ => (rfl) | (j_ + 4), h_ => omega
            cbv
            replace h := ol h
            obtain ⟨l89, hl89, h⟩ := h
            injection h with h
            subst h
            subst hS85
            refine St.le_trans (le_foldP 512 2 6336 rfl rfl rfl (by decide) (by subst hA; exact ix c17) (by decide) rfl (fun _ _ => rC _ _)) ?_
            exact lsp rfl zl2 ⟨rfl, rfl, ⟨fun hw => hw, fun c hc => (by cases hc), .inr (fun i _ j _ z hz => (noref (rC _ _) hz).elim), rfl, rfl, (by subst hGD hLEN hA; exact patch_set hl89 (ix c17) (by intro j hj; match j, hj with | 0, _ => rfl | 1, _ => rfl | 2, _ => rfl | 3, _ => rfl | (j_ + 4), h_ => omega))⟩, tv⟩ rfl
           ·clear hy81
            subst hS85
            replace h := ol h
            obtain ⟨w86, hw86, h⟩ := h
            have hw86 : w86 = y80 := hw86
            subst hw86
            cbv
            injection h with h
            subst h
            subst hS78
            exact lsp rfl zl2 ⟨rfl, rfl, oS, tv⟩ rfl
          ·replace h := og b144 h
           cbv
           replace h := ob_ h
           obtain ⟨y90, hy91, h⟩ := h
           obtain ⟨S94, hS95⟩ : ∃ S, S = some (sp 137 [(4, .c (.ptr 256 0)), (5, .c (.ptr 320 0))] [(256, .var [.v (.slice none 0 0)]), (320, .var [.os 512 0 (LEN y1.fC)]), (512, .arr .rw [] (LEN y1.fC) 4 (row GD (oC LEN GD) y90))]) := ⟨_, rfl⟩
           refine ⟨S94, ?_, ?_⟩
           ·clear h
            have h := hy91
            clear hy91
            cbv
            refine fork (fun b143 => ?_) (fun b143 => ?_)
            ·replace h := ot b143 h
             cbv
             replace h := ob_ h
             obtain ⟨y97, hy98, h⟩ := h
             obtain ⟨S101, hS102⟩ : ∃ S, S = (sp 137 [(4, .c (.ptr 256 0)), (5, .c (.ptr 320 0))] [(256, .var [.v (.slice none 0 0)]), (320, .var [.os 512 0 (LEN y1.fC)]), (512, .arr .rw [] (LEN y1.fC) 4 (row GD (oC LEN GD) y97))]) := ⟨_, rfl⟩
             refine ⟨S101, ?_, ?_⟩
             ·clear h
              have h := hy98
              clear hy98
              cbv
              refine And.intro (by subst hA; have p := ix c17; first | exact p | exact ⟨p, tv⟩ | exact ⟨p, trivial, tv⟩) ?_
              refine ⟨_, rfl, _, (pC (row GD (oC LEN GD) y1.fC) (A.nadd 0 (A.toN a1.fc)) [ws (GD y1.fC (A.nadd 0 (A.toN a1.fc))).fN, .ow (LEN (GD y1.fC (A.nadd 0 (A.toN a1.fc))).fS) 5 (row GD (eS) (GD y1.fC (A.nadd 0 (A.toN a1.fc))).fS), .ow (LEN (GD y1.fC (A.nadd 0 (A.toN a1.fc))).fL) 4 (row GD (eL) (GD y1.fC (A.nadd 0 (A.toN a1.fc))).fL), .os 6914 0 (LEN (GD y1.fC (A.nadd 0 (A.toN a1.fc))).fI)]), rfl, wkOf ?_, ?_⟩
              ·refine patch_of ?_
               intro j hj
               match j, hj with | 0, _ => (rfl) | 1, _ => (rfl) | 2, _ => (rfl) | 3, _ => (rfl) | (j_ + 4), h_ => omega
              refine ⟨_, row GD (eI) (GD y1.fC (A.nadd 0 (A.toN a1.fc))).fI, rfl, wkOf ?_, ?_⟩
              ·exact fun i _ j _ => plain_cp (pl_encInstance _ _)
              cbv
              replace h := ol h
              obtain ⟨l104, hl104, h⟩ := h
              have e105 : 1 = LEN l104 := by subst hl104 hLEN; rfl
              refine ⟨_, congrArg (fun n => AV.c (AC.os 7232 0 n)) e105, _, row GD (eI) l104, e105, wkOf ?_, ?_⟩
              ·intro i hi j hj
               rw [<- e105] at hi
               subst hl104
               subst hGD
               obtain rfl : i = 0 := (by omega) <;> obtain rfl | rfl | rfl | rfl | rfl | rfl | rfl | rfl : j = 0 \/ j = 1 \/ j = 2 \/ j = 3 \/ j = 4 \/ j = 5 \/ j = 6 \/ j = 7 := (by omega)
               all_goals rfl
              cbv
              replace h := ob_ h
              obtain ⟨y106, hy107, h⟩ := h
              refine ⟨⟨_, _, _, _, _, [(5, 6914), (7, 7232)], [(64000, 7296)]⟩, hfq13 _ _ _ _ hy107, ⟨zs3, ⟨oS, oS, tv⟩, rfl, rfl, rfl, rfl, ⟨evn 64000 rfl, tv⟩, rfl⟩, _, rfl, _, _, rfl, fun _ _ _ _ => .refl _, ?_⟩
              cbv
              refine And.intro (by subst hA; have p := ix c17; first | exact p | exact ⟨p, tv⟩ | exact ⟨p, trivial, tv⟩) ?_
              refine ⟨_, rfl, _, (pC (row GD (oC LEN GD) y1.fC) (A.nadd 0 (A.toN a1.fc)) [ws (GD y1.fC (A.nadd 0 (A.toN a1.fc))).fN, .ow (LEN (GD y1.fC (A.nadd 0 (A.toN a1.fc))).fS) 5 (row GD (eS) (GD y1.fC (A.nadd 0 (A.toN a1.fc))).fS), .ow (LEN (GD y1.fC (A.nadd 0 (A.toN a1.fc))).fL) 4 (row GD (eL) (GD y1.fC (A.nadd 0 (A.toN a1.fc))).fL), .os 7296 0 (LEN y106)]), rfl, wkOf ?_, ?_⟩
              ·first | refine patch_of2 ?_ | refine patch_of2K (fun _ _ => rC _ _) ?_
               intro j hj
               match j, hj with | 0, _ => (rfl) | 1, _ => (rfl) | 2, _ => (rfl) | 3, _ => (rfl) | (j_ + 4), h_ => omega
              cbv
              replace h := ol h
              obtain ⟨l108, hl108, h⟩ := h
              injection h with h
              subst h
              subst hS102
              refine St.le_trans (le_foldP 512 3 7296 rfl rfl rfl (by decide) (by subst hA; exact ix c17) (by decide) rfl (fun _ _ => rC _ _)) ?_
              exact lsp rfl zl2 ⟨rfl, rfl, ⟨fun hw => hw, fun c hc => (by cases hc), .inr (fun i _ j _ z hz => (noref (rC _ _) hz).elim), rfl, rfl, (by subst hGD hLEN hA; exact patch_set hl108 (ix c17) (by intro j hj; match j, hj with | 0, _ => rfl | 1, _ => rfl | 2, _ => rfl | 3, _ => rfl | (j_ + 4), h_ => omega))⟩, tv⟩ rfl
             ·clear hy98
              subst hS102
              replace h := ol h
              obtain ⟨w103, hw103, h⟩ := h
              have hw103 : w103 = y97 := hw103
              subst hw103
              cbv
              injection h with h
              subst h
              subst hS95
              exact lsp rfl zl2 ⟨rfl, rfl, oS, tv⟩ rfl
            ·replace h := og b143 h
             cbv
             replace h := ob_ h
             obtain ⟨y109, hy110, h⟩ := h
             obtain ⟨S113, hS114⟩ : ∃ S, S = some (sp 137 [(4, .c (.ptr 256 0)), (5, .c (.ptr 320 0))] [(256, .var [.v (.slice none 0 0)]), (320, .var [.os 512 0 (LEN y1.fC)]), (512, .arr .rw [] (LEN y1.fC) 4 (row GD (oC LEN GD) y109))]) := ⟨_, rfl⟩
             refine ⟨S113, ?_, ?_⟩
             ·clear h
              have h := hy110
              clear hy110
              cbv
              refine fork (fun b142 => ?_) (fun b142 => ?_)
              ·replace h := ot b142 h
               cbv
               replace h := ob_ h
               obtain ⟨y116, hy117, h⟩ := h
               obtain ⟨S120, hS121⟩ : ∃ S, S = (sp 137 [(4, .c (.ptr 256 0)), (5, .c (.ptr 320 0))] [(256, .var [.v (.slice none 0 0)]), (320, .var [.os 512 0 (LEN y1.fC)]), (512, .arr .rw [] (LEN y1.fC) 4 (row GD (oC LEN GD) y116))]) := ⟨_, rfl⟩
               refine ⟨S120, ?_, ?_⟩
               ·clear h
                have h := hy117
                clear hy117
                cbv
                refine And.intro (by subst hA; have p := ix c17; first | exact p | exact ⟨p, tv⟩ | exact ⟨p, trivial, tv⟩) ?_
                refine ⟨_, rfl, _, (pC (row GD (oC LEN GD) y1.fC) (A.nadd 0 (A.toN a1.fc)) [ws (GD y1.fC (A.nadd 0 (A.toN a1.fc))).fN, .ow (LEN (GD y1.fC (A.nadd 0 (A.toN a1.fc))).fS) 5 (row GD (eS) (GD y1.fC (A.nadd 0 (A.toN a1.fc))).fS), .ow (LEN (GD y1.fC (A.nadd 0 (A.toN a1.fc))).fL) 4 (row GD (eL) (GD y1.fC (A.nadd 0 (A.toN a1.fc))).fL), .os 7874 0 (LEN (GD y1.fC (A.nadd 0 (A.toN a1.fc))).fI)]), rfl, wkOf ?_, ?_⟩
                ·refine patch_of ?_
                 intro j hj
                 match j, hj with | 0, _ => (rfl) | 1, _ => (rfl) | 2, _ => (rfl) | 3, _ => (rfl) | (j_ + 4), h_ => omega
                refine ⟨_, row GD (eI) (GD y1.fC (A.nadd 0 (A.toN a1.fc))).fI, rfl, wkOf ?_, ?_⟩
                ·exact fun i _ j _ => plain_cp (pl_encInstance _ _)
                cbv
                replace h := ob_ h
                obtain ⟨y123, hy124, h⟩ := h
                refine ⟨⟨_, _, _, _, _, [(5, 7874)], [(64000, 8064)]⟩, hfq63 _ _ _ hy124, ⟨zs2, ⟨oS, tv⟩, rfl, rfl, rfl, rfl, ⟨evn 64000 rfl, tv⟩, rfl⟩, _, rfl, _, _, rfl, fun _ _ _ _ => .refl _, ?_⟩
                cbv
                refine And.intro (by subst hA; have p := ix c17; first | exact p | exact ⟨p, tv⟩ | exact ⟨p, trivial, tv⟩) ?_
                refine ⟨_, rfl, _, (pC (row GD (oC LEN GD) y1.fC) (A.nadd 0 (A.toN a1.fc)) [ws (GD y1.fC (A.nadd 0 (A.toN a1.fc))).fN, .ow (LEN (GD y1.fC (A.nadd 0 (A.toN a1.fc))).fS) 5 (row GD (eS) (GD y1.fC (A.nadd 0 (A.toN a1.fc))).fS), .ow (LEN (GD y1.fC (A.nadd 0 (A.toN a1.fc))).fL) 4 (row GD (eL) (GD y1.fC (A.nadd 0 (A.toN a1.fc))).fL), .os 8064 0 (LEN y123)]), rfl, wkOf ?_, ?_⟩
                ·first | refine patch_of2 ?_ | refine patch_of2K (fun _ _ => rC _ _) ?_
                 intro j hj
                 match j, hj with | 0, _ => (rfl) | 1, _ => (rfl) | 2, _ => (rfl) | 3, _ => (rfl) | (j_ + 4), h_ => omega
                cbv
                replace h := ol h
                obtain ⟨l125, hl125, h⟩ := h
                injection h with h
                subst h
                subst hS121
                refine St.le_trans (le_foldP 512 3 8064 rfl rfl rfl (by decide) (by subst hA; exact ix c17) (by decide) rfl (fun _ _ => rC _ _)) ?_
                exact lsp rfl zl2 ⟨rfl, rfl, ⟨fun hw => hw, fun c hc => (by cases hc), .inr (fun i _ j _ z hz => (noref (rC _ _) hz).elim), rfl, rfl, (by subst hGD hLEN hA; exact patch_set hl125 (ix c17) (by intro j hj; match j, hj with | 0, _ => rfl | 1, _ => rfl | 2, _ => rfl | 3, _ => rfl | (j_ + 4), h_ => omega))⟩, tv⟩ rfl
               ·clear hy117
                subst hS121
                replace h := ol h
                obtain ⟨w122, hw122, h⟩ := h
                have hw122 : w122 = y116 := hw122
                subst hw122
                cbv
                injection h with h
                subst h
                subst hS114
                exact lsp rfl zl2 ⟨rfl, rfl, oS, tv⟩ rfl
              ·replace h := og b142 h
               cbv
               replace h := ob_ h
               obtain ⟨y126, hy127, h⟩ := h
               obtain ⟨S130, hS131⟩ : ∃ S, S = some (sp 137 [(4, .c (.ptr 256 0)), (5, .c (.ptr 320 0))] [(256, .var [.v (.slice none 0 0)]), (320, .var [.os 512 0 (LEN y1.fC)]), (512, .arr .rw [] (LEN y1.fC) 4 (row GD (oC LEN GD) y126))]) := ⟨_, rfl⟩
               refine ⟨S130, ?_, ?_⟩
               ·clear h
                have h := hy127
                clear hy127
                cbv
                refine fork (fun b141 => ?_) (fun b141 => ?_)
                ·replace h := ot b141 h
                 cbv
                 replace h := ob_ h
                 obtain ⟨y133, hy134, h⟩ := h
                 obtain ⟨S137, hS138⟩ : ∃ S, S = (sp 137 [(4, .c (.ptr 256 0)), (5, .c (.ptr 320 0))] [(256, .var [.v (.slice none 0 0)]), (320, .var [.os 512 0 (LEN y1.fC)]), (512, .arr .rw [] (LEN y1.fC) 4 (row GD (oC LEN GD) y133))]) := ⟨_, rfl⟩
                 refine ⟨S137, ?_, ?_⟩
                 ·clear h
                  have h := hy134
                  clear hy134
                  cbv
                  refine And.intro (by subst hA; have p := ix c17; first | exact p | exact ⟨p, tv⟩ | exact ⟨p, trivial, tv⟩) ?_
                  refine ⟨_, rfl, _, (pC (row GD (oC LEN GD) y1.fC) (A.nadd 0 (A.toN a1.fc)) [ws a1.fN, .ow (LEN (GD y1.fC (A.nadd 0 (A.toN a1.fc))).fS) 5 (row GD (eS) (GD y1.fC (A.nadd 0 (A.toN a1.fc))).fS), .ow (LEN (GD y1.fC (A.nadd 0 (A.toN a1.fc))).fL) 4 (row GD (eL) (GD y1.fC (A.nadd 0 (A.toN a1.fc))).fL), .ow (LEN (GD y1.fC (A.nadd 0 (A.toN a1.fc))).fI) 8 (row GD (eI) (GD y1.fC (A.nadd 0 (A.toN a1.fc))).fI)]), rfl, wkOf ?_, ?_⟩
                  ·refine patch_of ?_
                   intro j hj
                   match j, hj with | 0, _ => (rfl) | 1, _ => (rfl) | 2, _ => (rfl) | 3, _ => (rfl) | (j_ + 4), h_ => omega
                  cbv
                  replace h := ol h
                  obtain ⟨l140, hl140, h⟩ := h
                  injection h with h
                  subst h
                  subst hS138
                  exact lsp rfl zl2 ⟨rfl, rfl, ⟨fun hw => hw, fun c hc => (by cases hc), .inr (fun i _ j _ z hz => (noref (rC _ _) hz).elim), rfl, rfl, (by subst hGD hLEN hA; exact patch_set hl140 (ix c17) (by intro j hj; match j, hj with | 0, _ => rfl | 1, _ => rfl | 2, _ => rfl | 3, _ => rfl | (j_ + 4), h_ => omega))⟩, tv⟩ rfl
                 ·clear hy134
                  subst hS138
                  replace h := ol h
                  obtain ⟨w139, hw139, h⟩ := h
                  have hw139 : w139 = y133 := hw139
                  subst hw139
                  cbv
                  injection h with h
                  subst h
                  subst hS131
                  exact lsp rfl zl2 ⟨rfl, rfl, oS, tv⟩ rfl
                ·replace h := og b141 h
                 cbv
                 injection h with h
                 subst h
                 subst hS131
                 exact lsp rfl zl2 ⟨rfl, rfl, oS, tv⟩ rfl
               ·clear hy127
                subst hS131
                replace h := ol h
                obtain ⟨w132, hw132, h⟩ := h
                have hw132 : w132 = y126 := hw132
                subst hw132
                cbv
                injection h with h
                subst h
                subst hS114
                exact lsp rfl zl2 ⟨rfl, rfl, oS, tv⟩ rfl
             ·clear hy110
              subst hS114
              replace h := ol h
              obtain ⟨w115, hw115, h⟩ := h
              have hw115 : w115 = y109 := hw115
              subst hw115
              cbv
              injection h with h
              subst h
              subst hS95
              exact lsp rfl zl2 ⟨rfl, rfl, oS, tv⟩ rfl
           ·clear hy91
            subst hS95
            replace h := ol h
            obtain ⟨w96, hw96, h⟩ := h
            have hw96 : w96 = y90 := hw96
            subst hw96
            cbv
            injection h with h
            subst h
            subst hS78
            exact lsp rfl zl2 ⟨rfl, rfl, oS, tv⟩ rfl
         ·clear hy74
          subst hS78
          replace h := ol h
          obtain ⟨w79, hw79, h⟩ := h
          have hw79 : w79 = y73 := hw79
          subst hw79
          cbv
          injection h with h
          subst h
          subst hS59
          exact lsp rfl zl2 ⟨rfl, rfl, oS, tv⟩ rfl
       ·clear hy55
        subst hS59
        replace h := ol h
        obtain ⟨w60, hw60, h⟩ := h
        have hw60 : w60 = y54 := hw60
        subst hw60
        cbv
        injection h with h
        subst h
        subst hS42
        exact lsp rfl zl2 ⟨rfl, rfl, oS, tv⟩ rfl
     ·clear hy38
      subst hS42
      replace h := ol h
      obtain ⟨w43, hw43, h⟩ := h
      have hw43 : w43 = y37 := hw43
      subst hw43
      cbv
      injection h with h
      subst h
      subst hS23
      exact lsp rfl zl2 ⟨rfl, rfl, oS, tv⟩ rfl
   ·clear hy19
    subst hS23
    replace h := ol h
    obtain ⟨w24, hw24, h⟩ := h
    have hw24 : w24 = y18 := hw24
    subst hw24
    cbv
    replace h := oq_ h
    obtain ⟨c148, h⟩ := h
    injection h with h
    subst h
    refine ⟨(sp 137 [(4, .c (.ptr 256 0))] [(256, .var [.os 64000 0 (LEN w24)]), (64000, .arr .rw [] (LEN w24) 4 (row GD (oC LEN GD) w24))]), ?_, ?_⟩
    ·refine St.le_trans (le_ren 512 64000 (by decide) rfl) ?_
     rw [c148]
     exact lsp rfl zl1 ⟨rfl, oS, tv⟩ rfl
    ·exact ⟨lR _, ⟨oS, tv⟩, rfl⟩

/-- impl.ApplyEdit -/
def Fq47 (a0 : TL) (a1 : TE) : Option (TL × Int) :=
 (Fq35 a0 a1).bind fun y1 =>
 br (std.not (std.eq y1 0))
 (some ((TL.mk ([] : List TC)), y1))
 ((Fq80 a0 a1).bind fun y3 =>
 some (y3, (0 : Int)))
theorem runq47 (a0 : TL) (a1 : TE) (r : TL × Int) (h : Fq47 a0 a1 = some r) : Fun Tryz.prog 19 [.agg [.bs (len a0.fC) 4 (row gd (eC len gd) a0.fC)], .agg (cE a1)] [] (.tup [.agg [.os 64000 0 (len r.1.fC)], .c (wi r.2)]) [(64000, .arr .rw [] (len r.1.fC) 4 (row gd (oC len gd) r.1.fC))] true := by
 refine Fun.of_wp (oneOf []) tok mixed Tryz.func19 (by kernel_rfl) rfl Tryz.ntmps19 rfl trivial (fun _ => ⟨(by simp [AV.flat, AV.flat1, AC.flat]), ⟨fun i _ j _ => fl_oncCell _ _, tv⟩⟩) ?_
 unfold Fq47 at h
 have hfq35 := @runq35
 have hfq80 := @runq80
 generalize hLEN : @len = LEN, hGD : @gd = GD, hA : std = A, hP : Tryz.prog = P at *
 cbv
 replace h := ob_ h
 obtain ⟨y1, hy2, h⟩ := h
 refine ⟨⟨_, _, _, _, _, [], []⟩, hfq35 _ _ _ hy2, ⟨zs2, trivial, rfl, rfl, rfl, rfl, trivial, rfl⟩, ?_⟩
 cbv
 refine fork (fun b5 => ?_) (fun b5 => ?_)
 ·replace h := ot b5 h
  cbv
  injection h with h
  subst h
  refine ⟨(sp 17 [(4, .c (.ptr 256 0)), (5, .c (wi y1))] [(256, .var [.os 64000 0 (LEN ([] : List TC))]), (64000, .arr .rw [] (LEN ([] : List TC)) 4 (row GD (oC LEN GD) ([] : List TC)))]), ?_, ?_⟩
  ·refine St.le_trans (le_nilV 256 0 64000 4 (row GD (oC LEN GD) ([] : List TC)) (by decide) (by decide) rfl rfl) ?_
   subst hLEN
   exact lsp rfl zl2 ⟨rfl, oS, tv⟩ rfl
  ·subst hLEN
   exact ⟨lR _, ⟨oS, tv⟩, rfl⟩
 ·replace h := og b5 h
  cbv
  replace h := ob_ h
  obtain ⟨y3, hy4, h⟩ := h
  refine ⟨⟨_, _, _, _, _, [], [(64000, 1024)]⟩, hfq80 _ _ _ hy4, ⟨zs2, trivial, rfl, rfl, rfl, rfl, ⟨evn 64000 rfl, tv⟩, rfl⟩, _, rfl, _, _, rfl, fun _ _ _ _ => .refl _, ?_⟩
  cbv
  injection h with h
  subst h
  refine ⟨(sp 17 [(4, .c (.ptr 256 0)), (5, .c (wi 0))] [(256, .var [.os 64000 0 (LEN y3.fC)]), (64000, .arr .rw [] (LEN y3.fC) 4 (row GD (oC LEN GD) y3.fC))]), ?_, ?_⟩
  ·refine St.le_trans (le_ren 1024 64000 (by decide) rfl) ?_
   exact lsp rfl zl2 ⟨rfl, oS, tv⟩ rfl
  ·exact ⟨lR _, ⟨oS, tv⟩, rfl⟩
set_option maxHeartbeats 4000000
/-- impl.inverse -/
def Fq42 (a0 : TL) (a1 : TE) : Option (TE) :=
 ((
 br (std.eq a1.fk 1)
 (some (2, (ByteArray.mk #[]), 0, 0, 0, 0, 0, 0, 0, 0, (ByteArray.mk #[]), 0, 0, 0, 0, 0, 0, 0, 0))
 (((
 br (std.eq a1.fk 2)
 (req (std.inR a1.fc (len a0.fC)) <|
 req (std.inR a1.fx (len (gd a0.fC (std.toN a1.fc)).fS)) <|
 some (1, (gd (gd a0.fC (std.toN a1.fc)).fS (std.toN a1.fx)).fy, (gd (gd a0.fC (std.toN a1.fc)).fS (std.toN a1.fx)).fb.fX0, (gd (gd a0.fC (std.toN a1.fc)).fS (std.toN a1.fx)).fb.fY0, (gd (gd a0.fC (std.toN a1.fc)).fS (std.toN a1.fx)).fb.fX1, (gd (gd a0.fC (std.toN a1.fc)).fS (std.toN a1.fx)).fb.fY1, (ByteArray.mk #[]), 0, 0, 0, (ByteArray.mk #[]), 0, 0, 0, 0, 0, 0, 0, 0))
 (((
 br (std.eq a1.fk 3)
 (some (4, (ByteArray.mk #[]), 0, 0, 0, (ByteArray.mk #[]), 0, 0, 0, 0, 0, 0, 0, 0))
 (((
 br (std.eq a1.fk 4)
 (req (std.inR a1.fc (len a0.fC)) <|
 req (std.inR a1.fx (len (gd a0.fC (std.toN a1.fc)).fL)) <|
 some (3, (gd (gd a0.fC (std.toN a1.fc)).fL (std.toN a1.fx)).fy, (gd (gd a0.fC (std.toN a1.fc)).fL (std.toN a1.fx)).fa.fX, (gd (gd a0.fC (std.toN a1.fc)).fL (std.toN a1.fx)).fa.fY, (gd (gd a0.fC (std.toN a1.fc)).fL (std.toN a1.fx)).fN, (ByteArray.mk #[]), 0, 0, 0, 0, 0, 0, 0, 0))
 (((
 br (std.eq a1.fk 5)
 (some (6, (ByteArray.mk #[]), 0, 0, 0, 0, 0, 0, 0, 0))
 (((
 br (std.eq a1.fk 6)
 (req (std.inR a1.fc (len a0.fC)) <|
 req (std.inR a1.fx (len (gd a0.fC (std.toN a1.fc)).fI)) <|
 some (5, (gd (gd a0.fC (std.toN a1.fc)).fI (std.toN a1.fx)).fc, (gd (gd a0.fC (std.toN a1.fc)).fI (std.toN a1.fx)).fp.fo, (gd (gd a0.fC (std.toN a1.fc)).fI (std.toN a1.fx)).fp.fX, (gd (gd a0.fC (std.toN a1.fc)).fI (std.toN a1.fx)).fp.fY, (gd (gd a0.fC (std.toN a1.fc)).fI (std.toN a1.fx)).fK, (gd (gd a0.fC (std.toN a1.fc)).fI (std.toN a1.fx)).fR, (gd (gd a0.fC (std.toN a1.fc)).fI (std.toN a1.fx)).fu, (gd (gd a0.fC (std.toN a1.fc)).fI (std.toN a1.fx)).fv, (ByteArray.mk #[])))
 (((
 br (std.eq a1.fk 7)
 (req (std.inR a1.fc (len a0.fC)) <|
 some (7, (gd a0.fC (std.toN a1.fc)).fN))
 (((
 br (std.eq a1.fk 8)
 (some (9, (ByteArray.mk #[])))
 (((
 br (std.eq a1.fk 9)
 (req (std.inR a1.fc (len a0.fC)) <|
 some (8, (gd a0.fC (std.toN a1.fc)).fN))
 (some (0, (ByteArray.mk #[])))
 ) : Option (Int × ByteArray)).bind fun y146 =>
 letO y146.1 fun w152 =>
 letO y146.2 fun w153 =>
 some (w152, w153))
 ) : Option (Int × ByteArray)).bind fun y138 =>
 letO y138.1 fun w144 =>
 letO y138.2 fun w145 =>
 some (w144, w145))
 ) : Option (Int × ByteArray)).bind fun y129 =>
 letO y129.1 fun w135 =>
 letO y129.2 fun w136 =>
 some (w135, 0, 0, 0, 0, 0, 0, 0, 0, w136))
 ) : Option (Int × Int × Int × Int × Int × Int × Int × Int × Int × ByteArray)).bind fun y111 =>
 letO y111.1 fun w117 =>
 letO y111.2.1 fun w118 =>
 letO y111.2.2.1 fun w119 =>
 letO y111.2.2.2.1 fun w120 =>
 letO y111.2.2.2.2.1 fun w121 =>
 letO y111.2.2.2.2.2.1 fun w122 =>
 letO y111.2.2.2.2.2.2.1 fun w123 =>
 letO y111.2.2.2.2.2.2.2.1 fun w124 =>
 letO y111.2.2.2.2.2.2.2.2.1 fun w125 =>
 letO y111.2.2.2.2.2.2.2.2.2 fun w126 =>
 some (w117, w126, w118, w119, w120, w121, w122, w123, w124, w125))
 ) : Option (Int × ByteArray × Int × Int × Int × Int × Int × Int × Int × Int)).bind fun y95 =>
 letO y95.1 fun w101 =>
 letO y95.2.1 fun w102 =>
 letO y95.2.2.1 fun w103 =>
 letO y95.2.2.2.1 fun w104 =>
 letO y95.2.2.2.2.1 fun w105 =>
 letO y95.2.2.2.2.2.1 fun w106 =>
 letO y95.2.2.2.2.2.2.1 fun w107 =>
 letO y95.2.2.2.2.2.2.2.1 fun w108 =>
 letO y95.2.2.2.2.2.2.2.2.1 fun w109 =>
 letO y95.2.2.2.2.2.2.2.2.2 fun w110 =>
 some (w101, 0, 0, 0, (ByteArray.mk #[]), w102, w103, w104, w105, w106, w107, w108, w109, w110))
 ) : Option (Int × Int × Int × Int × ByteArray × ByteArray × Int × Int × Int × Int × Int × Int × Int × Int)).bind fun y73 =>
 letO y73.1 fun w79 =>
 letO y73.2.1 fun w80 =>
 letO y73.2.2.1 fun w81 =>
 letO y73.2.2.2.1 fun w82 =>
 letO y73.2.2.2.2.1 fun w83 =>
 letO y73.2.2.2.2.2.1 fun w84 =>
 letO y73.2.2.2.2.2.2.1 fun w85 =>
 letO y73.2.2.2.2.2.2.2.1 fun w86 =>
 letO y73.2.2.2.2.2.2.2.2.1 fun w87 =>
 letO y73.2.2.2.2.2.2.2.2.2.1 fun w88 =>
 letO y73.2.2.2.2.2.2.2.2.2.2.1 fun w89 =>
 letO y73.2.2.2.2.2.2.2.2.2.2.2.1 fun w90 =>
 letO y73.2.2.2.2.2.2.2.2.2.2.2.2.1 fun w91 =>
 letO y73.2.2.2.2.2.2.2.2.2.2.2.2.2 fun w92 =>
 some (w79, w84, w80, w81, w82, w83, w85, w86, w87, w88, w89, w90, w91, w92))
 ) : Option (Int × ByteArray × Int × Int × Int × ByteArray × Int × Int × Int × Int × Int × Int × Int × Int)).bind fun y53 =>
 letO y53.1 fun w59 =>
 letO y53.2.1 fun w60 =>
 letO y53.2.2.1 fun w61 =>
 letO y53.2.2.2.1 fun w62 =>
 letO y53.2.2.2.2.1 fun w63 =>
 letO y53.2.2.2.2.2.1 fun w64 =>
 letO y53.2.2.2.2.2.2.1 fun w65 =>
 letO y53.2.2.2.2.2.2.2.1 fun w66 =>
 letO y53.2.2.2.2.2.2.2.2.1 fun w67 =>
 letO y53.2.2.2.2.2.2.2.2.2.1 fun w68 =>
 letO y53.2.2.2.2.2.2.2.2.2.2.1 fun w69 =>
 letO y53.2.2.2.2.2.2.2.2.2.2.2.1 fun w70 =>
 letO y53.2.2.2.2.2.2.2.2.2.2.2.2.1 fun w71 =>
 letO y53.2.2.2.2.2.2.2.2.2.2.2.2.2 fun w72 =>
 some (w59, 0, 0, 0, 0, 0, w60, w61, w62, w63, w64, w65, w66, w67, w68, w69, w70, w71, w72))
 ) : Option (Int × Int × Int × Int × Int × Int × ByteArray × Int × Int × Int × ByteArray × Int × Int × Int × Int × Int × Int × Int × Int)).bind fun y26 =>
 letO y26.1 fun w32 =>
 letO y26.2.1 fun w33 =>
 letO y26.2.2.1 fun w34 =>
 letO y26.2.2.2.1 fun w35 =>
 letO y26.2.2.2.2.1 fun w36 =>
 letO y26.2.2.2.2.2.1 fun w37 =>
 letO y26.2.2.2.2.2.2.1 fun w38 =>
 letO y26.2.2.2.2.2.2.2.1 fun w39 =>
 letO y26.2.2.2.2.2.2.2.2.1 fun w40 =>
 letO y26.2.2.2.2.2.2.2.2.2.1 fun w41 =>
 letO y26.2.2.2.2.2.2.2.2.2.2.1 fun w42 =>
 letO y26.2.2.2.2.2.2.2.2.2.2.2.1 fun w43 =>
 letO y26.2.2.2.2.2.2.2.2.2.2.2.2.1 fun w44 =>
 letO y26.2.2.2.2.2.2.2.2.2.2.2.2.2.1 fun w45 =>
 letO y26.2.2.2.2.2.2.2.2.2.2.2.2.2.2.1 fun w46 =>
 letO y26.2.2.2.2.2.2.2.2.2.2.2.2.2.2.2.1 fun w47 =>
 letO y26.2.2.2.2.2.2.2.2.2.2.2.2.2.2.2.2.1 fun w48 =>
 letO y26.2.2.2.2.2.2.2.2.2.2.2.2.2.2.2.2.2.1 fun w49 =>
 letO y26.2.2.2.2.2.2.2.2.2.2.2.2.2.2.2.2.2.2 fun w50 =>
 some (w32, w38, w33, w34, w35, w36, w37, w39, w40, w41, w42, w43, w44, w45, w46, w47, w48, w49, w50))
 ) : Option (Int × ByteArray × Int × Int × Int × Int × Int × Int × Int × Int × ByteArray × Int × Int × Int × Int × Int × Int × Int × Int)).bind fun y1 =>
 letO y1.1 fun w7 =>
 letO y1.2.1 fun w8 =>
 letO y1.2.2.1 fun w9 =>
 letO y1.2.2.2.1 fun w10 =>
 letO y1.2.2.2.2.1 fun w11 =>
 letO y1.2.2.2.2.2.1 fun w12 =>
 letO y1.2.2.2.2.2.2.1 fun w13 =>
 letO y1.2.2.2.2.2.2.2.1 fun w14 =>
 letO y1.2.2.2.2.2.2.2.2.1 fun w15 =>
 letO y1.2.2.2.2.2.2.2.2.2.1 fun w16 =>
 letO y1.2.2.2.2.2.2.2.2.2.2.1 fun w17 =>
 letO y1.2.2.2.2.2.2.2.2.2.2.2.1 fun w18 =>
 letO y1.2.2.2.2.2.2.2.2.2.2.2.2.1 fun w19 =>
 letO y1.2.2.2.2.2.2.2.2.2.2.2.2.2.1 fun w20 =>
 letO y1.2.2.2.2.2.2.2.2.2.2.2.2.2.2.1 fun w21 =>
 letO y1.2.2.2.2.2.2.2.2.2.2.2.2.2.2.2.1 fun w22 =>
 letO y1.2.2.2.2.2.2.2.2.2.2.2.2.2.2.2.2.1 fun w23 =>
 letO y1.2.2.2.2.2.2.2.2.2.2.2.2.2.2.2.2.2.1 fun w24 =>
 letO y1.2.2.2.2.2.2.2.2.2.2.2.2.2.2.2.2.2.2 fun w25 =>
 some (TE.mk w7 a1.fc a1.fx w8 (TS.mk w9 (TRect.mk w10 w11 w12 w13)) (TB.mk w14 (TPoint.mk w15 w16) w17) (TI.mk w18 (TM.mk w19 w20 w21) w22 w23 w24 w25))
theorem runq42 (a0 : TL) (a1 : TE) (r : TE) (h : Fq42 a0 a1 = some r) : Fun Tryz.prog 92 [.agg [.bs (len a0.fC) 4 (row gd (eC len gd) a0.fC)], .agg (cE a1)] [] (.agg (cE r)) [] true := by
 refine Fun.of_wp (oneOf [100013, 100016, 100031, 100034, 100049, 100052, 100067, 100078, 100081]) tok mixed Tryz.func92 (by kernel_rfl) rfl Tryz.ntmps92 rfl trivial (fun _ => ⟨(by simp [AV.flat, AV.flat1, AC.flat]), tv⟩) ?_
 unfold Fq42 at h
 generalize hLEN : @len = LEN, hGD : @gd = GD, hA : std = A, hP : Tryz.prog = P at *
 cbv
 replace h := ob_ h
 obtain ⟨y1, hy2, h⟩ := h
 obtain ⟨S5, hS6⟩ : ∃ S, S = some (sp 93 [(4, .c (.ptr 256 0)), (5, .c (.ptr 320 0))] [(256, .var [wi 0, wi 0, wi 0, ws (ByteArray.mk #[]), wi 0, wi 0, wi 0, wi 0, wi 0, wi 0, wi 0, wi 0, ws (ByteArray.mk #[]), wi 0, wi 0, wi 0, wi 0, wi 0, wi 0, wi 0, wi 0]), (320, .var [wi y1.1, wi a1.fc, wi a1.fx, ws y1.2.1, wi y1.2.2.1, wi y1.2.2.2.1, wi y1.2.2.2.2.1, wi y1.2.2.2.2.2.1, wi y1.2.2.2.2.2.2.1, wi y1.2.2.2.2.2.2.2.1, wi y1.2.2.2.2.2.2.2.2.1, wi y1.2.2.2.2.2.2.2.2.2.1, ws y1.2.2.2.2.2.2.2.2.2.2.1, wi y1.2.2.2.2.2.2.2.2.2.2.2.1, wi y1.2.2.2.2.2.2.2.2.2.2.2.2.1, wi y1.2.2.2.2.2.2.2.2.2.2.2.2.2.1, wi y1.2.2.2.2.2.2.2.2.2.2.2.2.2.2.1, wi y1.2.2.2.2.2.2.2.2.2.2.2.2.2.2.2.1, wi y1.2.2.2.2.2.2.2.2.2.2.2.2.2.2.2.2.1, wi y1.2.2.2.2.2.2.2.2.2.2.2.2.2.2.2.2.2.1, wi y1.2.2.2.2.2.2.2.2.2.2.2.2.2.2.2.2.2.2])]) := ⟨_, rfl⟩
 refine ⟨S5, ?_, ?_⟩
 ·clear h
  have h := hy2
  clear hy2
  cbv
  refine fork (fun b163 => ?_) (fun b163 => ?_)
  ·replace h := ot b163 h
   cbv
   injection h with h
   subst h
   subst hS6
   exact lsp rfl zl2 ⟨rfl, rfl, tv⟩ rfl
  ·replace h := og b163 h
   cbv
   replace h := ob_ h
   obtain ⟨y26, hy27, h⟩ := h
   obtain ⟨S30, hS31⟩ : ∃ S, S = some (sp 93 [(4, .c (.ptr 256 0)), (5, .c (.ptr 320 0))] [(256, .var [wi 0, wi 0, wi 0, ws (ByteArray.mk #[]), wi 0, wi 0, wi 0, wi 0, wi 0, wi 0, wi 0, wi 0, ws (ByteArray.mk #[]), wi 0, wi 0, wi 0, wi 0, wi 0, wi 0, wi 0, wi 0]), (320, .var [wi y26.1, wi a1.fc, wi a1.fx, ws y26.2.2.2.2.2.2.1, wi y26.2.1, wi y26.2.2.1, wi y26.2.2.2.1, wi y26.2.2.2.2.1, wi y26.2.2.2.2.2.1, wi y26.2.2.2.2.2.2.2.1, wi y26.2.2.2.2.2.2.2.2.1, wi y26.2.2.2.2.2.2.2.2.2.1, ws y26.2.2.2.2.2.2.2.2.2.2.1, wi y26.2.2.2.2.2.2.2.2.2.2.2.1, wi y26.2.2.2.2.2.2.2.2.2.2.2.2.1, wi y26.2.2.2.2.2.2.2.2.2.2.2.2.2.1, wi y26.2.2.2.2.2.2.2.2.2.2.2.2.2.2.1, wi y26.2.2.2.2.2.2.2.2.2.2.2.2.2.2.2.1, wi y26.2.2.2.2.2.2.2.2.2.2.2.2.2.2.2.2.1, wi y26.2.2.2.2.2.2.2.2.2.2.2.2.2.2.2.2.2.1, wi y26.2.2.2.2.2.2.2.2.2.2.2.2.2.2.2.2.2.2])]) := ⟨_, rfl⟩
   refine ⟨S30, ?_, ?_⟩
   ·clear h
    have h := hy27
    clear hy27
    cbv
    refine fork (fun b162 => ?_) (fun b162 => ?_)
    ·replace h := ot b162 h
     cbv
     replace h := oq_ h
     obtain ⟨c51, h⟩ := h
     refine ⟨⟨c51, tv⟩, ?_⟩
     replace h := oq_ h
     obtain ⟨c52, h⟩ := h
     refine ⟨⟨c52, tv⟩, ?_⟩
     injection h with h
     subst h
     subst hS31
     exact lsp rfl zl2 ⟨rfl, rfl, tv⟩ rfl
    ·replace h := og b162 h
     cbv
     replace h := ob_ h
     obtain ⟨y53, hy54, h⟩ := h
     obtain ⟨S57, hS58⟩ : ∃ S, S = some (sp 93 [(4, .c (.ptr 256 0)), (5, .c (.ptr 320 0))] [(256, .var [wi 0, wi 0, wi 0, ws (ByteArray.mk #[]), wi 0, wi 0, wi 0, wi 0, wi 0, wi 0, wi 0, wi 0, ws (ByteArray.mk #[]), wi 0, wi 0, wi 0, wi 0, wi 0, wi 0, wi 0, wi 0]), (320, .var [wi y53.1, wi a1.fc, wi a1.fx, ws y53.2.1, wi 0, wi 0, wi 0, wi 0, wi 0, wi y53.2.2.1, wi y53.2.2.2.1, wi y53.2.2.2.2.1, ws y53.2.2.2.2.2.1, wi y53.2.2.2.2.2.2.1, wi y53.2.2.2.2.2.2.2.1, wi y53.2.2.2.2.2.2.2.2.1, wi y53.2.2.2.2.2.2.2.2.2.1, wi y53.2.2.2.2.2.2.2.2.2.2.1, wi y53.2.2.2.2.2.2.2.2.2.2.2.1, wi y53.2.2.2.2.2.2.2.2.2.2.2.2.1, wi y53.2.2.2.2.2.2.2.2.2.2.2.2.2])]) := ⟨_, rfl⟩
     refine ⟨S57, ?_, ?_⟩
     ·clear h
      have h := hy54
      clear hy54
      cbv
      refine fork (fun b161 => ?_) (fun b161 => ?_)
      ·replace h := ot b161 h
       cbv
       injection h with h
       subst h
       subst hS58
       exact lsp rfl zl2 ⟨rfl, rfl, tv⟩ rfl
      ·replace h := og b161 h
       cbv
       replace h := ob_ h
       obtain ⟨y73, hy74, h⟩ := h
       obtain ⟨S77, hS78⟩ : ∃ S, S = some (sp 93 [(4, .c (.ptr 256 0)), (5, .c (.ptr 320 0))] [(256, .var [wi 0, wi 0, wi 0, ws (ByteArray.mk #[]), wi 0, wi 0, wi 0, wi 0, wi 0, wi 0, wi 0, wi 0, ws (ByteArray.mk #[]), wi 0, wi 0, wi 0, wi 0, wi 0, wi 0, wi 0, wi 0]), (320, .var [wi y73.1, wi a1.fc, wi a1.fx, ws y73.2.2.2.2.2.1, wi 0, wi 0, wi 0, wi 0, wi 0, wi y73.2.1, wi y73.2.2.1, wi y73.2.2.2.1, ws y73.2.2.2.2.1, wi y73.2.2.2.2.2.2.1, wi y73.2.2.2.2.2.2.2.1, wi y73.2.2.2.2.2.2.2.2.1, wi y73.2.2.2.2.2.2.2.2.2.1, wi y73.2.2.2.2.2.2.2.2.2.2.1, wi y73.2.2.2.2.2.2.2.2.2.2.2.1, wi y73.2.2.2.2.2.2.2.2.2.2.2.2.1, wi y73.2.2.2.2.2.2.2.2.2.2.2.2.2])]) := ⟨_, rfl⟩
       refine ⟨S77, ?_, ?_⟩
       ·clear h
        have h := hy74
        clear hy74
        cbv
        refine fork (fun b160 => ?_) (fun b160 => ?_)
        ·replace h := ot b160 h
         cbv
         replace h := oq_ h
         obtain ⟨c93, h⟩ := h
         refine ⟨⟨c93, tv⟩, ?_⟩
         replace h := oq_ h
         obtain ⟨c94, h⟩ := h
         refine ⟨⟨c94, tv⟩, ?_⟩
         injection h with h
         subst h
         subst hS78
         exact lsp rfl zl2 ⟨rfl, rfl, tv⟩ rfl
        ·replace h := og b160 h
         cbv
         replace h := ob_ h
         obtain ⟨y95, hy96, h⟩ := h
         obtain ⟨S99, hS100⟩ : ∃ S, S = some (sp 93 [(4, .c (.ptr 256 0)), (5, .c (.ptr 320 0))] [(256, .var [wi 0, wi 0, wi 0, ws (ByteArray.mk #[]), wi 0, wi 0, wi 0, wi 0, wi 0, wi 0, wi 0, wi 0, ws (ByteArray.mk #[]), wi 0, wi 0, wi 0, wi 0, wi 0, wi 0, wi 0, wi 0]), (320, .var [wi y95.1, wi a1.fc, wi a1.fx, ws y95.2.1, wi 0, wi 0, wi 0, wi 0, wi 0, wi 0, wi 0, wi 0, ws (ByteArray.mk #[]), wi y95.2.2.1, wi y95.2.2.2.1, wi y95.2.2.2.2.1, wi y95.2.2.2.2.2.1, wi y95.2.2.2.2.2.2.1, wi y95.2.2.2.2.2.2.2.1, wi y95.2.2.2.2.2.2.2.2.1, wi y95.2.2.2.2.2.2.2.2.2])]) := ⟨_, rfl⟩
         refine ⟨S99, ?_, ?_⟩
         ·clear h
          have h := hy96
          clear hy96
          cbv
          refine fork (fun b159 => ?_) (fun b159 => ?_)
          ·replace h := ot b159 h
           cbv
           injection h with h
           subst h
           subst hS100
           exact lsp rfl zl2 ⟨rfl, rfl, tv⟩ rfl
          ·replace h := og b159 h
           cbv
           replace h := ob_ h
           obtain ⟨y111, hy112, h⟩ := h
           obtain ⟨S115, hS116⟩ : ∃ S, S = some (sp 93 [(4, .c (.ptr 256 0)), (5, .c (.ptr 320 0))] [(256, .var [wi 0, wi 0, wi 0, ws (ByteArray.mk #[]), wi 0, wi 0, wi 0, wi 0, wi 0, wi 0, wi 0, wi 0, ws (ByteArray.mk #[]), wi 0, wi 0, wi 0, wi 0, wi 0, wi 0, wi 0, wi 0]), (320, .var [wi y111.1, wi a1.fc, wi a1.fx, ws y111.2.2.2.2.2.2.2.2.2, wi 0, wi 0, wi 0, wi 0, wi 0, wi 0, wi 0, wi 0, ws (ByteArray.mk #[]), wi y111.2.1, wi y111.2.2.1, wi y111.2.2.2.1, wi y111.2.2.2.2.1, wi y111.2.2.2.2.2.1, wi y111.2.2.2.2.2.2.1, wi y111.2.2.2.2.2.2.2.1, wi y111.2.2.2.2.2.2.2.2.1])]) := ⟨_, rfl⟩
           refine ⟨S115, ?_, ?_⟩
           ·clear h
            have h := hy112
            clear hy112
            cbv
            refine fork (fun b158 => ?_) (fun b158 => ?_)
            ·replace h := ot b158 h
             cbv
             replace h := oq_ h
             obtain ⟨c127, h⟩ := h
             refine ⟨⟨c127, tv⟩, ?_⟩
             replace h := oq_ h
             obtain ⟨c128, h⟩ := h
             refine ⟨⟨c128, tv⟩, ?_⟩
             injection h with h
             subst h
             subst hS116
             exact lsp rfl zl2 ⟨rfl, rfl, tv⟩ rfl
            ·replace h := og b158 h
             cbv
             replace h := ob_ h
             obtain ⟨y129, hy130, h⟩ := h
             obtain ⟨S133, hS134⟩ : ∃ S, S = some (sp 93 [(4, .c (.ptr 256 0)), (5, .c (.ptr 320 0))] [(256, .var [wi 0, wi 0, wi 0, ws (ByteArray.mk #[]), wi 0, wi 0, wi 0, wi 0, wi 0, wi 0, wi 0, wi 0, ws (ByteArray.mk #[]), wi 0, wi 0, wi 0, wi 0, wi 0, wi 0, wi 0, wi 0]), (320, .var [wi y129.1, wi a1.fc, wi a1.fx, ws y129.2, wi 0, wi 0, wi 0, wi 0, wi 0, wi 0, wi 0, wi 0, ws (ByteArray.mk #[]), wi 0, wi 0, wi 0, wi 0, wi 0, wi 0, wi 0, wi 0])]) := ⟨_, rfl⟩
             refine ⟨S133, ?_, ?_⟩
             ·clear h
              have h := hy130
              clear hy130
              cbv
              refine fork (fun b157 => ?_) (fun b157 => ?_)
              ·replace h := ot b157 h
               cbv
               replace h := oq_ h
               obtain ⟨c137, h⟩ := h
               refine ⟨⟨c137, tv⟩, ?_⟩
               injection h with h
               subst h
               subst hS134
               exact lsp rfl zl2 ⟨rfl, rfl, tv⟩ rfl
              ·replace h := og b157 h
               cbv
               replace h := ob_ h
               obtain ⟨y138, hy139, h⟩ := h
               obtain ⟨S142, hS143⟩ : ∃ S, S = some (sp 93 [(4, .c (.ptr 256 0)), (5, .c (.ptr 320 0))] [(256, .var [wi 0, wi 0, wi 0, ws (ByteArray.mk #[]), wi 0, wi 0, wi 0, wi 0, wi 0, wi 0, wi 0, wi 0, ws (ByteArray.mk #[]), wi 0, wi 0, wi 0, wi 0, wi 0, wi 0, wi 0, wi 0]), (320, .var [wi y138.1, wi a1.fc, wi a1.fx, ws y138.2, wi 0, wi 0, wi 0, wi 0, wi 0, wi 0, wi 0, wi 0, ws (ByteArray.mk #[]), wi 0, wi 0, wi 0, wi 0, wi 0, wi 0, wi 0, wi 0])]) := ⟨_, rfl⟩
               refine ⟨S142, ?_, ?_⟩
               ·clear h
                have h := hy139
                clear hy139
                cbv
                refine fork (fun b156 => ?_) (fun b156 => ?_)
                ·replace h := ot b156 h
                 cbv
                 injection h with h
                 subst h
                 subst hS143
                 exact lsp rfl zl2 ⟨rfl, rfl, tv⟩ rfl
                ·replace h := og b156 h
                 cbv
                 replace h := ob_ h
                 obtain ⟨y146, hy147, h⟩ := h
                 obtain ⟨S150, hS151⟩ : ∃ S, S = some (sp 93 [(4, .c (.ptr 256 0)), (5, .c (.ptr 320 0))] [(256, .var [wi 0, wi 0, wi 0, ws (ByteArray.mk #[]), wi 0, wi 0, wi 0, wi 0, wi 0, wi 0, wi 0, wi 0, ws (ByteArray.mk #[]), wi 0, wi 0, wi 0, wi 0, wi 0, wi 0, wi 0, wi 0]), (320, .var [wi y146.1, wi a1.fc, wi a1.fx, ws y146.2, wi 0, wi 0, wi 0, wi 0, wi 0, wi 0, wi 0, wi 0, ws (ByteArray.mk #[]), wi 0, wi 0, wi 0, wi 0, wi 0, wi 0, wi 0, wi 0])]) := ⟨_, rfl⟩
                 refine ⟨S150, ?_, ?_⟩
                 ·clear h
                  have h := hy147
                  clear hy147
                  cbv
                  refine fork (fun b155 => ?_) (fun b155 => ?_)
                  ·replace h := ot b155 h
                   cbv
                   replace h := oq_ h
                   obtain ⟨c154, h⟩ := h
                   refine ⟨⟨c154, tv⟩, ?_⟩
                   injection h with h
                   subst h
                   subst hS151
                   exact lsp rfl zl2 ⟨rfl, rfl, tv⟩ rfl
                  ·replace h := og b155 h
                   cbv
                   injection h with h
                   subst h
                   subst hS151
                   exact lsp rfl zl2 ⟨rfl, rfl, tv⟩ rfl
                 ·clear hy147
                  subst hS151
                  obtain ⟨y146_0, y146_1⟩ := y146
                  replace h := ol h
                  obtain ⟨w152, hw152, h⟩ := h
                  have hw152 : w152 = y146_0 := hw152
                  subst hw152
                  replace h := ol h
                  obtain ⟨w153, hw153, h⟩ := h
                  have hw153 : w153 = y146_1 := hw153
                  subst hw153
                  cbv
                  injection h with h
                  subst h
                  subst hS143
                  exact lsp rfl zl2 ⟨rfl, rfl, tv⟩ rfl
               ·clear hy139
                subst hS143
                obtain ⟨y138_0, y138_1⟩ := y138
                replace h := ol h
                obtain ⟨w144, hw144, h⟩ := h
                have hw144 : w144 = y138_0 := hw144
                subst hw144
                replace h := ol h
                obtain ⟨w145, hw145, h⟩ := h
                have hw145 : w145 = y138_1 := hw145
                subst hw145
                cbv
                injection h with h
                subst h
                subst hS134
                exact lsp rfl zl2 ⟨rfl, rfl, tv⟩ rfl
             ·clear hy130
              subst hS134
              obtain ⟨y129_0, y129_1⟩ := y129
              replace h := ol h
              obtain ⟨w135, hw135, h⟩ := h
              have hw135 : w135 = y129_0 := hw135
              subst hw135
              replace h := ol h
              obtain ⟨w136, hw136, h⟩ := h
              have hw136 : w136 = y129_1 := hw136
              subst hw136
              cbv
              injection h with h
              subst h
              subst hS116
              exact lsp rfl zl2 ⟨rfl, rfl, tv⟩ rfl
           ·clear hy112
            subst hS116
            obtain ⟨y111_0, y111_1, y111_2, y111_3, y111_4, y111_5, y111_6, y111_7, y111_8, y111_9⟩ := y111
            replace h := ol h
            obtain ⟨w117, hw117, h⟩ := h
            have hw117 : w117 = y111_0 := hw117
            subst hw117
            replace h := ol h
            obtain ⟨w118, hw118, h⟩ := h
            have hw118 : w118 = y111_1 := hw118
            subst hw118
            replace h := ol h
            obtain ⟨w119, hw119, h⟩ := h
            have hw119 : w119 = y111_2 := hw119
            subst hw119
            replace h := ol h
            obtain ⟨w120, hw120, h⟩ := h
            have hw120 : w120 = y111_3 := hw120
            subst hw120
            replace h := ol h
            obtain ⟨w121, hw121, h⟩ := h
            have hw121 : w121 = y111_4 := hw121
            subst hw121
            replace h := ol h
            obtain ⟨w122, hw122, h⟩ := h
            have hw122 : w122 = y111_5 := hw122
            subst hw122
            replace h := ol h
            obtain ⟨w123, hw123, h⟩ := h
            have hw123 : w123 = y111_6 := hw123
            subst hw123
            replace h := ol h
            obtain ⟨w124, hw124, h⟩ := h
            have hw124 : w124 = y111_7 := hw124
            subst hw124
            replace h := ol h
            obtain ⟨w125, hw125, h⟩ := h
            have hw125 : w125 = y111_8 := hw125
            subst hw125
            replace h := ol h
            obtain ⟨w126, hw126, h⟩ := h
            have hw126 : w126 = y111_9 := hw126
            subst hw126
            cbv
            injection h with h
            subst h
            subst hS100
            exact lsp rfl zl2 ⟨rfl, rfl, tv⟩ rfl
         ·clear hy96
          subst hS100
          obtain ⟨y95_0, y95_1, y95_2, y95_3, y95_4, y95_5, y95_6, y95_7, y95_8, y95_9⟩ := y95
          replace h := ol h
          obtain ⟨w101, hw101, h⟩ := h
          have hw101 : w101 = y95_0 := hw101
          subst hw101
          replace h := ol h
          obtain ⟨w102, hw102, h⟩ := h
          have hw102 : w102 = y95_1 := hw102
          subst hw102
          replace h := ol h
          obtain ⟨w103, hw103, h⟩ := h
          have hw103 : w103 = y95_2 := hw103
          subst hw103
          replace h := ol h
          obtain ⟨w104, hw104, h⟩ := h
          have hw104 : w104 = y95_3 := hw104
          subst hw104
          replace h := ol h
          obtain ⟨w105, hw105, h⟩ := h
          have hw105 : w105 = y95_4 := hw105
          subst hw105
          replace h := ol h
          obtain ⟨w106, hw106, h⟩ := h
          have hw106 : w106 = y95_5 := hw106
          subst hw106
          replace h := ol h
          obtain ⟨w107, hw107, h⟩ := h
          have hw107 : w107 = y95_6 := hw107
          subst hw107
          replace h := ol h
          obtain ⟨w108, hw108, h⟩ := h
          have hw108 : w108 = y95_7 := hw108
          subst hw108
          replace h := ol h
          obtain ⟨w109, hw109, h⟩ := h
          have hw109 : w109 = y95_8 := hw109
          subst hw109
          replace h := ol h
          obtain ⟨w110, hw110, h⟩ := h
          have hw110 : w110 = y95_9 := hw110
          subst hw110
          cbv
          injection h with h
          subst h
          subst hS78
          exact lsp rfl zl2 ⟨rfl, rfl, tv⟩ rfl
       ·clear hy74
        subst hS78
        obtain ⟨y73_0, y73_1, y73_2, y73_3, y73_4, y73_5, y73_6, y73_7, y73_8, y73_9, y73_10, y73_11, y73_12, y73_13⟩ := y73
        replace h := ol h
        obtain ⟨w79, hw79, h⟩ := h
        have hw79 : w79 = y73_0 := hw79
        subst hw79
        replace h := ol h
        obtain ⟨w80, hw80, h⟩ := h
        have hw80 : w80 = y73_1 := hw80
        subst hw80
        replace h := ol h
        obtain ⟨w81, hw81, h⟩ := h
        have hw81 : w81 = y73_2 := hw81
        subst hw81
        replace h := ol h
        obtain ⟨w82, hw82, h⟩ := h
        have hw82 : w82 = y73_3 := hw82
        subst hw82
        replace h := ol h
        obtain ⟨w83, hw83, h⟩ := h
        have hw83 : w83 = y73_4 := hw83
        subst hw83
        replace h := ol h
        obtain ⟨w84, hw84, h⟩ := h
        have hw84 : w84 = y73_5 := hw84
        subst hw84
        replace h := ol h
        obtain ⟨w85, hw85, h⟩ := h
        have hw85 : w85 = y73_6 := hw85
        subst hw85
        replace h := ol h
        obtain ⟨w86, hw86, h⟩ := h
        have hw86 : w86 = y73_7 := hw86
        subst hw86
        replace h := ol h
        obtain ⟨w87, hw87, h⟩ := h
        have hw87 : w87 = y73_8 := hw87
        subst hw87
        replace h := ol h
        obtain ⟨w88, hw88, h⟩ := h
        have hw88 : w88 = y73_9 := hw88
        subst hw88
        replace h := ol h
        obtain ⟨w89, hw89, h⟩ := h
        have hw89 : w89 = y73_10 := hw89
        subst hw89
        replace h := ol h
        obtain ⟨w90, hw90, h⟩ := h
        have hw90 : w90 = y73_11 := hw90
        subst hw90
        replace h := ol h
        obtain ⟨w91, hw91, h⟩ := h
        have hw91 : w91 = y73_12 := hw91
        subst hw91
        replace h := ol h
        obtain ⟨w92, hw92, h⟩ := h
        have hw92 : w92 = y73_13 := hw92
        subst hw92
        cbv
        injection h with h
        subst h
        subst hS58
        exact lsp rfl zl2 ⟨rfl, rfl, tv⟩ rfl
     ·clear hy54
      subst hS58
      obtain ⟨y53_0, y53_1, y53_2, y53_3, y53_4, y53_5, y53_6, y53_7, y53_8, y53_9, y53_10, y53_11, y53_12, y53_13⟩ := y53
      replace h := ol h
      obtain ⟨w59, hw59, h⟩ := h
      have hw59 : w59 = y53_0 := hw59
      subst hw59
      replace h := ol h
      obtain ⟨w60, hw60, h⟩ := h
      have hw60 : w60 = y53_1 := hw60
      subst hw60
      replace h := ol h
      obtain ⟨w61, hw61, h⟩ := h
      have hw61 : w61 = y53_2 := hw61
      subst hw61
      replace h := ol h
      obtain ⟨w62, hw62, h⟩ := h
      have hw62 : w62 = y53_3 := hw62
      subst hw62
      replace h := ol h
      obtain ⟨w63, hw63, h⟩ := h
      have hw63 : w63 = y53_4 := hw63
      subst hw63
      replace h := ol h
      obtain ⟨w64, hw64, h⟩ := h
      have hw64 : w64 = y53_5 := hw64
      subst hw64
      replace h := ol h
      obtain ⟨w65, hw65, h⟩ := h
      have hw65 : w65 = y53_6 := hw65
      subst hw65
      replace h := ol h
      obtain ⟨w66, hw66, h⟩ := h
      have hw66 : w66 = y53_7 := hw66
      subst hw66
      replace h := ol h
      obtain ⟨w67, hw67, h⟩ := h
      have hw67 : w67 = y53_8 := hw67
      subst hw67
      replace h := ol h
      obtain ⟨w68, hw68, h⟩ := h
      have hw68 : w68 = y53_9 := hw68
      subst hw68
      replace h := ol h
      obtain ⟨w69, hw69, h⟩ := h
      have hw69 : w69 = y53_10 := hw69
      subst hw69
      replace h := ol h
      obtain ⟨w70, hw70, h⟩ := h
      have hw70 : w70 = y53_11 := hw70
      subst hw70
      replace h := ol h
      obtain ⟨w71, hw71, h⟩ := h
      have hw71 : w71 = y53_12 := hw71
      subst hw71
      replace h := ol h
      obtain ⟨w72, hw72, h⟩ := h
      have hw72 : w72 = y53_13 := hw72
      subst hw72
      cbv
      injection h with h
      subst h
      subst hS31
      exact lsp rfl zl2 ⟨rfl, rfl, tv⟩ rfl
   ·clear hy27
    subst hS31
    obtain ⟨y26_0, y26_1, y26_2, y26_3, y26_4, y26_5, y26_6, y26_7, y26_8, y26_9, y26_10, y26_11, y26_12, y26_13, y26_14, y26_15, y26_16, y26_17, y26_18⟩ := y26
    replace h := ol h
    obtain ⟨w32, hw32, h⟩ := h
    have hw32 : w32 = y26_0 := hw32
    subst hw32
    replace h := ol h
    obtain ⟨w33, hw33, h⟩ := h
    have hw33 : w33 = y26_1 := hw33
    subst hw33
    replace h := ol h
    obtain ⟨w34, hw34, h⟩ := h
    have hw34 : w34 = y26_2 := hw34
    subst hw34
    replace h := ol h
    obtain ⟨w35, hw35, h⟩ := h
    have hw35 : w35 = y26_3 := hw35
    subst hw35
    replace h := ol h
    obtain ⟨w36, hw36, h⟩ := h
    have hw36 : w36 = y26_4 := hw36
    subst hw36
    replace h := ol h
    obtain ⟨w37, hw37, h⟩ := h
    have hw37 : w37 = y26_5 := hw37
    subst hw37
    replace h := ol h
    obtain ⟨w38, hw38, h⟩ := h
    have hw38 : w38 = y26_6 := hw38
    subst hw38
    replace h := ol h
    obtain ⟨w39, hw39, h⟩ := h
    have hw39 : w39 = y26_7 := hw39
    subst hw39
    replace h := ol h
    obtain ⟨w40, hw40, h⟩ := h
    have hw40 : w40 = y26_8 := hw40
    subst hw40
    replace h := ol h
    obtain ⟨w41, hw41, h⟩ := h
    have hw41 : w41 = y26_9 := hw41
    subst hw41
    replace h := ol h
    obtain ⟨w42, hw42, h⟩ := h
    have hw42 : w42 = y26_10 := hw42
    subst hw42
    replace h := ol h
    obtain ⟨w43, hw43, h⟩ := h
    have hw43 : w43 = y26_11 := hw43
    subst hw43
    replace h := ol h
    obtain ⟨w44, hw44, h⟩ := h
    have hw44 : w44 = y26_12 := hw44
    subst hw44
    replace h := ol h
    obtain ⟨w45, hw45, h⟩ := h
    have hw45 : w45 = y26_13 := hw45
    subst hw45
    replace h := ol h
    obtain ⟨w46, hw46, h⟩ := h
    have hw46 : w46 = y26_14 := hw46
    subst hw46
    replace h := ol h
    obtain ⟨w47, hw47, h⟩ := h
    have hw47 : w47 = y26_15 := hw47
    subst hw47
    replace h := ol h
    obtain ⟨w48, hw48, h⟩ := h
    have hw48 : w48 = y26_16 := hw48
    subst hw48
    replace h := ol h
    obtain ⟨w49, hw49, h⟩ := h
    have hw49 : w49 = y26_17 := hw49
    subst hw49
    replace h := ol h
    obtain ⟨w50, hw50, h⟩ := h
    have hw50 : w50 = y26_18 := hw50
    subst hw50
    cbv
    injection h with h
    subst h
    subst hS6
    exact lsp rfl zl2 ⟨rfl, rfl, tv⟩ rfl
 ·clear hy2
  subst hS6
  obtain ⟨y1_0, y1_1, y1_2, y1_3, y1_4, y1_5, y1_6, y1_7, y1_8, y1_9, y1_10, y1_11, y1_12, y1_13, y1_14, y1_15, y1_16, y1_17, y1_18⟩ := y1
  replace h := ol h
  obtain ⟨w7, hw7, h⟩ := h
  have hw7 : w7 = y1_0 := hw7
  subst hw7
  replace h := ol h
  obtain ⟨w8, hw8, h⟩ := h
  have hw8 : w8 = y1_1 := hw8
  subst hw8
  replace h := ol h
  obtain ⟨w9, hw9, h⟩ := h
  have hw9 : w9 = y1_2 := hw9
  subst hw9
  replace h := ol h
  obtain ⟨w10, hw10, h⟩ := h
  have hw10 : w10 = y1_3 := hw10
  subst hw10
  replace h := ol h
  obtain ⟨w11, hw11, h⟩ := h
  have hw11 : w11 = y1_4 := hw11
  subst hw11
  replace h := ol h
  obtain ⟨w12, hw12, h⟩ := h
  have hw12 : w12 = y1_5 := hw12
  subst hw12
  replace h := ol h
  obtain ⟨w13, hw13, h⟩ := h
  have hw13 : w13 = y1_6 := hw13
  subst hw13
  replace h := ol h
  obtain ⟨w14, hw14, h⟩ := h
  have hw14 : w14 = y1_7 := hw14
  subst hw14
  replace h := ol h
  obtain ⟨w15, hw15, h⟩ := h
  have hw15 : w15 = y1_8 := hw15
  subst hw15
  replace h := ol h
  obtain ⟨w16, hw16, h⟩ := h
  have hw16 : w16 = y1_9 := hw16
  subst hw16
  replace h := ol h
  obtain ⟨w17, hw17, h⟩ := h
  have hw17 : w17 = y1_10 := hw17
  subst hw17
  replace h := ol h
  obtain ⟨w18, hw18, h⟩ := h
  have hw18 : w18 = y1_11 := hw18
  subst hw18
  replace h := ol h
  obtain ⟨w19, hw19, h⟩ := h
  have hw19 : w19 = y1_12 := hw19
  subst hw19
  replace h := ol h
  obtain ⟨w20, hw20, h⟩ := h
  have hw20 : w20 = y1_13 := hw20
  subst hw20
  replace h := ol h
  obtain ⟨w21, hw21, h⟩ := h
  have hw21 : w21 = y1_14 := hw21
  subst hw21
  replace h := ol h
  obtain ⟨w22, hw22, h⟩ := h
  have hw22 : w22 = y1_15 := hw22
  subst hw22
  replace h := ol h
  obtain ⟨w23, hw23, h⟩ := h
  have hw23 : w23 = y1_16 := hw23
  subst hw23
  replace h := ol h
  obtain ⟨w24, hw24, h⟩ := h
  have hw24 : w24 = y1_17 := hw24
  subst hw24
  replace h := ol h
  obtain ⟨w25, hw25, h⟩ := h
  have hw25 : w25 = y1_18 := hw25
  subst hw25
  cbv
  injection h with h
  subst h
  refine ⟨(sp 93 [(4, .c (.ptr 256 0))] [(256, .var [wi w7, wi a1.fc, wi a1.fx, ws w8, wi w9, wi w10, wi w11, wi w12, wi w13, wi w14, wi w15, wi w16, ws w17, wi w18, wi w19, wi w20, wi w21, wi w22, wi w23, wi w24, wi w25])]), ?_, ?_⟩
  ·exact lsp rfl zl1 ⟨rfl, tv⟩ rfl
  ·exact ⟨lR _, trivial, rfl⟩

/-- impl.InverseEdit -/
def Fq75 (a0 : TL) (a1 : TE) : Option (TE × Int) :=
 (Fq35 a0 a1).bind fun y1 =>
 br (std.not (std.eq y1 0))
 (some ((TE.mk 0 0 0 (ByteArray.mk #[]) (TS.mk 0 (TRect.mk 0 0 0 0)) (TB.mk 0 (TPoint.mk 0 0) (ByteArray.mk #[])) (TI.mk 0 (TM.mk 0 0 0) 0 0 0 0)), y1))
 ((Fq42 a0 a1).bind fun y3 =>
 some (y3, (0 : Int)))
theorem runq75 (a0 : TL) (a1 : TE) (r : TE × Int) (h : Fq75 a0 a1 = some r) : Fun Tryz.prog 44 [.agg [.bs (len a0.fC) 4 (row gd (eC len gd) a0.fC)], .agg (cE a1)] [] (.tup [.agg [wi r.1.fk, wi r.1.fc, wi r.1.fx, ws r.1.fN, wi r.1.fs_.fy, wi r.1.fs_.fb.fX0, wi r.1.fs_.fb.fY0, wi r.1.fs_.fb.fX1, wi r.1.fs_.fb.fY1, wi r.1.fl_.fy, wi r.1.fl_.fa.fX, wi r.1.fl_.fa.fY, ws r.1.fl_.fN, wi r.1.fi_.fc, wi r.1.fi_.fp.fo, wi r.1.fi_.fp.fX, wi r.1.fi_.fp.fY, wi r.1.fi_.fK, wi r.1.fi_.fR, wi r.1.fi_.fu, wi r.1.fi_.fv], .c (wi r.2)]) [] true := by
 refine Fun.of_wp (oneOf []) tok mixed Tryz.func44 (by kernel_rfl) rfl Tryz.ntmps44 rfl trivial (fun _ => ⟨(by simp [AV.flat, AV.flat1, AC.flat]), tv⟩) ?_
 unfold Fq75 at h
 have hfq35 := @runq35
 have hfq42 := @runq42
 generalize hLEN : @len = LEN, hGD : @gd = GD, hA : std = A, hP : Tryz.prog = P at *
 cbv
 replace h := ob_ h
 obtain ⟨y1, hy2, h⟩ := h
 refine ⟨⟨_, _, _, _, _, [], []⟩, hfq35 _ _ _ hy2, ⟨zs2, trivial, rfl, rfl, rfl, rfl, trivial, rfl⟩, ?_⟩
 cbv
 refine fork (fun b5 => ?_) (fun b5 => ?_)
 ·replace h := ot b5 h
  cbv
  injection h with h
  subst h
  refine ⟨(sp 17 [(4, .c (.ptr 256 0)), (5, .c (wi y1))] [(256, .var [wi 0, wi 0, wi 0, ws (ByteArray.mk #[]), wi 0, wi 0, wi 0, wi 0, wi 0, wi 0, wi 0, wi 0, ws (ByteArray.mk #[]), wi 0, wi 0, wi 0, wi 0, wi 0, wi 0, wi 0, wi 0])]), ?_, ?_⟩
  ·exact lsp rfl zl2 ⟨rfl, tv⟩ rfl
  ·exact ⟨lR _, trivial, rfl⟩
 ·replace h := og b5 h
  cbv
  replace h := ob_ h
  obtain ⟨y3, hy4, h⟩ := h
  refine ⟨⟨_, _, _, _, _, [], []⟩, hfq42 _ _ _ hy4, ⟨zs2, trivial, rfl, rfl, rfl, rfl, trivial, rfl⟩, ?_⟩
  cbv
  injection h with h
  subst h
  refine ⟨(sp 17 [(4, .c (.ptr 256 0)), (5, .c (wi 0))] [(256, .var (cE y3))]), ?_, ?_⟩
  ·exact lsp rfl zl2 ⟨rfl, tv⟩ rfl
  ·exact ⟨lR _, trivial, rfl⟩

def Lq26_x2 (a0 : List TS) (a1 : List TS) : (Int) -> Option ((Int) ⊕ ((Unit) ⊕ (Unit))) := fun x2 =>
 letO x2 fun v1 =>
 br (std.lt v1 (std.ofN (len a0)))
 (req (std.inR v1 (len a0)) <|
 req (std.inR v1 (len a1)) <|
 br (std.not (std.band (std.eq (gd a0 (std.toN v1)).fy (gd a1 (std.toN v1)).fy) (std.band (std.band (std.eq (gd a0 (std.toN v1)).fb.fX0 (gd a1 (std.toN v1)).fb.fX0) (std.band (std.eq (gd a0 (std.toN v1)).fb.fY0 (gd a1 (std.toN v1)).fb.fY0) (std.band (std.eq (gd a0 (std.toN v1)).fb.fX1 (gd a1 (std.toN v1)).fb.fX1) (std.band (std.eq (gd a0 (std.toN v1)).fb.fY1 (gd a1 (std.toN v1)).fb.fY1) (true))))) (true))))
 (some (.inr (.inl ())))
 (some (.inl (std.add .i64 v1 1))))
 (some (.inr (.inr ())))
/-- impl.Shape] -/
def Fq26 (a0 : List TS) (a1 : List TS) : Option (Bool) :=
 br (std.not (std.eq (std.ofN (len a0)) (std.ofN (len a1))))
 (some false)
 ((whileP (σ := Int) (ρ := (Unit) ⊕ (Unit)) (Lq26_x2 a0 a1) 0).bind fun y3 =>
 (match y3 with
 | .inl y3k0 => (
 some false)
 | .inr y3m0 =>
 some true))
theorem runq26 (a0 : List TS) (a1 : List TS) (r : Bool) (h : Fq26 a0 a1 = some r) : Fun Tryz.prog 158 [.c (.bs (len a0) 5 (row gd (eS) a0)), .c (.bs (len a1) 5 (row gd (eS) a1))] [] (.c (.v (.bool r))) [] true := by
 refine Fun.of_wp (oneOf []) tok mixed Tryz.func158 (by kernel_rfl) rfl Tryz.ntmps158 rfl trivial (fun _ => ⟨trivial, tv⟩) ?_
 unfold Fq26 at h
 unfold Lq26_x2 at h
 generalize hLEN : @len = LEN, hGD : @gd = GD, hA : std = A, hP : Tryz.prog = P at *
 cbv
 refine fork (fun b18 => ?_) (fun b18 => ?_)
 ·replace h := ot b18 h
  cbv
  injection h with h
  subst h
  refine ⟨(sp 26 [(4, .c (.v (.bool false)))] []), ?_, ?_⟩
  ·exact lsp rfl zl1 trivial rfl
  ·exact ⟨lR _, trivial, rfl⟩
 ·replace h := og b18 h
  cbv
  replace h := ob_ h
  obtain ⟨y3, hr4, hN5⟩ := h
  refine loop_cut hr4 (fun x => (sp 26 [(0, .c (.bs (LEN a0) 5 (row GD (eS) a0))), (1, .c (.bs (LEN a1) 5 (row GD (eS) a1))), (12, .c (wi (A.ofN (LEN a0)))), (13, .c (wi x))] [])) ?_ (fun y e s => (match y with | .inl w => e = .ret /\ s.le (sp 26 [(4, .c (.v (.bool false)))] []) | .inr w0 => (fun (w : Unit) => e = .exit 0 /\ s.le (sp 26 [] [])) w0)) ?_ ?_
  ·clear hr4 hN5
   show St.le _ _
   exact lsp rfl zl4 trivial rfl
  ·clear hr4 hN5
   intro x z9 h K7 hK8 hY6
   replace h := ol h
   obtain ⟨v1, hv1, h⟩ := h
   have hv1 : v1 = x := hv1
   subst hv1
   cbv
   refine fork (fun b17 => ?_) (fun b17 => ?_)
   ·replace h := ot b17 h
    cbv
    replace h := oq_ h
    obtain ⟨c14, h⟩ := h
    refine ⟨⟨c14, tv⟩, ?_⟩
    replace h := oq_ h
    obtain ⟨c15, h⟩ := h
    refine ⟨⟨c15, tv⟩, ?_⟩
    refine fork (fun b16 => ?_) (fun b16 => ?_)
    ·replace h := ot b16 h
     cbv
     injection h with h
     refine hY6 _ h.symm _ _ (And.intro rfl ?_) (by intro hh; cases hh)
     exact lsp rfl zl1 trivial rfl
    ·replace h := og b16 h
     cbv
     injection h with h
     refine hK8 _ h.symm _ ?_
     exact lsp rfl zl4 trivial rfl
   ·replace h := og b17 h
    cbv
    injection h with h
    refine hY6 _ h.symm _ _ (And.intro rfl ?_) (by intro hh; cases hh)
    exact lsp rfl trivial trivial rfl
  ·clear hr4
   have h := hN5
   clear hN5
   intro e12 s13 q11 hne
   rcases y3 with y3k0 | y3m0
   ·replace h := h
    obtain ⟨rfl, q11⟩ := q11
    cbv
    injection h with h
    subst h
    refine ⟨(sp 26 [(4, .c (.v (.bool false)))] []), ?_, ?_⟩
    ·refine St.le_trans q11 ?_
     exact lsp rfl zl1 trivial rfl
    ·exact ⟨lR _, trivial, rfl⟩
   ·obtain ⟨rfl, q11⟩ := q11
    cbv
    refine ⟨_, q11, ?_⟩
    cbv
    injection h with h
    subst h
    refine ⟨(sp 26 [(4, .c (.v (.bool true)))] []), ?_, ?_⟩
    ·exact lsp rfl zl1 trivial rfl
    ·exact ⟨lR _, trivial, rfl⟩

def Lq24_x2 (a0 : List TB) (a1 : List TB) : (Int) -> Option ((Int) ⊕ ((Unit) ⊕ (Unit))) := fun x2 =>
 letO x2 fun v1 =>
 br (std.lt v1 (std.ofN (len a0)))
 (req (std.inR v1 (len a0)) <|
 req (std.inR v1 (len a1)) <|
 br (std.not (std.band (std.eq (gd a0 (std.toN v1)).fy (gd a1 (std.toN v1)).fy) (std.band (std.band (std.eq (gd a0 (std.toN v1)).fa.fX (gd a1 (std.toN v1)).fa.fX) (std.band (std.eq (gd a0 (std.toN v1)).fa.fY (gd a1 (std.toN v1)).fa.fY) (true))) (std.band (std.seq (gd a0 (std.toN v1)).fN (gd a1 (std.toN v1)).fN) (true)))))
 (some (.inr (.inl ())))
 (some (.inl (std.add .i64 v1 1))))
 (some (.inr (.inr ())))
/-- impl.Label] -/
def Fq24 (a0 : List TB) (a1 : List TB) : Option (Bool) :=
 br (std.not (std.eq (std.ofN (len a0)) (std.ofN (len a1))))
 (some false)
 ((whileP (σ := Int) (ρ := (Unit) ⊕ (Unit)) (Lq24_x2 a0 a1) 0).bind fun y3 =>
 (match y3 with
 | .inl y3k0 => (
 some false)
 | .inr y3m0 =>
 some true))
theorem runq24 (a0 : List TB) (a1 : List TB) (r : Bool) (h : Fq24 a0 a1 = some r) : Fun Tryz.prog 159 [.c (.bs (len a0) 4 (row gd (eL) a0)), .c (.bs (len a1) 4 (row gd (eL) a1))] [] (.c (.v (.bool r))) [] true := by
 refine Fun.of_wp (oneOf []) tok mixed Tryz.func159 (by kernel_rfl) rfl Tryz.ntmps159 rfl trivial (fun _ => ⟨trivial, tv⟩) ?_
 unfold Fq24 at h
 unfold Lq24_x2 at h
 generalize hLEN : @len = LEN, hGD : @gd = GD, hA : std = A, hP : Tryz.prog = P at *
 cbv
 refine fork (fun b18 => ?_) (fun b18 => ?_)
 ·replace h := ot b18 h
  cbv
  injection h with h
  subst h
  refine ⟨(sp 26 [(4, .c (.v (.bool false)))] []), ?_, ?_⟩
  ·exact lsp rfl zl1 trivial rfl
  ·exact ⟨lR _, trivial, rfl⟩
 ·replace h := og b18 h
  cbv
  replace h := ob_ h
  obtain ⟨y3, hr4, hN5⟩ := h
  refine loop_cut hr4 (fun x => (sp 26 [(0, .c (.bs (LEN a0) 4 (row GD (eL) a0))), (1, .c (.bs (LEN a1) 4 (row GD (eL) a1))), (12, .c (wi (A.ofN (LEN a0)))), (13, .c (wi x))] [])) ?_ (fun y e s => (match y with | .inl w => e = .ret /\ s.le (sp 26 [(4, .c (.v (.bool false)))] []) | .inr w0 => (fun (w : Unit) => e = .exit 0 /\ s.le (sp 26 [] [])) w0)) ?_ ?_
  ·clear hr4 hN5
   show St.le _ _
   exact lsp rfl zl4 trivial rfl
  ·clear hr4 hN5
   intro x z9 h K7 hK8 hY6
   replace h := ol h
   obtain ⟨v1, hv1, h⟩ := h
   have hv1 : v1 = x := hv1
   subst hv1
   cbv
   refine fork (fun b17 => ?_) (fun b17 => ?_)
   ·replace h := ot b17 h
    cbv
    replace h := oq_ h
    obtain ⟨c14, h⟩ := h
    refine ⟨⟨c14, tv⟩, ?_⟩
    replace h := oq_ h
    obtain ⟨c15, h⟩ := h
    refine ⟨⟨c15, tv⟩, ?_⟩
    refine fork (fun b16 => ?_) (fun b16 => ?_)
    ·replace h := ot b16 h
     cbv
     injection h with h
     refine hY6 _ h.symm _ _ (And.intro rfl ?_) (by intro hh; cases hh)
     exact lsp rfl zl1 trivial rfl
    ·replace h := og b16 h
     cbv
     injection h with h
     refine hK8 _ h.symm _ ?_
     exact lsp rfl zl4 trivial rfl
   ·replace h := og b17 h
    cbv
    injection h with h
    refine hY6 _ h.symm _ _ (And.intro rfl ?_) (by intro hh; cases hh)
    exact lsp rfl trivial trivial rfl
  ·clear hr4
   have h := hN5
   clear hN5
   intro e12 s13 q11 hne
   rcases y3 with y3k0 | y3m0
   ·replace h := h
    obtain ⟨rfl, q11⟩ := q11
    cbv
    injection h with h
    subst h
    refine ⟨(sp 26 [(4, .c (.v (.bool false)))] []), ?_, ?_⟩
    ·refine St.le_trans q11 ?_
     exact lsp rfl zl1 trivial rfl
    ·exact ⟨lR _, trivial, rfl⟩
   ·obtain ⟨rfl, q11⟩ := q11
    cbv
    refine ⟨_, q11, ?_⟩
    cbv
    injection h with h
    subst h
    refine ⟨(sp 26 [(4, .c (.v (.bool true)))] []), ?_, ?_⟩
    ·exact lsp rfl zl1 trivial rfl
    ·exact ⟨lR _, trivial, rfl⟩

def Lq25_x2 (a0 : List TI) (a1 : List TI) : (Int) -> Option ((Int) ⊕ ((Unit) ⊕ (Unit))) := fun x2 =>
 letO x2 fun v1 =>
 br (std.lt v1 (std.ofN (len a0)))
 (req (std.inR v1 (len a0)) <|
 req (std.inR v1 (len a1)) <|
 br (std.not (std.band (std.eq (gd a0 (std.toN v1)).fc (gd a1 (std.toN v1)).fc) (std.band (std.band (std.eq (gd a0 (std.toN v1)).fp.fo (gd a1 (std.toN v1)).fp.fo) (std.band (std.eq (gd a0 (std.toN v1)).fp.fX (gd a1 (std.toN v1)).fp.fX) (std.band (std.eq (gd a0 (std.toN v1)).fp.fY (gd a1 (std.toN v1)).fp.fY) (true)))) (std.band (std.eq (gd a0 (std.toN v1)).fK (gd a1 (std.toN v1)).fK) (std.band (std.eq (gd a0 (std.toN v1)).fR (gd a1 (std.toN v1)).fR) (std.band (std.eq (gd a0 (std.toN v1)).fu (gd a1 (std.toN v1)).fu) (std.band (std.eq (gd a0 (std.toN v1)).fv (gd a1 (std.toN v1)).fv) (true))))))))
 (some (.inr (.inl ())))
 (some (.inl (std.add .i64 v1 1))))
 (some (.inr (.inr ())))
/-- impl.Instance] -/
def Fq25 (a0 : List TI) (a1 : List TI) : Option (Bool) :=
 br (std.not (std.eq (std.ofN (len a0)) (std.ofN (len a1))))
 (some false)
 ((whileP (σ := Int) (ρ := (Unit) ⊕ (Unit)) (Lq25_x2 a0 a1) 0).bind fun y3 =>
 (match y3 with
 | .inl y3k0 => (
 some false)
 | .inr y3m0 =>
 some true))
theorem runq25 (a0 : List TI) (a1 : List TI) (r : Bool) (h : Fq25 a0 a1 = some r) : Fun Tryz.prog 160 [.c (.bs (len a0) 8 (row gd (eI) a0)), .c (.bs (len a1) 8 (row gd (eI) a1))] [] (.c (.v (.bool r))) [] true := by
 refine Fun.of_wp (oneOf []) tok mixed Tryz.func160 (by kernel_rfl) rfl Tryz.ntmps160 rfl trivial (fun _ => ⟨trivial, tv⟩) ?_
 unfold Fq25 at h
 unfold Lq25_x2 at h
 generalize hLEN : @len = LEN, hGD : @gd = GD, hA : std = A, hP : Tryz.prog = P at *
 cbv
 refine fork (fun b18 => ?_) (fun b18 => ?_)
 ·replace h := ot b18 h
  cbv
  injection h with h
  subst h
  refine ⟨(sp 26 [(4, .c (.v (.bool false)))] []), ?_, ?_⟩
  ·exact lsp rfl zl1 trivial rfl
  ·exact ⟨lR _, trivial, rfl⟩
 ·replace h := og b18 h
  cbv
  replace h := ob_ h
  obtain ⟨y3, hr4, hN5⟩ := h
  refine loop_cut hr4 (fun x => (sp 26 [(0, .c (.bs (LEN a0) 8 (row GD (eI) a0))), (1, .c (.bs (LEN a1) 8 (row GD (eI) a1))), (12, .c (wi (A.ofN (LEN a0)))), (13, .c (wi x))] [])) ?_ (fun y e s => (match y with | .inl w => e = .ret /\ s.le (sp 26 [(4, .c (.v (.bool false)))] []) | .inr w0 => (fun (w : Unit) => e = .exit 0 /\ s.le (sp 26 [] [])) w0)) ?_ ?_
  ·clear hr4 hN5
   show St.le _ _
   exact lsp rfl zl4 trivial rfl
  ·clear hr4 hN5
   intro x z9 h K7 hK8 hY6
   replace h := ol h
   obtain ⟨v1, hv1, h⟩ := h
   have hv1 : v1 = x := hv1
   subst hv1
   cbv
   refine fork (fun b17 => ?_) (fun b17 => ?_)
   ·replace h := ot b17 h
    cbv
    replace h := oq_ h
    obtain ⟨c14, h⟩ := h
    refine ⟨⟨c14, tv⟩, ?_⟩
    replace h := oq_ h
    obtain ⟨c15, h⟩ := h
    refine ⟨⟨c15, tv⟩, ?_⟩
    refine fork (fun b16 => ?_) (fun b16 => ?_)
    ·replace h := ot b16 h
     cbv
     injection h with h
     refine hY6 _ h.symm _ _ (And.intro rfl ?_) (by intro hh; cases hh)
     exact lsp rfl zl1 trivial rfl
    ·replace h := og b16 h
     cbv
     injection h with h
     refine hK8 _ h.symm _ ?_
     exact lsp rfl zl4 trivial rfl
   ·replace h := og b17 h
    cbv
    injection h with h
    refine hY6 _ h.symm _ _ (And.intro rfl ?_) (by intro hh; cases hh)
    exact lsp rfl trivial trivial rfl
  ·clear hr4
   have h := hN5
   clear hN5
   intro e12 s13 q11 hne
   rcases y3 with y3k0 | y3m0
   ·replace h := h
    obtain ⟨rfl, q11⟩ := q11
    cbv
    injection h with h
    subst h
    refine ⟨(sp 26 [(4, .c (.v (.bool false)))] []), ?_, ?_⟩
    ·refine St.le_trans q11 ?_
     exact lsp rfl zl1 trivial rfl
    ·exact ⟨lR _, trivial, rfl⟩
   ·obtain ⟨rfl, q11⟩ := q11
    cbv
    refine ⟨_, q11, ?_⟩
    cbv
    injection h with h
    subst h
    refine ⟨(sp 26 [(4, .c (.v (.bool true)))] []), ?_, ?_⟩
    ·exact lsp rfl zl1 trivial rfl
    ·exact ⟨lR _, trivial, rfl⟩

/-- impl.sameCell -/
def Fq74 (a0 : TC) (a1 : TC) : Option (Bool) :=
 ((
 br (std.seq a0.fN a1.fN)
 ((Fq26 a0.fS a1.fS).bind fun y8 =>
 br y8
 ((Fq24 a0.fL a1.fL).bind fun y10 =>
 br y10
 ((Fq25 a0.fI a1.fI).bind fun y12 =>
 some y12)
 (some false))
 (some false))
 (some false)
 ) : Option (Bool)).bind fun y1 =>
 letO y1 fun w7 =>
 some w7
theorem runq74 (a0 : TC) (a1 : TC) (r : Bool) (h : Fq74 a0 a1 = some r) : Fun Tryz.prog 94 [.agg [ws a0.fN, .bs (len a0.fS) 5 (row gd (eS) a0.fS), .bs (len a0.fL) 4 (row gd (eL) a0.fL), .bs (len a0.fI) 8 (row gd (eI) a0.fI)], .agg [ws a1.fN, .bs (len a1.fS) 5 (row gd (eS) a1.fS), .bs (len a1.fL) 4 (row gd (eL) a1.fL), .bs (len a1.fI) 8 (row gd (eI) a1.fI)]] [] (.c (.v (.bool r))) [] true := by
 refine Fun.of_wp (oneOf [1]) tok mixed Tryz.func94 (by kernel_rfl) rfl Tryz.ntmps94 rfl trivial (fun _ => ⟨trivial, tv⟩) ?_
 unfold Fq74 at h
 have hfq25 := @runq25
 have hfq24 := @runq24
 have hfq26 := @runq26
 generalize hLEN : @len = LEN, hGD : @gd = GD, hA : std = A, hP : Tryz.prog = P at *
 cbv
 replace h := ob_ h
 obtain ⟨y1, hy2, h⟩ := h
 obtain ⟨S5, hS6⟩ : ∃ S, S = (sp 31 [(4, .c (.v (.bool y1)))] []) := ⟨_, rfl⟩
 refine ⟨S5, ?_, ?_⟩
 ·clear h
  have h := hy2
  clear hy2
  cbv
  refine fork (fun b16 => ?_) (fun b16 => ?_)
  ·replace h := ot b16 h
   cbv
   replace h := ob_ h
   obtain ⟨y8, hy9, h⟩ := h
   refine ⟨⟨_, _, _, _, _, [], []⟩, hfq26 _ _ _ hy9, ⟨zs2, trivial, rfl, rfl, rfl, rfl, trivial, rfl⟩, ?_⟩
   cbv
   refine fork (fun b15 => ?_) (fun b15 => ?_)
   ·replace h := ot b15 h
    cbv
    replace h := ob_ h
    obtain ⟨y10, hy11, h⟩ := h
    refine ⟨⟨_, _, _, _, _, [], []⟩, hfq24 _ _ _ hy11, ⟨zs2, trivial, rfl, rfl, rfl, rfl, trivial, rfl⟩, ?_⟩
    cbv
    refine fork (fun b14 => ?_) (fun b14 => ?_)
    ·replace h := ot b14 h
     cbv
     replace h := ob_ h
     obtain ⟨y12, hy13, h⟩ := h
     refine ⟨⟨_, _, _, _, _, [], []⟩, hfq25 _ _ _ hy13, ⟨zs2, trivial, rfl, rfl, rfl, rfl, trivial, rfl⟩, ?_⟩
     cbv
     injection h with h
     subst h
     subst hS6
     exact lsp rfl zl1 trivial rfl
    ·replace h := og b14 h
     cbv
     injection h with h
     subst h
     subst hS6
     exact lsp rfl zl1 trivial rfl
   ·replace h := og b15 h
    cbv
    injection h with h
    subst h
    subst hS6
    exact lsp rfl zl1 trivial rfl
  ·replace h := og b16 h
   cbv
   injection h with h
   subst h
   subst hS6
   exact lsp rfl zl1 trivial rfl
 ·clear hy2
  subst hS6
  replace h := ol h
  obtain ⟨w7, hw7, h⟩ := h
  have hw7 : w7 = y1 := hw7
  subst hw7
  cbv
  injection h with h
  subst h
  refine ⟨(sp 31 [(4, .c (.v (.bool w7)))] []), ?_, ?_⟩
  ·exact lsp rfl zl1 trivial rfl
  ·exact ⟨lR _, trivial, rfl⟩
end
end Go.Proofs.YtohgghncmkiicaaGreat.AM
