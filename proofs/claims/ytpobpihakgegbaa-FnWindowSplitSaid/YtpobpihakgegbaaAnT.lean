/-
  THE TABLE OF TYPES of the seat. No condition.
-/
import Derived.Test.YtpobpihakgegbaaAnE
import Derived.Test.YtpobpihakgegbaaProg
import Derived.KernelRfl
namespace Go.Proofs.Ytpobpihakgegbaa.AM
open Go Go.Proofs Go.RowKit
set_option linter.unusedVariables false
set_option linter.unusedSimpArgs false
set_option maxRecDepth 100000

theorem ex51 : ∃ z, Go.Proofs.Try.t51.zero = some z := ⟨_, rfl⟩
noncomputable def z51 : Value := Classical.choose ex51
theorem zq51 : Go.Proofs.Try.t51.zero = some z51 := Classical.choose_spec ex51
theorem zf51 : z51.cells = Array.replicate 80 (.bool false) := by
  have h : Go.Proofs.Try.t51.zero.map Value.cells = some (Array.replicate 80 (.bool false)) := by kernel_rfl
  rw [zq51, Option.map_some] at h
  exact Option.some.inj h
theorem zo51 : ∀ x ∈ z51.cells.toList, x.oneCell' = true := by
  rw [zf51, Array.toList_replicate]
  intro x hx
  rw [List.eq_of_mem_replicate hx]; rfl
noncomputable def d51 : TD := ⟨Go.Proofs.Try.t51.desc, Go.Proofs.Try.t51.size, Go.Proofs.Try.t51.bytes, z51, true⟩
theorem ex52 : ∃ z, Go.Proofs.Try.t52.zero = some z := ⟨_, rfl⟩
noncomputable def z52 : Value := Classical.choose ex52
theorem zq52 : Go.Proofs.Try.t52.zero = some z52 := Classical.choose_spec ex52
theorem zf52 : z52.cells = Array.replicate 6400 (.bool false) := by
  have h : Go.Proofs.Try.t52.zero.map Value.cells = some (Array.replicate 6400 (.bool false)) := by kernel_rfl
  rw [zq52, Option.map_some] at h
  exact Option.some.inj h
theorem zo52 : ∀ x ∈ z52.cells.toList, x.oneCell' = true := by
  rw [zf52, Array.toList_replicate]
  intro x hx
  rw [List.eq_of_mem_replicate hx]; rfl
noncomputable def d52 : TD := ⟨Go.Proofs.Try.t52.desc, Go.Proofs.Try.t52.size, Go.Proofs.Try.t52.bytes, z52, true⟩
theorem ex53 : ∃ z, Go.Proofs.Try.t53.zero = some z := ⟨_, rfl⟩
noncomputable def z53 : Value := Classical.choose ex53
theorem zq53 : Go.Proofs.Try.t53.zero = some z53 := Classical.choose_spec ex53
theorem zf53 : z53.cells = Array.replicate 6400 (.bool false) := by
  have h : Go.Proofs.Try.t53.zero.map Value.cells = some (Array.replicate 6400 (.bool false)) := by kernel_rfl
  rw [zq53, Option.map_some] at h
  exact Option.some.inj h
theorem zo53 : ∀ x ∈ z53.cells.toList, x.oneCell' = true := by
  rw [zf53, Array.toList_replicate]
  intro x hx
  rw [List.eq_of_mem_replicate hx]; rfl
noncomputable def d53 : TD := ⟨Go.Proofs.Try.t52.desc, Go.Proofs.Try.t53.size, Go.Proofs.Try.t53.bytes, z53, true⟩
noncomputable def d2 : TD := ⟨Go.Proofs.Try.t2.desc, Go.Proofs.Try.t2.size, Go.Proofs.Try.t2.bytes, match Go.Proofs.Try.t2.zero with | some z => z | none => .bool false, false⟩
noncomputable def d3 : TD := ⟨Go.Proofs.Try.t3.desc, Go.Proofs.Try.t3.size, Go.Proofs.Try.t3.bytes, match Go.Proofs.Try.t3.zero with | some z => z | none => .bool false, false⟩
noncomputable def d4 : TD := ⟨Go.Proofs.Try.t4.desc, Go.Proofs.Try.t4.size, Go.Proofs.Try.t4.bytes, match Go.Proofs.Try.t4.zero with | some z => z | none => .bool false, false⟩
noncomputable def d5 : TD := ⟨Go.Proofs.Try.t5.desc, Go.Proofs.Try.t5.size, Go.Proofs.Try.t5.bytes, match Go.Proofs.Try.t5.zero with | some z => z | none => .bool false, false⟩
noncomputable def d7 : TD := ⟨Go.Proofs.Try.t7.desc, Go.Proofs.Try.t7.size, Go.Proofs.Try.t7.bytes, match Go.Proofs.Try.t7.zero with | some z => z | none => .bool false, false⟩
noncomputable def d9 : TD := ⟨Go.Proofs.Try.t9.desc, Go.Proofs.Try.t9.size, Go.Proofs.Try.t9.bytes, match Go.Proofs.Try.t9.zero with | some z => z | none => .bool false, false⟩
noncomputable def d12 : TD := ⟨Go.Proofs.Try.t12.desc, Go.Proofs.Try.t12.size, Go.Proofs.Try.t12.bytes, match Go.Proofs.Try.t12.zero with | some z => z | none => .bool false, false⟩
noncomputable def d13 : TD := ⟨Go.Proofs.Try.t13.desc, Go.Proofs.Try.t13.size, Go.Proofs.Try.t13.bytes, match Go.Proofs.Try.t13.zero with | some z => z | none => .bool false, false⟩
noncomputable def d15 : TD := ⟨Go.Proofs.Try.t15.desc, Go.Proofs.Try.t15.size, Go.Proofs.Try.t15.bytes, match Go.Proofs.Try.t15.zero with | some z => z | none => .bool false, false⟩
noncomputable def d16 : TD := ⟨Go.Proofs.Try.t16.desc, Go.Proofs.Try.t16.size, Go.Proofs.Try.t16.bytes, match Go.Proofs.Try.t16.zero with | some z => z | none => .bool false, false⟩
noncomputable def d17 : TD := ⟨Go.Proofs.Try.t17.desc, Go.Proofs.Try.t17.size, Go.Proofs.Try.t17.bytes, match Go.Proofs.Try.t17.zero with | some z => z | none => .bool false, false⟩
noncomputable def d18 : TD := ⟨Go.Proofs.Try.t18.desc, Go.Proofs.Try.t18.size, Go.Proofs.Try.t18.bytes, match Go.Proofs.Try.t18.zero with | some z => z | none => .bool false, false⟩
noncomputable def d21 : TD := ⟨Go.Proofs.Try.t21.desc, Go.Proofs.Try.t21.size, Go.Proofs.Try.t21.bytes, match Go.Proofs.Try.t21.zero with | some z => z | none => .bool false, false⟩
noncomputable def d22 : TD := ⟨Go.Proofs.Try.t22.desc, Go.Proofs.Try.t22.size, Go.Proofs.Try.t22.bytes, match Go.Proofs.Try.t22.zero with | some z => z | none => .bool false, false⟩
noncomputable def d24 : TD := ⟨Go.Proofs.Try.t24.desc, Go.Proofs.Try.t24.size, Go.Proofs.Try.t24.bytes, match Go.Proofs.Try.t24.zero with | some z => z | none => .bool false, false⟩
noncomputable def d25 : TD := ⟨Go.Proofs.Try.t25.desc, Go.Proofs.Try.t25.size, Go.Proofs.Try.t25.bytes, match Go.Proofs.Try.t25.zero with | some z => z | none => .bool false, true⟩
noncomputable def d26 : TD := ⟨Go.Proofs.Try.t25.desc, Go.Proofs.Try.t26.size, Go.Proofs.Try.t26.bytes, match Go.Proofs.Try.t26.zero with | some z => z | none => .bool false, true⟩
noncomputable def d27 : TD := ⟨Go.Proofs.Try.t27.desc, Go.Proofs.Try.t27.size, Go.Proofs.Try.t27.bytes, match Go.Proofs.Try.t27.zero with | some z => z | none => .bool false, true⟩
noncomputable def d28 : TD := ⟨Go.Proofs.Try.t27.desc, Go.Proofs.Try.t28.size, Go.Proofs.Try.t28.bytes, match Go.Proofs.Try.t28.zero with | some z => z | none => .bool false, true⟩
noncomputable def d31 : TD := ⟨Go.Proofs.Try.t31.desc, Go.Proofs.Try.t31.size, Go.Proofs.Try.t31.bytes, match Go.Proofs.Try.t31.zero with | some z => z | none => .bool false, false⟩
noncomputable def d36 : TD := ⟨Go.Proofs.Try.t36.desc, Go.Proofs.Try.t36.size, Go.Proofs.Try.t36.bytes, match Go.Proofs.Try.t36.zero with | some z => z | none => .bool false, false⟩
noncomputable def d41 : TD := ⟨Go.Proofs.Try.t41.desc, Go.Proofs.Try.t41.size, Go.Proofs.Try.t41.bytes, match Go.Proofs.Try.t41.zero with | some z => z | none => .bool false, false⟩
noncomputable def d46 : TD := ⟨Go.Proofs.Try.t46.desc, Go.Proofs.Try.t46.size, Go.Proofs.Try.t46.bytes, match Go.Proofs.Try.t46.zero with | some z => z | none => .bool false, false⟩
noncomputable def d48 : TD := ⟨Go.Proofs.Try.t48.desc, Go.Proofs.Try.t48.size, Go.Proofs.Try.t48.bytes, match Go.Proofs.Try.t48.zero with | some z => z | none => .bool false, false⟩
noncomputable def d50 : TD := ⟨Go.Proofs.Try.t50.desc, Go.Proofs.Try.t50.size, Go.Proofs.Try.t50.bytes, match Go.Proofs.Try.t50.zero with | some z => z | none => .bool false, false⟩
noncomputable def d54 : TD := ⟨Go.Proofs.Try.t54.desc, Go.Proofs.Try.t54.size, Go.Proofs.Try.t54.bytes, match Go.Proofs.Try.t54.zero with | some z => z | none => .bool false, false⟩
noncomputable def d55 : TD := ⟨Go.Proofs.Try.t55.desc, Go.Proofs.Try.t55.size, Go.Proofs.Try.t55.bytes, match Go.Proofs.Try.t55.zero with | some z => z | none => .bool false, true⟩
noncomputable def d56 : TD := ⟨Go.Proofs.Try.t55.desc, Go.Proofs.Try.t56.size, Go.Proofs.Try.t56.bytes, match Go.Proofs.Try.t56.zero with | some z => z | none => .bool false, true⟩
noncomputable def d65 : TD := ⟨Go.Proofs.Try.t65.desc, Go.Proofs.Try.t65.size, Go.Proofs.Try.t65.bytes, match Go.Proofs.Try.t65.zero with | some z => z | none => .bool false, false⟩
noncomputable def d72 : TD := ⟨Go.Proofs.Try.t72.desc, Go.Proofs.Try.t72.size, Go.Proofs.Try.t72.bytes, match Go.Proofs.Try.t72.zero with | some z => z | none => .bool false, true⟩
noncomputable def d73 : TD := ⟨Go.Proofs.Try.t72.desc, Go.Proofs.Try.t73.size, Go.Proofs.Try.t73.bytes, match Go.Proofs.Try.t73.zero with | some z => z | none => .bool false, true⟩
noncomputable def d74 : TD := ⟨Go.Proofs.Try.t74.desc, Go.Proofs.Try.t74.size, Go.Proofs.Try.t74.bytes, match Go.Proofs.Try.t74.zero with | some z => z | none => .bool false, true⟩
noncomputable def d75 : TD := ⟨Go.Proofs.Try.t74.desc, Go.Proofs.Try.t75.size, Go.Proofs.Try.t75.bytes, match Go.Proofs.Try.t75.zero with | some z => z | none => .bool false, true⟩
noncomputable def d76 : TD := ⟨Go.Proofs.Try.t76.desc, Go.Proofs.Try.t76.size, Go.Proofs.Try.t76.bytes, match Go.Proofs.Try.t76.zero with | some z => z | none => .bool false, false⟩
noncomputable def d77 : TD := ⟨Go.Proofs.Try.t77.desc, Go.Proofs.Try.t77.size, Go.Proofs.Try.t77.bytes, match Go.Proofs.Try.t77.zero with | some z => z | none => .bool false, false⟩
noncomputable def d78 : TD := ⟨Go.Proofs.Try.t78.desc, Go.Proofs.Try.t78.size, Go.Proofs.Try.t78.bytes, match Go.Proofs.Try.t78.zero with | some z => z | none => .bool false, true⟩
noncomputable def d79 : TD := ⟨Go.Proofs.Try.t78.desc, Go.Proofs.Try.t79.size, Go.Proofs.Try.t79.bytes, match Go.Proofs.Try.t79.zero with | some z => z | none => .bool false, true⟩
noncomputable def d80 : TD := ⟨Go.Proofs.Try.t80.desc, Go.Proofs.Try.t80.size, Go.Proofs.Try.t80.bytes, match Go.Proofs.Try.t80.zero with | some z => z | none => .bool false, true⟩
noncomputable def d81 : TD := ⟨Go.Proofs.Try.t80.desc, Go.Proofs.Try.t81.size, Go.Proofs.Try.t81.bytes, match Go.Proofs.Try.t81.zero with | some z => z | none => .bool false, true⟩
noncomputable def d90 : TD := ⟨Go.Proofs.Try.t90.desc, Go.Proofs.Try.t90.size, Go.Proofs.Try.t90.bytes, match Go.Proofs.Try.t90.zero with | some z => z | none => .bool false, true⟩
noncomputable def d91 : TD := ⟨Go.Proofs.Try.t90.desc, Go.Proofs.Try.t91.size, Go.Proofs.Try.t91.bytes, match Go.Proofs.Try.t91.zero with | some z => z | none => .bool false, true⟩
noncomputable def d93 : TD := ⟨Go.Proofs.Try.t93.desc, Go.Proofs.Try.t93.size, Go.Proofs.Try.t93.bytes, match Go.Proofs.Try.t93.zero with | some z => z | none => .bool false, false⟩
noncomputable def d94 : TD := ⟨Go.Proofs.Try.t93.desc, Go.Proofs.Try.t94.size, Go.Proofs.Try.t94.bytes, match Go.Proofs.Try.t94.zero with | some z => z | none => .bool false, false⟩
noncomputable def d99 : TD := ⟨Go.Proofs.Try.t99.desc, Go.Proofs.Try.t99.size, Go.Proofs.Try.t99.bytes, match Go.Proofs.Try.t99.zero with | some z => z | none => .bool false, true⟩
noncomputable def d100 : TD := ⟨Go.Proofs.Try.t99.desc, Go.Proofs.Try.t100.size, Go.Proofs.Try.t100.bytes, match Go.Proofs.Try.t100.zero with | some z => z | none => .bool false, true⟩
noncomputable def d104 : TD := ⟨Go.Proofs.Try.t104.desc, Go.Proofs.Try.t104.size, Go.Proofs.Try.t104.bytes, match Go.Proofs.Try.t104.zero with | some z => z | none => .bool false, false⟩
noncomputable def d106 : TD := ⟨Go.Proofs.Try.t106.desc, Go.Proofs.Try.t106.size, Go.Proofs.Try.t106.bytes, match Go.Proofs.Try.t106.zero with | some z => z | none => .bool false, false⟩
noncomputable def d107 : TD := ⟨Go.Proofs.Try.t106.desc, Go.Proofs.Try.t107.size, Go.Proofs.Try.t107.bytes, match Go.Proofs.Try.t107.zero with | some z => z | none => .bool false, false⟩
noncomputable def d109 : TD := ⟨Go.Proofs.Try.t109.desc, Go.Proofs.Try.t109.size, Go.Proofs.Try.t109.bytes, match Go.Proofs.Try.t109.zero with | some z => z | none => .bool false, true⟩
noncomputable def d110 : TD := ⟨Go.Proofs.Try.t109.desc, Go.Proofs.Try.t110.size, Go.Proofs.Try.t110.bytes, match Go.Proofs.Try.t110.zero with | some z => z | none => .bool false, true⟩
noncomputable def d131 : TD := ⟨Go.Proofs.Try.t131.desc, Go.Proofs.Try.t131.size, Go.Proofs.Try.t131.bytes, match Go.Proofs.Try.t131.zero with | some z => z | none => .bool false, false⟩
noncomputable def d134 : TD := ⟨Go.Proofs.Try.t134.desc, Go.Proofs.Try.t134.size, Go.Proofs.Try.t134.bytes, match Go.Proofs.Try.t134.zero with | some z => z | none => .bool false, false⟩
noncomputable def d135 : TD := ⟨Go.Proofs.Try.t135.desc, Go.Proofs.Try.t135.size, Go.Proofs.Try.t135.bytes, match Go.Proofs.Try.t135.zero with | some z => z | none => .bool false, false⟩
noncomputable def d144 : TD := ⟨Go.Proofs.Try.t144.desc, Go.Proofs.Try.t144.size, Go.Proofs.Try.t144.bytes, match Go.Proofs.Try.t144.zero with | some z => z | none => .bool false, false⟩
noncomputable def d147 : TD := ⟨Go.Proofs.Try.t147.desc, Go.Proofs.Try.t147.size, Go.Proofs.Try.t147.bytes, match Go.Proofs.Try.t147.zero with | some z => z | none => .bool false, false⟩
noncomputable def d150 : TD := ⟨Go.Proofs.Try.t150.desc, Go.Proofs.Try.t150.size, Go.Proofs.Try.t150.bytes, match Go.Proofs.Try.t150.zero with | some z => z | none => .bool false, false⟩
noncomputable def d154 : TD := ⟨Go.Proofs.Try.t154.desc, Go.Proofs.Try.t154.size, Go.Proofs.Try.t154.bytes, match Go.Proofs.Try.t154.zero with | some z => z | none => .bool false, false⟩
noncomputable def d157 : TD := ⟨Go.Proofs.Try.t157.desc, Go.Proofs.Try.t157.size, Go.Proofs.Try.t157.bytes, match Go.Proofs.Try.t157.zero with | some z => z | none => .bool false, false⟩
noncomputable def T (t : Nat) : Option TD := match t with
  | 2 => some d2
  | 3 => some d3
  | 4 => some d4
  | 5 => some d5
  | 7 => some d7
  | 9 => some d9
  | 12 => some d12
  | 13 => some d13
  | 15 => some d15
  | 16 => some d16
  | 17 => some d17
  | 18 => some d18
  | 21 => some d21
  | 22 => some d22
  | 24 => some d24
  | 25 => some d25
  | 26 => some d26
  | 27 => some d27
  | 28 => some d28
  | 31 => some d31
  | 36 => some d36
  | 41 => some d41
  | 46 => some d46
  | 48 => some d48
  | 50 => some d50
  | 54 => some d54
  | 55 => some d55
  | 56 => some d56
  | 65 => some d65
  | 72 => some d72
  | 73 => some d73
  | 74 => some d74
  | 75 => some d75
  | 76 => some d76
  | 77 => some d77
  | 78 => some d78
  | 79 => some d79
  | 80 => some d80
  | 81 => some d81
  | 90 => some d90
  | 91 => some d91
  | 93 => some d93
  | 94 => some d94
  | 99 => some d99
  | 100 => some d100
  | 104 => some d104
  | 106 => some d106
  | 107 => some d107
  | 109 => some d109
  | 110 => some d110
  | 131 => some d131
  | 134 => some d134
  | 135 => some d135
  | 144 => some d144
  | 147 => some d147
  | 150 => some d150
  | 154 => some d154
  | 157 => some d157
  | 51 => some d51
  | 52 => some d52
  | 53 => some d53
  | _ => none
def RowOk (t : Nat) (d : TD) : Prop := Go.Proofs.Try.prog.underlying t = some d.und ∧ (∃ i, Go.Proofs.Try.prog.info? t = some i ∧ i.size = d.size ∧ i.bytes = d.bytes ∧ i.zero = some d.zero) ∧ (∀ x ∈ d.zero.cells.toList, x.oneCell' = true) ∧ (d.eqs = true → Go.Proofs.Try.prog.stoodInHeld t = false ∧ Go.Proofs.Try.prog.eqGuardType Go.Proofs.Try.prog.depth t = false ∧ (fieldsOf d.und).all (fun f => f.name != "_") = true)
theorem ok51 : RowOk 51 d51 := ⟨by kernel_rfl, ⟨Go.Proofs.Try.t51, by kernel_rfl, by kernel_rfl, by kernel_rfl, zq51⟩, zo51, fun _ => ⟨by kernel_rfl, by kernel_rfl, by kernel_rfl⟩⟩
theorem ok52 : RowOk 52 d52 := ⟨by kernel_rfl, ⟨Go.Proofs.Try.t52, by kernel_rfl, by kernel_rfl, by kernel_rfl, zq52⟩, zo52, fun _ => ⟨by kernel_rfl, by kernel_rfl, by kernel_rfl⟩⟩
theorem ok53 : RowOk 53 d53 := ⟨by kernel_rfl, ⟨Go.Proofs.Try.t53, by kernel_rfl, by kernel_rfl, by kernel_rfl, zq53⟩, zo53, fun _ => ⟨by kernel_rfl, by kernel_rfl, by kernel_rfl⟩⟩
theorem ok2 : RowOk 2 d2 := ⟨by kernel_rfl, ⟨Go.Proofs.Try.t2, by kernel_rfl, by kernel_rfl, by kernel_rfl, by kernel_rfl⟩, List.all_eq_true.1 (by kernel_rfl), fun h => by cases h⟩
theorem ok3 : RowOk 3 d3 := ⟨by kernel_rfl, ⟨Go.Proofs.Try.t3, by kernel_rfl, by kernel_rfl, by kernel_rfl, by kernel_rfl⟩, List.all_eq_true.1 (by kernel_rfl), fun h => by cases h⟩
theorem ok4 : RowOk 4 d4 := ⟨by kernel_rfl, ⟨Go.Proofs.Try.t4, by kernel_rfl, by kernel_rfl, by kernel_rfl, by kernel_rfl⟩, List.all_eq_true.1 (by kernel_rfl), fun h => by cases h⟩
theorem ok5 : RowOk 5 d5 := ⟨by kernel_rfl, ⟨Go.Proofs.Try.t5, by kernel_rfl, by kernel_rfl, by kernel_rfl, by kernel_rfl⟩, List.all_eq_true.1 (by kernel_rfl), fun h => by cases h⟩
theorem ok7 : RowOk 7 d7 := ⟨by kernel_rfl, ⟨Go.Proofs.Try.t7, by kernel_rfl, by kernel_rfl, by kernel_rfl, by kernel_rfl⟩, List.all_eq_true.1 (by kernel_rfl), fun h => by cases h⟩
theorem ok9 : RowOk 9 d9 := ⟨by kernel_rfl, ⟨Go.Proofs.Try.t9, by kernel_rfl, by kernel_rfl, by kernel_rfl, by kernel_rfl⟩, List.all_eq_true.1 (by kernel_rfl), fun h => by cases h⟩
theorem ok12 : RowOk 12 d12 := ⟨by kernel_rfl, ⟨Go.Proofs.Try.t12, by kernel_rfl, by kernel_rfl, by kernel_rfl, by kernel_rfl⟩, List.all_eq_true.1 (by kernel_rfl), fun h => by cases h⟩
theorem ok13 : RowOk 13 d13 := ⟨by kernel_rfl, ⟨Go.Proofs.Try.t13, by kernel_rfl, by kernel_rfl, by kernel_rfl, by kernel_rfl⟩, List.all_eq_true.1 (by kernel_rfl), fun h => by cases h⟩
theorem ok15 : RowOk 15 d15 := ⟨by kernel_rfl, ⟨Go.Proofs.Try.t15, by kernel_rfl, by kernel_rfl, by kernel_rfl, by kernel_rfl⟩, List.all_eq_true.1 (by kernel_rfl), fun h => by cases h⟩
theorem ok16 : RowOk 16 d16 := ⟨by kernel_rfl, ⟨Go.Proofs.Try.t16, by kernel_rfl, by kernel_rfl, by kernel_rfl, by kernel_rfl⟩, List.all_eq_true.1 (by kernel_rfl), fun h => by cases h⟩
theorem ok17 : RowOk 17 d17 := ⟨by kernel_rfl, ⟨Go.Proofs.Try.t17, by kernel_rfl, by kernel_rfl, by kernel_rfl, by kernel_rfl⟩, List.all_eq_true.1 (by kernel_rfl), fun h => by cases h⟩
theorem ok18 : RowOk 18 d18 := ⟨by kernel_rfl, ⟨Go.Proofs.Try.t18, by kernel_rfl, by kernel_rfl, by kernel_rfl, by kernel_rfl⟩, List.all_eq_true.1 (by kernel_rfl), fun h => by cases h⟩
theorem ok21 : RowOk 21 d21 := ⟨by kernel_rfl, ⟨Go.Proofs.Try.t21, by kernel_rfl, by kernel_rfl, by kernel_rfl, by kernel_rfl⟩, List.all_eq_true.1 (by kernel_rfl), fun h => by cases h⟩
theorem ok22 : RowOk 22 d22 := ⟨by kernel_rfl, ⟨Go.Proofs.Try.t22, by kernel_rfl, by kernel_rfl, by kernel_rfl, by kernel_rfl⟩, List.all_eq_true.1 (by kernel_rfl), fun h => by cases h⟩
theorem ok24 : RowOk 24 d24 := ⟨by kernel_rfl, ⟨Go.Proofs.Try.t24, by kernel_rfl, by kernel_rfl, by kernel_rfl, by kernel_rfl⟩, List.all_eq_true.1 (by kernel_rfl), fun h => by cases h⟩
theorem ok25 : RowOk 25 d25 := ⟨by kernel_rfl, ⟨Go.Proofs.Try.t25, by kernel_rfl, by kernel_rfl, by kernel_rfl, by kernel_rfl⟩, List.all_eq_true.1 (by kernel_rfl), fun _ => ⟨by kernel_rfl, by kernel_rfl, by kernel_rfl⟩⟩
theorem ok26 : RowOk 26 d26 := ⟨by kernel_rfl, ⟨Go.Proofs.Try.t26, by kernel_rfl, by kernel_rfl, by kernel_rfl, by kernel_rfl⟩, List.all_eq_true.1 (by kernel_rfl), fun _ => ⟨by kernel_rfl, by kernel_rfl, by kernel_rfl⟩⟩
theorem ok27 : RowOk 27 d27 := ⟨by kernel_rfl, ⟨Go.Proofs.Try.t27, by kernel_rfl, by kernel_rfl, by kernel_rfl, by kernel_rfl⟩, List.all_eq_true.1 (by kernel_rfl), fun _ => ⟨by kernel_rfl, by kernel_rfl, by kernel_rfl⟩⟩
theorem ok28 : RowOk 28 d28 := ⟨by kernel_rfl, ⟨Go.Proofs.Try.t28, by kernel_rfl, by kernel_rfl, by kernel_rfl, by kernel_rfl⟩, List.all_eq_true.1 (by kernel_rfl), fun _ => ⟨by kernel_rfl, by kernel_rfl, by kernel_rfl⟩⟩
theorem ok31 : RowOk 31 d31 := ⟨by kernel_rfl, ⟨Go.Proofs.Try.t31, by kernel_rfl, by kernel_rfl, by kernel_rfl, by kernel_rfl⟩, List.all_eq_true.1 (by kernel_rfl), fun h => by cases h⟩
theorem ok36 : RowOk 36 d36 := ⟨by kernel_rfl, ⟨Go.Proofs.Try.t36, by kernel_rfl, by kernel_rfl, by kernel_rfl, by kernel_rfl⟩, List.all_eq_true.1 (by kernel_rfl), fun h => by cases h⟩
theorem ok41 : RowOk 41 d41 := ⟨by kernel_rfl, ⟨Go.Proofs.Try.t41, by kernel_rfl, by kernel_rfl, by kernel_rfl, by kernel_rfl⟩, List.all_eq_true.1 (by kernel_rfl), fun h => by cases h⟩
theorem ok46 : RowOk 46 d46 := ⟨by kernel_rfl, ⟨Go.Proofs.Try.t46, by kernel_rfl, by kernel_rfl, by kernel_rfl, by kernel_rfl⟩, List.all_eq_true.1 (by kernel_rfl), fun h => by cases h⟩
theorem ok48 : RowOk 48 d48 := ⟨by kernel_rfl, ⟨Go.Proofs.Try.t48, by kernel_rfl, by kernel_rfl, by kernel_rfl, by kernel_rfl⟩, List.all_eq_true.1 (by kernel_rfl), fun h => by cases h⟩
theorem ok50 : RowOk 50 d50 := ⟨by kernel_rfl, ⟨Go.Proofs.Try.t50, by kernel_rfl, by kernel_rfl, by kernel_rfl, by kernel_rfl⟩, List.all_eq_true.1 (by kernel_rfl), fun h => by cases h⟩
theorem ok54 : RowOk 54 d54 := ⟨by kernel_rfl, ⟨Go.Proofs.Try.t54, by kernel_rfl, by kernel_rfl, by kernel_rfl, by kernel_rfl⟩, List.all_eq_true.1 (by kernel_rfl), fun h => by cases h⟩
theorem ok55 : RowOk 55 d55 := ⟨by kernel_rfl, ⟨Go.Proofs.Try.t55, by kernel_rfl, by kernel_rfl, by kernel_rfl, by kernel_rfl⟩, List.all_eq_true.1 (by kernel_rfl), fun _ => ⟨by kernel_rfl, by kernel_rfl, by kernel_rfl⟩⟩
theorem ok56 : RowOk 56 d56 := ⟨by kernel_rfl, ⟨Go.Proofs.Try.t56, by kernel_rfl, by kernel_rfl, by kernel_rfl, by kernel_rfl⟩, List.all_eq_true.1 (by kernel_rfl), fun _ => ⟨by kernel_rfl, by kernel_rfl, by kernel_rfl⟩⟩
theorem ok65 : RowOk 65 d65 := ⟨by kernel_rfl, ⟨Go.Proofs.Try.t65, by kernel_rfl, by kernel_rfl, by kernel_rfl, by kernel_rfl⟩, List.all_eq_true.1 (by kernel_rfl), fun h => by cases h⟩
theorem ok72 : RowOk 72 d72 := ⟨by kernel_rfl, ⟨Go.Proofs.Try.t72, by kernel_rfl, by kernel_rfl, by kernel_rfl, by kernel_rfl⟩, List.all_eq_true.1 (by kernel_rfl), fun _ => ⟨by kernel_rfl, by kernel_rfl, by kernel_rfl⟩⟩
theorem ok73 : RowOk 73 d73 := ⟨by kernel_rfl, ⟨Go.Proofs.Try.t73, by kernel_rfl, by kernel_rfl, by kernel_rfl, by kernel_rfl⟩, List.all_eq_true.1 (by kernel_rfl), fun _ => ⟨by kernel_rfl, by kernel_rfl, by kernel_rfl⟩⟩
theorem ok74 : RowOk 74 d74 := ⟨by kernel_rfl, ⟨Go.Proofs.Try.t74, by kernel_rfl, by kernel_rfl, by kernel_rfl, by kernel_rfl⟩, List.all_eq_true.1 (by kernel_rfl), fun _ => ⟨by kernel_rfl, by kernel_rfl, by kernel_rfl⟩⟩
theorem ok75 : RowOk 75 d75 := ⟨by kernel_rfl, ⟨Go.Proofs.Try.t75, by kernel_rfl, by kernel_rfl, by kernel_rfl, by kernel_rfl⟩, List.all_eq_true.1 (by kernel_rfl), fun _ => ⟨by kernel_rfl, by kernel_rfl, by kernel_rfl⟩⟩
theorem ok76 : RowOk 76 d76 := ⟨by kernel_rfl, ⟨Go.Proofs.Try.t76, by kernel_rfl, by kernel_rfl, by kernel_rfl, by kernel_rfl⟩, List.all_eq_true.1 (by kernel_rfl), fun h => by cases h⟩
theorem ok77 : RowOk 77 d77 := ⟨by kernel_rfl, ⟨Go.Proofs.Try.t77, by kernel_rfl, by kernel_rfl, by kernel_rfl, by kernel_rfl⟩, List.all_eq_true.1 (by kernel_rfl), fun h => by cases h⟩
theorem ok78 : RowOk 78 d78 := ⟨by kernel_rfl, ⟨Go.Proofs.Try.t78, by kernel_rfl, by kernel_rfl, by kernel_rfl, by kernel_rfl⟩, List.all_eq_true.1 (by kernel_rfl), fun _ => ⟨by kernel_rfl, by kernel_rfl, by kernel_rfl⟩⟩
theorem ok79 : RowOk 79 d79 := ⟨by kernel_rfl, ⟨Go.Proofs.Try.t79, by kernel_rfl, by kernel_rfl, by kernel_rfl, by kernel_rfl⟩, List.all_eq_true.1 (by kernel_rfl), fun _ => ⟨by kernel_rfl, by kernel_rfl, by kernel_rfl⟩⟩
theorem ok80 : RowOk 80 d80 := ⟨by kernel_rfl, ⟨Go.Proofs.Try.t80, by kernel_rfl, by kernel_rfl, by kernel_rfl, by kernel_rfl⟩, List.all_eq_true.1 (by kernel_rfl), fun _ => ⟨by kernel_rfl, by kernel_rfl, by kernel_rfl⟩⟩
theorem ok81 : RowOk 81 d81 := ⟨by kernel_rfl, ⟨Go.Proofs.Try.t81, by kernel_rfl, by kernel_rfl, by kernel_rfl, by kernel_rfl⟩, List.all_eq_true.1 (by kernel_rfl), fun _ => ⟨by kernel_rfl, by kernel_rfl, by kernel_rfl⟩⟩
theorem ok90 : RowOk 90 d90 := ⟨by kernel_rfl, ⟨Go.Proofs.Try.t90, by kernel_rfl, by kernel_rfl, by kernel_rfl, by kernel_rfl⟩, List.all_eq_true.1 (by kernel_rfl), fun _ => ⟨by kernel_rfl, by kernel_rfl, by kernel_rfl⟩⟩
theorem ok91 : RowOk 91 d91 := ⟨by kernel_rfl, ⟨Go.Proofs.Try.t91, by kernel_rfl, by kernel_rfl, by kernel_rfl, by kernel_rfl⟩, List.all_eq_true.1 (by kernel_rfl), fun _ => ⟨by kernel_rfl, by kernel_rfl, by kernel_rfl⟩⟩
theorem ok93 : RowOk 93 d93 := ⟨by kernel_rfl, ⟨Go.Proofs.Try.t93, by kernel_rfl, by kernel_rfl, by kernel_rfl, by kernel_rfl⟩, List.all_eq_true.1 (by kernel_rfl), fun h => by cases h⟩
theorem ok94 : RowOk 94 d94 := ⟨by kernel_rfl, ⟨Go.Proofs.Try.t94, by kernel_rfl, by kernel_rfl, by kernel_rfl, by kernel_rfl⟩, List.all_eq_true.1 (by kernel_rfl), fun h => by cases h⟩
theorem ok99 : RowOk 99 d99 := ⟨by kernel_rfl, ⟨Go.Proofs.Try.t99, by kernel_rfl, by kernel_rfl, by kernel_rfl, by kernel_rfl⟩, List.all_eq_true.1 (by kernel_rfl), fun _ => ⟨by kernel_rfl, by kernel_rfl, by kernel_rfl⟩⟩
theorem ok100 : RowOk 100 d100 := ⟨by kernel_rfl, ⟨Go.Proofs.Try.t100, by kernel_rfl, by kernel_rfl, by kernel_rfl, by kernel_rfl⟩, List.all_eq_true.1 (by kernel_rfl), fun _ => ⟨by kernel_rfl, by kernel_rfl, by kernel_rfl⟩⟩
theorem ok104 : RowOk 104 d104 := ⟨by kernel_rfl, ⟨Go.Proofs.Try.t104, by kernel_rfl, by kernel_rfl, by kernel_rfl, by kernel_rfl⟩, List.all_eq_true.1 (by kernel_rfl), fun h => by cases h⟩
theorem ok106 : RowOk 106 d106 := ⟨by kernel_rfl, ⟨Go.Proofs.Try.t106, by kernel_rfl, by kernel_rfl, by kernel_rfl, by kernel_rfl⟩, List.all_eq_true.1 (by kernel_rfl), fun h => by cases h⟩
theorem ok107 : RowOk 107 d107 := ⟨by kernel_rfl, ⟨Go.Proofs.Try.t107, by kernel_rfl, by kernel_rfl, by kernel_rfl, by kernel_rfl⟩, List.all_eq_true.1 (by kernel_rfl), fun h => by cases h⟩
theorem ok109 : RowOk 109 d109 := ⟨by kernel_rfl, ⟨Go.Proofs.Try.t109, by kernel_rfl, by kernel_rfl, by kernel_rfl, by kernel_rfl⟩, List.all_eq_true.1 (by kernel_rfl), fun _ => ⟨by kernel_rfl, by kernel_rfl, by kernel_rfl⟩⟩
theorem ok110 : RowOk 110 d110 := ⟨by kernel_rfl, ⟨Go.Proofs.Try.t110, by kernel_rfl, by kernel_rfl, by kernel_rfl, by kernel_rfl⟩, List.all_eq_true.1 (by kernel_rfl), fun _ => ⟨by kernel_rfl, by kernel_rfl, by kernel_rfl⟩⟩
theorem ok131 : RowOk 131 d131 := ⟨by kernel_rfl, ⟨Go.Proofs.Try.t131, by kernel_rfl, by kernel_rfl, by kernel_rfl, by kernel_rfl⟩, List.all_eq_true.1 (by kernel_rfl), fun h => by cases h⟩
theorem ok134 : RowOk 134 d134 := ⟨by kernel_rfl, ⟨Go.Proofs.Try.t134, by kernel_rfl, by kernel_rfl, by kernel_rfl, by kernel_rfl⟩, List.all_eq_true.1 (by kernel_rfl), fun h => by cases h⟩
theorem ok135 : RowOk 135 d135 := ⟨by kernel_rfl, ⟨Go.Proofs.Try.t135, by kernel_rfl, by kernel_rfl, by kernel_rfl, by kernel_rfl⟩, List.all_eq_true.1 (by kernel_rfl), fun h => by cases h⟩
theorem ok144 : RowOk 144 d144 := ⟨by kernel_rfl, ⟨Go.Proofs.Try.t144, by kernel_rfl, by kernel_rfl, by kernel_rfl, by kernel_rfl⟩, List.all_eq_true.1 (by kernel_rfl), fun h => by cases h⟩
theorem ok147 : RowOk 147 d147 := ⟨by kernel_rfl, ⟨Go.Proofs.Try.t147, by kernel_rfl, by kernel_rfl, by kernel_rfl, by kernel_rfl⟩, List.all_eq_true.1 (by kernel_rfl), fun h => by cases h⟩
theorem ok150 : RowOk 150 d150 := ⟨by kernel_rfl, ⟨Go.Proofs.Try.t150, by kernel_rfl, by kernel_rfl, by kernel_rfl, by kernel_rfl⟩, List.all_eq_true.1 (by kernel_rfl), fun h => by cases h⟩
theorem ok154 : RowOk 154 d154 := ⟨by kernel_rfl, ⟨Go.Proofs.Try.t154, by kernel_rfl, by kernel_rfl, by kernel_rfl, by kernel_rfl⟩, List.all_eq_true.1 (by kernel_rfl), fun h => by cases h⟩
theorem ok157 : RowOk 157 d157 := ⟨by kernel_rfl, ⟨Go.Proofs.Try.t157, by kernel_rfl, by kernel_rfl, by kernel_rfl, by kernel_rfl⟩, List.all_eq_true.1 (by kernel_rfl), fun h => by cases h⟩
theorem tok : TOk Go.Proofs.Try.prog T := by
  intro t d h
  unfold T at h
  split at h
  · injection h with h; subst h; exact ok2
  · injection h with h; subst h; exact ok3
  · injection h with h; subst h; exact ok4
  · injection h with h; subst h; exact ok5
  · injection h with h; subst h; exact ok7
  · injection h with h; subst h; exact ok9
  · injection h with h; subst h; exact ok12
  · injection h with h; subst h; exact ok13
  · injection h with h; subst h; exact ok15
  · injection h with h; subst h; exact ok16
  · injection h with h; subst h; exact ok17
  · injection h with h; subst h; exact ok18
  · injection h with h; subst h; exact ok21
  · injection h with h; subst h; exact ok22
  · injection h with h; subst h; exact ok24
  · injection h with h; subst h; exact ok25
  · injection h with h; subst h; exact ok26
  · injection h with h; subst h; exact ok27
  · injection h with h; subst h; exact ok28
  · injection h with h; subst h; exact ok31
  · injection h with h; subst h; exact ok36
  · injection h with h; subst h; exact ok41
  · injection h with h; subst h; exact ok46
  · injection h with h; subst h; exact ok48
  · injection h with h; subst h; exact ok50
  · injection h with h; subst h; exact ok54
  · injection h with h; subst h; exact ok55
  · injection h with h; subst h; exact ok56
  · injection h with h; subst h; exact ok65
  · injection h with h; subst h; exact ok72
  · injection h with h; subst h; exact ok73
  · injection h with h; subst h; exact ok74
  · injection h with h; subst h; exact ok75
  · injection h with h; subst h; exact ok76
  · injection h with h; subst h; exact ok77
  · injection h with h; subst h; exact ok78
  · injection h with h; subst h; exact ok79
  · injection h with h; subst h; exact ok80
  · injection h with h; subst h; exact ok81
  · injection h with h; subst h; exact ok90
  · injection h with h; subst h; exact ok91
  · injection h with h; subst h; exact ok93
  · injection h with h; subst h; exact ok94
  · injection h with h; subst h; exact ok99
  · injection h with h; subst h; exact ok100
  · injection h with h; subst h; exact ok104
  · injection h with h; subst h; exact ok106
  · injection h with h; subst h; exact ok107
  · injection h with h; subst h; exact ok109
  · injection h with h; subst h; exact ok110
  · injection h with h; subst h; exact ok131
  · injection h with h; subst h; exact ok134
  · injection h with h; subst h; exact ok135
  · injection h with h; subst h; exact ok144
  · injection h with h; subst h; exact ok147
  · injection h with h; subst h; exact ok150
  · injection h with h; subst h; exact ok154
  · injection h with h; subst h; exact ok157
  · injection h with h; subst h; exact ok51
  · injection h with h; subst h; exact ok52
  · injection h with h; subst h; exact ok53
  · cases h
end Go.Proofs.Ytpobpihakgegbaa.AM
