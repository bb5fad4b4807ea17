/-
  THE TABLE OF TYPES of the seat. No condition.
-/
import Derived.Test.YtnpcpbkbenphaaaAmE
import Derived.Test.YtnpcpbkbenphaaaProg
import Derived.KernelRfl
namespace Go.Proofs.Ytnpcpbkbenphaaa.AM
open Go Go.Proofs Go.RowKit
set_option linter.unusedVariables false
set_option linter.unusedSimpArgs false
set_option maxRecDepth 100000

noncomputable def d2 : TD := ⟨Go.Proofs.Try.t2.desc, Go.Proofs.Try.t2.size, Go.Proofs.Try.t2.bytes, match Go.Proofs.Try.t2.zero with | some z => z | none => .bool false, false⟩
noncomputable def d3 : TD := ⟨Go.Proofs.Try.t3.desc, Go.Proofs.Try.t3.size, Go.Proofs.Try.t3.bytes, match Go.Proofs.Try.t3.zero with | some z => z | none => .bool false, false⟩
noncomputable def d4 : TD := ⟨Go.Proofs.Try.t4.desc, Go.Proofs.Try.t4.size, Go.Proofs.Try.t4.bytes, match Go.Proofs.Try.t4.zero with | some z => z | none => .bool false, false⟩
noncomputable def d5 : TD := ⟨Go.Proofs.Try.t5.desc, Go.Proofs.Try.t5.size, Go.Proofs.Try.t5.bytes, match Go.Proofs.Try.t5.zero with | some z => z | none => .bool false, false⟩
noncomputable def d7 : TD := ⟨Go.Proofs.Try.t7.desc, Go.Proofs.Try.t7.size, Go.Proofs.Try.t7.bytes, match Go.Proofs.Try.t7.zero with | some z => z | none => .bool false, false⟩
noncomputable def d9 : TD := ⟨Go.Proofs.Try.t9.desc, Go.Proofs.Try.t9.size, Go.Proofs.Try.t9.bytes, match Go.Proofs.Try.t9.zero with | some z => z | none => .bool false, false⟩
noncomputable def d12 : TD := ⟨Go.Proofs.Try.t12.desc, Go.Proofs.Try.t12.size, Go.Proofs.Try.t12.bytes, match Go.Proofs.Try.t12.zero with | some z => z | none => .bool false, false⟩
noncomputable def d13 : TD := ⟨Go.Proofs.Try.t13.desc, Go.Proofs.Try.t13.size, Go.Proofs.Try.t13.bytes, match Go.Proofs.Try.t13.zero with | some z => z | none => .bool false, false⟩
noncomputable def d15 : TD := ⟨Go.Proofs.Try.t15.desc, Go.Proofs.Try.t15.size, Go.Proofs.Try.t15.bytes, match Go.Proofs.Try.t15.zero with | some z => z | none => .bool false, false⟩
noncomputable def d16 : TD := ⟨Go.Proofs.Try.t16.desc, Go.Proofs.Try.t16.size, Go.Proofs.Try.t16.bytes, match Go.Proofs.Try.t16.zero with | some z => z | none => .bool false, false⟩
noncomputable def d17 : TD := ⟨Go.Proofs.Try.t17.desc, Go.Proofs.Try.t17.size, Go.Proofs.Try.t17.bytes, match Go.Proofs.Try.t17.zero with | some z => z | none => .bool false, false⟩
noncomputable def d18 : TD := ⟨Go.Proofs.Try.t18.desc, Go.Proofs.Try.t18.size, Go.Proofs.Try.t18.bytes, match Go.Proofs.Try.t18.zero with | some z => z | none => .bool false, false⟩
noncomputable def d21 : TD := ⟨Go.Proofs.Try.t21.desc, Go.Proofs.Try.t21.size, Go.Proofs.Try.t21.bytes, match Go.Proofs.Try.t21.zero with | some z => z | none => .bool false, false⟩
noncomputable def d22 : TD := ⟨Go.Proofs.Try.t22.desc, Go.Proofs.Try.t22.size, Go.Proofs.Try.t22.bytes, match Go.Proofs.Try.t22.zero with | some z => z | none => .bool false, false⟩
noncomputable def d24 : TD := ⟨Go.Proofs.Try.t24.desc, Go.Proofs.Try.t24.size, Go.Proofs.Try.t24.bytes, match Go.Proofs.Try.t24.zero with | some z => z | none => .bool false, false⟩
noncomputable def d25 : TD := ⟨Go.Proofs.Try.t25.desc, Go.Proofs.Try.t25.size, Go.Proofs.Try.t25.bytes, match Go.Proofs.Try.t25.zero with | some z => z | none => .bool false, true⟩
noncomputable def d26 : TD := ⟨Go.Proofs.Try.t25.desc, Go.Proofs.Try.t26.size, Go.Proofs.Try.t26.bytes, match Go.Proofs.Try.t26.zero with | some z => z | none => .bool false, true⟩
noncomputable def d30 : TD := ⟨Go.Proofs.Try.t30.desc, Go.Proofs.Try.t30.size, Go.Proofs.Try.t30.bytes, match Go.Proofs.Try.t30.zero with | some z => z | none => .bool false, false⟩
noncomputable def d32 : TD := ⟨Go.Proofs.Try.t32.desc, Go.Proofs.Try.t32.size, Go.Proofs.Try.t32.bytes, match Go.Proofs.Try.t32.zero with | some z => z | none => .bool false, false⟩
noncomputable def d37 : TD := ⟨Go.Proofs.Try.t37.desc, Go.Proofs.Try.t37.size, Go.Proofs.Try.t37.bytes, match Go.Proofs.Try.t37.zero with | some z => z | none => .bool false, false⟩
noncomputable def d43 : TD := ⟨Go.Proofs.Try.t43.desc, Go.Proofs.Try.t43.size, Go.Proofs.Try.t43.bytes, match Go.Proofs.Try.t43.zero with | some z => z | none => .bool false, false⟩
noncomputable def d44 : TD := ⟨Go.Proofs.Try.t44.desc, Go.Proofs.Try.t44.size, Go.Proofs.Try.t44.bytes, match Go.Proofs.Try.t44.zero with | some z => z | none => .bool false, false⟩
noncomputable def d45 : TD := ⟨Go.Proofs.Try.t45.desc, Go.Proofs.Try.t45.size, Go.Proofs.Try.t45.bytes, match Go.Proofs.Try.t45.zero with | some z => z | none => .bool false, false⟩
noncomputable def d46 : TD := ⟨Go.Proofs.Try.t46.desc, Go.Proofs.Try.t46.size, Go.Proofs.Try.t46.bytes, match Go.Proofs.Try.t46.zero with | some z => z | none => .bool false, true⟩
noncomputable def d47 : TD := ⟨Go.Proofs.Try.t46.desc, Go.Proofs.Try.t47.size, Go.Proofs.Try.t47.bytes, match Go.Proofs.Try.t47.zero with | some z => z | none => .bool false, true⟩
noncomputable def d50 : TD := ⟨Go.Proofs.Try.t50.desc, Go.Proofs.Try.t50.size, Go.Proofs.Try.t50.bytes, match Go.Proofs.Try.t50.zero with | some z => z | none => .bool false, false⟩
noncomputable def d51 : TD := ⟨Go.Proofs.Try.t50.desc, Go.Proofs.Try.t51.size, Go.Proofs.Try.t51.bytes, match Go.Proofs.Try.t51.zero with | some z => z | none => .bool false, false⟩
noncomputable def d52 : TD := ⟨Go.Proofs.Try.t52.desc, Go.Proofs.Try.t52.size, Go.Proofs.Try.t52.bytes, match Go.Proofs.Try.t52.zero with | some z => z | none => .bool false, false⟩
noncomputable def d54 : TD := ⟨Go.Proofs.Try.t54.desc, Go.Proofs.Try.t54.size, Go.Proofs.Try.t54.bytes, match Go.Proofs.Try.t54.zero with | some z => z | none => .bool false, false⟩
noncomputable def d55 : TD := ⟨Go.Proofs.Try.t55.desc, Go.Proofs.Try.t55.size, Go.Proofs.Try.t55.bytes, match Go.Proofs.Try.t55.zero with | some z => z | none => .bool false, false⟩
noncomputable def d56 : TD := ⟨Go.Proofs.Try.t56.desc, Go.Proofs.Try.t56.size, Go.Proofs.Try.t56.bytes, match Go.Proofs.Try.t56.zero with | some z => z | none => .bool false, true⟩
noncomputable def d57 : TD := ⟨Go.Proofs.Try.t56.desc, Go.Proofs.Try.t57.size, Go.Proofs.Try.t57.bytes, match Go.Proofs.Try.t57.zero with | some z => z | none => .bool false, true⟩
noncomputable def d58 : TD := ⟨Go.Proofs.Try.t58.desc, Go.Proofs.Try.t58.size, Go.Proofs.Try.t58.bytes, match Go.Proofs.Try.t58.zero with | some z => z | none => .bool false, true⟩
noncomputable def d59 : TD := ⟨Go.Proofs.Try.t58.desc, Go.Proofs.Try.t59.size, Go.Proofs.Try.t59.bytes, match Go.Proofs.Try.t59.zero with | some z => z | none => .bool false, true⟩
noncomputable def d60 : TD := ⟨Go.Proofs.Try.t60.desc, Go.Proofs.Try.t60.size, Go.Proofs.Try.t60.bytes, match Go.Proofs.Try.t60.zero with | some z => z | none => .bool false, true⟩
noncomputable def d61 : TD := ⟨Go.Proofs.Try.t60.desc, Go.Proofs.Try.t61.size, Go.Proofs.Try.t61.bytes, match Go.Proofs.Try.t61.zero with | some z => z | none => .bool false, true⟩
noncomputable def d62 : TD := ⟨Go.Proofs.Try.t62.desc, Go.Proofs.Try.t62.size, Go.Proofs.Try.t62.bytes, match Go.Proofs.Try.t62.zero with | some z => z | none => .bool false, true⟩
noncomputable def d63 : TD := ⟨Go.Proofs.Try.t62.desc, Go.Proofs.Try.t63.size, Go.Proofs.Try.t63.bytes, match Go.Proofs.Try.t63.zero with | some z => z | none => .bool false, true⟩
noncomputable def d65 : TD := ⟨Go.Proofs.Try.t65.desc, Go.Proofs.Try.t65.size, Go.Proofs.Try.t65.bytes, match Go.Proofs.Try.t65.zero with | some z => z | none => .bool false, true⟩
noncomputable def d66 : TD := ⟨Go.Proofs.Try.t65.desc, Go.Proofs.Try.t66.size, Go.Proofs.Try.t66.bytes, match Go.Proofs.Try.t66.zero with | some z => z | none => .bool false, true⟩
noncomputable def d68 : TD := ⟨Go.Proofs.Try.t68.desc, Go.Proofs.Try.t68.size, Go.Proofs.Try.t68.bytes, match Go.Proofs.Try.t68.zero with | some z => z | none => .bool false, true⟩
noncomputable def d69 : TD := ⟨Go.Proofs.Try.t68.desc, Go.Proofs.Try.t69.size, Go.Proofs.Try.t69.bytes, match Go.Proofs.Try.t69.zero with | some z => z | none => .bool false, true⟩
noncomputable def d71 : TD := ⟨Go.Proofs.Try.t71.desc, Go.Proofs.Try.t71.size, Go.Proofs.Try.t71.bytes, match Go.Proofs.Try.t71.zero with | some z => z | none => .bool false, false⟩
noncomputable def d72 : TD := ⟨Go.Proofs.Try.t71.desc, Go.Proofs.Try.t72.size, Go.Proofs.Try.t72.bytes, match Go.Proofs.Try.t72.zero with | some z => z | none => .bool false, false⟩
noncomputable def d84 : TD := ⟨Go.Proofs.Try.t84.desc, Go.Proofs.Try.t84.size, Go.Proofs.Try.t84.bytes, match Go.Proofs.Try.t84.zero with | some z => z | none => .bool false, false⟩
noncomputable def d85 : TD := ⟨Go.Proofs.Try.t85.desc, Go.Proofs.Try.t85.size, Go.Proofs.Try.t85.bytes, match Go.Proofs.Try.t85.zero with | some z => z | none => .bool false, false⟩
noncomputable def d86 : TD := ⟨Go.Proofs.Try.t85.desc, Go.Proofs.Try.t86.size, Go.Proofs.Try.t86.bytes, match Go.Proofs.Try.t86.zero with | some z => z | none => .bool false, false⟩
noncomputable def d105 : TD := ⟨Go.Proofs.Try.t105.desc, Go.Proofs.Try.t105.size, Go.Proofs.Try.t105.bytes, match Go.Proofs.Try.t105.zero with | some z => z | none => .bool false, false⟩
noncomputable def d106 : TD := ⟨Go.Proofs.Try.t106.desc, Go.Proofs.Try.t106.size, Go.Proofs.Try.t106.bytes, match Go.Proofs.Try.t106.zero with | some z => z | none => .bool false, false⟩
noncomputable def d107 : TD := ⟨Go.Proofs.Try.t106.desc, Go.Proofs.Try.t107.size, Go.Proofs.Try.t107.bytes, match Go.Proofs.Try.t107.zero with | some z => z | none => .bool false, false⟩
noncomputable def d114 : TD := ⟨Go.Proofs.Try.t114.desc, Go.Proofs.Try.t114.size, Go.Proofs.Try.t114.bytes, match Go.Proofs.Try.t114.zero with | some z => z | none => .bool false, false⟩
noncomputable def d122 : TD := ⟨Go.Proofs.Try.t122.desc, Go.Proofs.Try.t122.size, Go.Proofs.Try.t122.bytes, match Go.Proofs.Try.t122.zero with | some z => z | none => .bool false, false⟩
noncomputable def d125 : TD := ⟨Go.Proofs.Try.t125.desc, Go.Proofs.Try.t125.size, Go.Proofs.Try.t125.bytes, match Go.Proofs.Try.t125.zero with | some z => z | none => .bool false, false⟩
noncomputable def d128 : TD := ⟨Go.Proofs.Try.t128.desc, Go.Proofs.Try.t128.size, Go.Proofs.Try.t128.bytes, match Go.Proofs.Try.t128.zero with | some z => z | none => .bool false, false⟩
noncomputable def d132 : TD := ⟨Go.Proofs.Try.t132.desc, Go.Proofs.Try.t132.size, Go.Proofs.Try.t132.bytes, match Go.Proofs.Try.t132.zero with | some z => z | none => .bool false, false⟩
noncomputable def d135 : TD := ⟨Go.Proofs.Try.t135.desc, Go.Proofs.Try.t135.size, Go.Proofs.Try.t135.bytes, match Go.Proofs.Try.t135.zero with | some z => z | none => .bool false, false⟩
noncomputable def T (t : Nat) : Option TD := match t with
  | 2 => some d2
  | 3 => some d3
  | 4 => some d4
  | 5 => some d5
  | 7 => some d7
  | 9 => some d9
  | 12 => some d12
  | 13 => some d13
  | 15 => some d15
  | 16 => some d16
  | 17 => some d17
  | 18 => some d18
  | 21 => some d21
  | 22 => some d22
  | 24 => some d24
  | 25 => some d25
  | 26 => some d26
  | 30 => some d30
  | 32 => some d32
  | 37 => some d37
  | 43 => some d43
  | 44 => some d44
  | 45 => some d45
  | 46 => some d46
  | 47 => some d47
  | 50 => some d50
  | 51 => some d51
  | 52 => some d52
  | 54 => some d54
  | 55 => some d55
  | 56 => some d56
  | 57 => some d57
  | 58 => some d58
  | 59 => some d59
  | 60 => some d60
  | 61 => some d61
  | 62 => some d62
  | 63 => some d63
  | 65 => some d65
  | 66 => some d66
  | 68 => some d68
  | 69 => some d69
  | 71 => some d71
  | 72 => some d72
  | 84 => some d84
  | 85 => some d85
  | 86 => some d86
  | 105 => some d105
  | 106 => some d106
  | 107 => some d107
  | 114 => some d114
  | 122 => some d122
  | 125 => some d125
  | 128 => some d128
  | 132 => some d132
  | 135 => some d135
  | _ => none
def RowOk (t : Nat) (d : TD) : Prop := Go.Proofs.Try.prog.underlying t = some d.und ∧ (∃ i, Go.Proofs.Try.prog.info? t = some i ∧ i.size = d.size ∧ i.bytes = d.bytes ∧ i.zero = some d.zero) ∧ (∀ x ∈ d.zero.cells.toList, x.oneCell' = true) ∧ (d.eqs = true → Go.Proofs.Try.prog.stoodInHeld t = false ∧ Go.Proofs.Try.prog.eqGuardType Go.Proofs.Try.prog.depth t = false ∧ (fieldsOf d.und).all (fun f => f.name != "_") = true)
theorem ok2 : RowOk 2 d2 := ⟨by kernel_rfl, ⟨Go.Proofs.Try.t2, by kernel_rfl, by kernel_rfl, by kernel_rfl, by kernel_rfl⟩, List.all_eq_true.1 (by kernel_rfl), fun h => by cases h⟩
theorem ok3 : RowOk 3 d3 := ⟨by kernel_rfl, ⟨Go.Proofs.Try.t3, by kernel_rfl, by kernel_rfl, by kernel_rfl, by kernel_rfl⟩, List.all_eq_true.1 (by kernel_rfl), fun h => by cases h⟩
theorem ok4 : RowOk 4 d4 := ⟨by kernel_rfl, ⟨Go.Proofs.Try.t4, by kernel_rfl, by kernel_rfl, by kernel_rfl, by kernel_rfl⟩, List.all_eq_true.1 (by kernel_rfl), fun h => by cases h⟩
theorem ok5 : RowOk 5 d5 := ⟨by kernel_rfl, ⟨Go.Proofs.Try.t5, by kernel_rfl, by kernel_rfl, by kernel_rfl, by kernel_rfl⟩, List.all_eq_true.1 (by kernel_rfl), fun h => by cases h⟩
theorem ok7 : RowOk 7 d7 := ⟨by kernel_rfl, ⟨Go.Proofs.Try.t7, by kernel_rfl, by kernel_rfl, by kernel_rfl, by kernel_rfl⟩, List.all_eq_true.1 (by kernel_rfl), fun h => by cases h⟩
theorem ok9 : RowOk 9 d9 := ⟨by kernel_rfl, ⟨Go.Proofs.Try.t9, by kernel_rfl, by kernel_rfl, by kernel_rfl, by kernel_rfl⟩, List.all_eq_true.1 (by kernel_rfl), fun h => by cases h⟩
theorem ok12 : RowOk 12 d12 := ⟨by kernel_rfl, ⟨Go.Proofs.Try.t12, by kernel_rfl, by kernel_rfl, by kernel_rfl, by kernel_rfl⟩, List.all_eq_true.1 (by kernel_rfl), fun h => by cases h⟩
theorem ok13 : RowOk 13 d13 := ⟨by kernel_rfl, ⟨Go.Proofs.Try.t13, by kernel_rfl, by kernel_rfl, by kernel_rfl, by kernel_rfl⟩, List.all_eq_true.1 (by kernel_rfl), fun h => by cases h⟩
theorem ok15 : RowOk 15 d15 := ⟨by kernel_rfl, ⟨Go.Proofs.Try.t15, by kernel_rfl, by kernel_rfl, by kernel_rfl, by kernel_rfl⟩, List.all_eq_true.1 (by kernel_rfl), fun h => by cases h⟩
theorem ok16 : RowOk 16 d16 := ⟨by kernel_rfl, ⟨Go.Proofs.Try.t16, by kernel_rfl, by kernel_rfl, by kernel_rfl, by kernel_rfl⟩, List.all_eq_true.1 (by kernel_rfl), fun h => by cases h⟩
theorem ok17 : RowOk 17 d17 := ⟨by kernel_rfl, ⟨Go.Proofs.Try.t17, by kernel_rfl, by kernel_rfl, by kernel_rfl, by kernel_rfl⟩, List.all_eq_true.1 (by kernel_rfl), fun h => by cases h⟩
theorem ok18 : RowOk 18 d18 := ⟨by kernel_rfl, ⟨Go.Proofs.Try.t18, by kernel_rfl, by kernel_rfl, by kernel_rfl, by kernel_rfl⟩, List.all_eq_true.1 (by kernel_rfl), fun h => by cases h⟩
theorem ok21 : RowOk 21 d21 := ⟨by kernel_rfl, ⟨Go.Proofs.Try.t21, by kernel_rfl, by kernel_rfl, by kernel_rfl, by kernel_rfl⟩, List.all_eq_true.1 (by kernel_rfl), fun h => by cases h⟩
theorem ok22 : RowOk 22 d22 := ⟨by kernel_rfl, ⟨Go.Proofs.Try.t22, by kernel_rfl, by kernel_rfl, by kernel_rfl, by kernel_rfl⟩, List.all_eq_true.1 (by kernel_rfl), fun h => by cases h⟩
theorem ok24 : RowOk 24 d24 := ⟨by kernel_rfl, ⟨Go.Proofs.Try.t24, by kernel_rfl, by kernel_rfl, by kernel_rfl, by kernel_rfl⟩, List.all_eq_true.1 (by kernel_rfl), fun h => by cases h⟩
theorem ok25 : RowOk 25 d25 := ⟨by kernel_rfl, ⟨Go.Proofs.Try.t25, by kernel_rfl, by kernel_rfl, by kernel_rfl, by kernel_rfl⟩, List.all_eq_true.1 (by kernel_rfl), fun _ => ⟨by kernel_rfl, by kernel_rfl, by kernel_rfl⟩⟩
theorem ok26 : RowOk 26 d26 := ⟨by kernel_rfl, ⟨Go.Proofs.Try.t26, by kernel_rfl, by kernel_rfl, by kernel_rfl, by kernel_rfl⟩, List.all_eq_true.1 (by kernel_rfl), fun _ => ⟨by kernel_rfl, by kernel_rfl, by kernel_rfl⟩⟩
theorem ok30 : RowOk 30 d30 := ⟨by kernel_rfl, ⟨Go.Proofs.Try.t30, by kernel_rfl, by kernel_rfl, by kernel_rfl, by kernel_rfl⟩, List.all_eq_true.1 (by kernel_rfl), fun h => by cases h⟩
theorem ok32 : RowOk 32 d32 := ⟨by kernel_rfl, ⟨Go.Proofs.Try.t32, by kernel_rfl, by kernel_rfl, by kernel_rfl, by kernel_rfl⟩, List.all_eq_true.1 (by kernel_rfl), fun h => by cases h⟩
theorem ok37 : RowOk 37 d37 := ⟨by kernel_rfl, ⟨Go.Proofs.Try.t37, by kernel_rfl, by kernel_rfl, by kernel_rfl, by kernel_rfl⟩, List.all_eq_true.1 (by kernel_rfl), fun h => by cases h⟩
theorem ok43 : RowOk 43 d43 := ⟨by kernel_rfl, ⟨Go.Proofs.Try.t43, by kernel_rfl, by kernel_rfl, by kernel_rfl, by kernel_rfl⟩, List.all_eq_true.1 (by kernel_rfl), fun h => by cases h⟩
theorem ok44 : RowOk 44 d44 := ⟨by kernel_rfl, ⟨Go.Proofs.Try.t44, by kernel_rfl, by kernel_rfl, by kernel_rfl, by kernel_rfl⟩, List.all_eq_true.1 (by kernel_rfl), fun h => by cases h⟩
theorem ok45 : RowOk 45 d45 := ⟨by kernel_rfl, ⟨Go.Proofs.Try.t45, by kernel_rfl, by kernel_rfl, by kernel_rfl, by kernel_rfl⟩, List.all_eq_true.1 (by kernel_rfl), fun h => by cases h⟩
theorem ok46 : RowOk 46 d46 := ⟨by kernel_rfl, ⟨Go.Proofs.Try.t46, by kernel_rfl, by kernel_rfl, by kernel_rfl, by kernel_rfl⟩, List.all_eq_true.1 (by kernel_rfl), fun _ => ⟨by kernel_rfl, by kernel_rfl, by kernel_rfl⟩⟩
theorem ok47 : RowOk 47 d47 := ⟨by kernel_rfl, ⟨Go.Proofs.Try.t47, by kernel_rfl, by kernel_rfl, by kernel_rfl, by kernel_rfl⟩, List.all_eq_true.1 (by kernel_rfl), fun _ => ⟨by kernel_rfl, by kernel_rfl, by kernel_rfl⟩⟩
theorem ok50 : RowOk 50 d50 := ⟨by kernel_rfl, ⟨Go.Proofs.Try.t50, by kernel_rfl, by kernel_rfl, by kernel_rfl, by kernel_rfl⟩, List.all_eq_true.1 (by kernel_rfl), fun h => by cases h⟩
theorem ok51 : RowOk 51 d51 := ⟨by kernel_rfl, ⟨Go.Proofs.Try.t51, by kernel_rfl, by kernel_rfl, by kernel_rfl, by kernel_rfl⟩, List.all_eq_true.1 (by kernel_rfl), fun h => by cases h⟩
theorem ok52 : RowOk 52 d52 := ⟨by kernel_rfl, ⟨Go.Proofs.Try.t52, by kernel_rfl, by kernel_rfl, by kernel_rfl, by kernel_rfl⟩, List.all_eq_true.1 (by kernel_rfl), fun h => by cases h⟩
theorem ok54 : RowOk 54 d54 := ⟨by kernel_rfl, ⟨Go.Proofs.Try.t54, by kernel_rfl, by kernel_rfl, by kernel_rfl, by kernel_rfl⟩, List.all_eq_true.1 (by kernel_rfl), fun h => by cases h⟩
theorem ok55 : RowOk 55 d55 := ⟨by kernel_rfl, ⟨Go.Proofs.Try.t55, by kernel_rfl, by kernel_rfl, by kernel_rfl, by kernel_rfl⟩, List.all_eq_true.1 (by kernel_rfl), fun h => by cases h⟩
theorem ok56 : RowOk 56 d56 := ⟨by kernel_rfl, ⟨Go.Proofs.Try.t56, by kernel_rfl, by kernel_rfl, by kernel_rfl, by kernel_rfl⟩, List.all_eq_true.1 (by kernel_rfl), fun _ => ⟨by kernel_rfl, by kernel_rfl, by kernel_rfl⟩⟩
theorem ok57 : RowOk 57 d57 := ⟨by kernel_rfl, ⟨Go.Proofs.Try.t57, by kernel_rfl, by kernel_rfl, by kernel_rfl, by kernel_rfl⟩, List.all_eq_true.1 (by kernel_rfl), fun _ => ⟨by kernel_rfl, by kernel_rfl, by kernel_rfl⟩⟩
theorem ok58 : RowOk 58 d58 := ⟨by kernel_rfl, ⟨Go.Proofs.Try.t58, by kernel_rfl, by kernel_rfl, by kernel_rfl, by kernel_rfl⟩, List.all_eq_true.1 (by kernel_rfl), fun _ => ⟨by kernel_rfl, by kernel_rfl, by kernel_rfl⟩⟩
theorem ok59 : RowOk 59 d59 := ⟨by kernel_rfl, ⟨Go.Proofs.Try.t59, by kernel_rfl, by kernel_rfl, by kernel_rfl, by kernel_rfl⟩, List.all_eq_true.1 (by kernel_rfl), fun _ => ⟨by kernel_rfl, by kernel_rfl, by kernel_rfl⟩⟩
theorem ok60 : RowOk 60 d60 := ⟨by kernel_rfl, ⟨Go.Proofs.Try.t60, by kernel_rfl, by kernel_rfl, by kernel_rfl, by kernel_rfl⟩, List.all_eq_true.1 (by kernel_rfl), fun _ => ⟨by kernel_rfl, by kernel_rfl, by kernel_rfl⟩⟩
theorem ok61 : RowOk 61 d61 := ⟨by kernel_rfl, ⟨Go.Proofs.Try.t61, by kernel_rfl, by kernel_rfl, by kernel_rfl, by kernel_rfl⟩, List.all_eq_true.1 (by kernel_rfl), fun _ => ⟨by kernel_rfl, by kernel_rfl, by kernel_rfl⟩⟩
theorem ok62 : RowOk 62 d62 := ⟨by kernel_rfl, ⟨Go.Proofs.Try.t62, by kernel_rfl, by kernel_rfl, by kernel_rfl, by kernel_rfl⟩, List.all_eq_true.1 (by kernel_rfl), fun _ => ⟨by kernel_rfl, by kernel_rfl, by kernel_rfl⟩⟩
theorem ok63 : RowOk 63 d63 := ⟨by kernel_rfl, ⟨Go.Proofs.Try.t63, by kernel_rfl, by kernel_rfl, by kernel_rfl, by kernel_rfl⟩, List.all_eq_true.1 (by kernel_rfl), fun _ => ⟨by kernel_rfl, by kernel_rfl, by kernel_rfl⟩⟩
theorem ok65 : RowOk 65 d65 := ⟨by kernel_rfl, ⟨Go.Proofs.Try.t65, by kernel_rfl, by kernel_rfl, by kernel_rfl, by kernel_rfl⟩, List.all_eq_true.1 (by kernel_rfl), fun _ => ⟨by kernel_rfl, by kernel_rfl, by kernel_rfl⟩⟩
theorem ok66 : RowOk 66 d66 := ⟨by kernel_rfl, ⟨Go.Proofs.Try.t66, by kernel_rfl, by kernel_rfl, by kernel_rfl, by kernel_rfl⟩, List.all_eq_true.1 (by kernel_rfl), fun _ => ⟨by kernel_rfl, by kernel_rfl, by kernel_rfl⟩⟩
theorem ok68 : RowOk 68 d68 := ⟨by kernel_rfl, ⟨Go.Proofs.Try.t68, by kernel_rfl, by kernel_rfl, by kernel_rfl, by kernel_rfl⟩, List.all_eq_true.1 (by kernel_rfl), fun _ => ⟨by kernel_rfl, by kernel_rfl, by kernel_rfl⟩⟩
theorem ok69 : RowOk 69 d69 := ⟨by kernel_rfl, ⟨Go.Proofs.Try.t69, by kernel_rfl, by kernel_rfl, by kernel_rfl, by kernel_rfl⟩, List.all_eq_true.1 (by kernel_rfl), fun _ => ⟨by kernel_rfl, by kernel_rfl, by kernel_rfl⟩⟩
theorem ok71 : RowOk 71 d71 := ⟨by kernel_rfl, ⟨Go.Proofs.Try.t71, by kernel_rfl, by kernel_rfl, by kernel_rfl, by kernel_rfl⟩, List.all_eq_true.1 (by kernel_rfl), fun h => by cases h⟩
theorem ok72 : RowOk 72 d72 := ⟨by kernel_rfl, ⟨Go.Proofs.Try.t72, by kernel_rfl, by kernel_rfl, by kernel_rfl, by kernel_rfl⟩, List.all_eq_true.1 (by kernel_rfl), fun h => by cases h⟩
theorem ok84 : RowOk 84 d84 := ⟨by kernel_rfl, ⟨Go.Proofs.Try.t84, by kernel_rfl, by kernel_rfl, by kernel_rfl, by kernel_rfl⟩, List.all_eq_true.1 (by kernel_rfl), fun h => by cases h⟩
theorem ok85 : RowOk 85 d85 := ⟨by kernel_rfl, ⟨Go.Proofs.Try.t85, by kernel_rfl, by kernel_rfl, by kernel_rfl, by kernel_rfl⟩, List.all_eq_true.1 (by kernel_rfl), fun h => by cases h⟩
theorem ok86 : RowOk 86 d86 := ⟨by kernel_rfl, ⟨Go.Proofs.Try.t86, by kernel_rfl, by kernel_rfl, by kernel_rfl, by kernel_rfl⟩, List.all_eq_true.1 (by kernel_rfl), fun h => by cases h⟩
theorem ok105 : RowOk 105 d105 := ⟨by kernel_rfl, ⟨Go.Proofs.Try.t105, by kernel_rfl, by kernel_rfl, by kernel_rfl, by kernel_rfl⟩, List.all_eq_true.1 (by kernel_rfl), fun h => by cases h⟩
theorem ok106 : RowOk 106 d106 := ⟨by kernel_rfl, ⟨Go.Proofs.Try.t106, by kernel_rfl, by kernel_rfl, by kernel_rfl, by kernel_rfl⟩, List.all_eq_true.1 (by kernel_rfl), fun h => by cases h⟩
theorem ok107 : RowOk 107 d107 := ⟨by kernel_rfl, ⟨Go.Proofs.Try.t107, by kernel_rfl, by kernel_rfl, by kernel_rfl, by kernel_rfl⟩, List.all_eq_true.1 (by kernel_rfl), fun h => by cases h⟩
theorem ok114 : RowOk 114 d114 := ⟨by kernel_rfl, ⟨Go.Proofs.Try.t114, by kernel_rfl, by kernel_rfl, by kernel_rfl, by kernel_rfl⟩, List.all_eq_true.1 (by kernel_rfl), fun h => by cases h⟩
theorem ok122 : RowOk 122 d122 := ⟨by kernel_rfl, ⟨Go.Proofs.Try.t122, by kernel_rfl, by kernel_rfl, by kernel_rfl, by kernel_rfl⟩, List.all_eq_true.1 (by kernel_rfl), fun h => by cases h⟩
theorem ok125 : RowOk 125 d125 := ⟨by kernel_rfl, ⟨Go.Proofs.Try.t125, by kernel_rfl, by kernel_rfl, by kernel_rfl, by kernel_rfl⟩, List.all_eq_true.1 (by kernel_rfl), fun h => by cases h⟩
theorem ok128 : RowOk 128 d128 := ⟨by kernel_rfl, ⟨Go.Proofs.Try.t128, by kernel_rfl, by kernel_rfl, by kernel_rfl, by kernel_rfl⟩, List.all_eq_true.1 (by kernel_rfl), fun h => by cases h⟩
theorem ok132 : RowOk 132 d132 := ⟨by kernel_rfl, ⟨Go.Proofs.Try.t132, by kernel_rfl, by kernel_rfl, by kernel_rfl, by kernel_rfl⟩, List.all_eq_true.1 (by kernel_rfl), fun h => by cases h⟩
theorem ok135 : RowOk 135 d135 := ⟨by kernel_rfl, ⟨Go.Proofs.Try.t135, by kernel_rfl, by kernel_rfl, by kernel_rfl, by kernel_rfl⟩, List.all_eq_true.1 (by kernel_rfl), fun h => by cases h⟩
theorem tok : TOk Go.Proofs.Try.prog T := by
  intro t d h
  unfold T at h
  split at h
  · injection h with h; subst h; exact ok2
  · injection h with h; subst h; exact ok3
  · injection h with h; subst h; exact ok4
  · injection h with h; subst h; exact ok5
  · injection h with h; subst h; exact ok7
  · injection h with h; subst h; exact ok9
  · injection h with h; subst h; exact ok12
  · injection h with h; subst h; exact ok13
  · injection h with h; subst h; exact ok15
  · injection h with h; subst h; exact ok16
  · injection h with h; subst h; exact ok17
  · injection h with h; subst h; exact ok18
  · injection h with h; subst h; exact ok21
  · injection h with h; subst h; exact ok22
  · injection h with h; subst h; exact ok24
  · injection h with h; subst h; exact ok25
  · injection h with h; subst h; exact ok26
  · injection h with h; subst h; exact ok30
  · injection h with h; subst h; exact ok32
  · injection h with h; subst h; exact ok37
  · injection h with h; subst h; exact ok43
  · injection h with h; subst h; exact ok44
  · injection h with h; subst h; exact ok45
  · injection h with h; subst h; exact ok46
  · injection h with h; subst h; exact ok47
  · injection h with h; subst h; exact ok50
  · injection h with h; subst h; exact ok51
  · injection h with h; subst h; exact ok52
  · injection h with h; subst h; exact ok54
  · injection h with h; subst h; exact ok55
  · injection h with h; subst h; exact ok56
  · injection h with h; subst h; exact ok57
  · injection h with h; subst h; exact ok58
  · injection h with h; subst h; exact ok59
  · injection h with h; subst h; exact ok60
  · injection h with h; subst h; exact ok61
  · injection h with h; subst h; exact ok62
  · injection h with h; subst h; exact ok63
  · injection h with h; subst h; exact ok65
  · injection h with h; subst h; exact ok66
  · injection h with h; subst h; exact ok68
  · injection h with h; subst h; exact ok69
  · injection h with h; subst h; exact ok71
  · injection h with h; subst h; exact ok72
  · injection h with h; subst h; exact ok84
  · injection h with h; subst h; exact ok85
  · injection h with h; subst h; exact ok86
  · injection h with h; subst h; exact ok105
  · injection h with h; subst h; exact ok106
  · injection h with h; subst h; exact ok107
  · injection h with h; subst h; exact ok114
  · injection h with h; subst h; exact ok122
  · injection h with h; subst h; exact ok125
  · injection h with h; subst h; exact ok128
  · injection h with h; subst h; exact ok132
  · injection h with h; subst h; exact ok135
  · cases h
end Go.Proofs.Ytnpcpbkbenphaaa.AM
