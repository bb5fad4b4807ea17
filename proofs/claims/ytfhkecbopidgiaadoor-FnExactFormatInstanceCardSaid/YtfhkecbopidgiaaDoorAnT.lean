/-
  THE TABLE OF TYPES of the seat. No condition.
-/
import Derived.Test.YtfhkecbopidgiaaDoorAnE
import Derived.Test.YtfhkecbopidgiaaDoorProg
import Derived.KernelRfl
namespace Go.Proofs.YtfhkecbopidgiaaDoor.AM
open Go Go.Proofs Go.RowKit
set_option linter.unusedVariables false
set_option linter.unusedSimpArgs false
set_option maxRecDepth 100000

noncomputable def d2 : TD := ⟨Go.Proofs.Tryd.t2.desc, Go.Proofs.Tryd.t2.size, Go.Proofs.Tryd.t2.bytes, match Go.Proofs.Tryd.t2.zero with | some z => z | none => .bool false, false⟩
noncomputable def d3 : TD := ⟨Go.Proofs.Tryd.t3.desc, Go.Proofs.Tryd.t3.size, Go.Proofs.Tryd.t3.bytes, match Go.Proofs.Tryd.t3.zero with | some z => z | none => .bool false, false⟩
noncomputable def d4 : TD := ⟨Go.Proofs.Tryd.t4.desc, Go.Proofs.Tryd.t4.size, Go.Proofs.Tryd.t4.bytes, match Go.Proofs.Tryd.t4.zero with | some z => z | none => .bool false, false⟩
noncomputable def d5 : TD := ⟨Go.Proofs.Tryd.t5.desc, Go.Proofs.Tryd.t5.size, Go.Proofs.Tryd.t5.bytes, match Go.Proofs.Tryd.t5.zero with | some z => z | none => .bool false, false⟩
noncomputable def d7 : TD := ⟨Go.Proofs.Tryd.t7.desc, Go.Proofs.Tryd.t7.size, Go.Proofs.Tryd.t7.bytes, match Go.Proofs.Tryd.t7.zero with | some z => z | none => .bool false, false⟩
noncomputable def d9 : TD := ⟨Go.Proofs.Tryd.t9.desc, Go.Proofs.Tryd.t9.size, Go.Proofs.Tryd.t9.bytes, match Go.Proofs.Tryd.t9.zero with | some z => z | none => .bool false, false⟩
noncomputable def d12 : TD := ⟨Go.Proofs.Tryd.t12.desc, Go.Proofs.Tryd.t12.size, Go.Proofs.Tryd.t12.bytes, match Go.Proofs.Tryd.t12.zero with | some z => z | none => .bool false, false⟩
noncomputable def d13 : TD := ⟨Go.Proofs.Tryd.t13.desc, Go.Proofs.Tryd.t13.size, Go.Proofs.Tryd.t13.bytes, match Go.Proofs.Tryd.t13.zero with | some z => z | none => .bool false, false⟩
noncomputable def d15 : TD := ⟨Go.Proofs.Tryd.t15.desc, Go.Proofs.Tryd.t15.size, Go.Proofs.Tryd.t15.bytes, match Go.Proofs.Tryd.t15.zero with | some z => z | none => .bool false, false⟩
noncomputable def d16 : TD := ⟨Go.Proofs.Tryd.t16.desc, Go.Proofs.Tryd.t16.size, Go.Proofs.Tryd.t16.bytes, match Go.Proofs.Tryd.t16.zero with | some z => z | none => .bool false, false⟩
noncomputable def d17 : TD := ⟨Go.Proofs.Tryd.t17.desc, Go.Proofs.Tryd.t17.size, Go.Proofs.Tryd.t17.bytes, match Go.Proofs.Tryd.t17.zero with | some z => z | none => .bool false, false⟩
noncomputable def d18 : TD := ⟨Go.Proofs.Tryd.t18.desc, Go.Proofs.Tryd.t18.size, Go.Proofs.Tryd.t18.bytes, match Go.Proofs.Tryd.t18.zero with | some z => z | none => .bool false, false⟩
noncomputable def d21 : TD := ⟨Go.Proofs.Tryd.t21.desc, Go.Proofs.Tryd.t21.size, Go.Proofs.Tryd.t21.bytes, match Go.Proofs.Tryd.t21.zero with | some z => z | none => .bool false, false⟩
noncomputable def d22 : TD := ⟨Go.Proofs.Tryd.t22.desc, Go.Proofs.Tryd.t22.size, Go.Proofs.Tryd.t22.bytes, match Go.Proofs.Tryd.t22.zero with | some z => z | none => .bool false, true⟩
noncomputable def d23 : TD := ⟨Go.Proofs.Tryd.t22.desc, Go.Proofs.Tryd.t23.size, Go.Proofs.Tryd.t23.bytes, match Go.Proofs.Tryd.t23.zero with | some z => z | none => .bool false, true⟩
noncomputable def d24 : TD := ⟨Go.Proofs.Tryd.t24.desc, Go.Proofs.Tryd.t24.size, Go.Proofs.Tryd.t24.bytes, match Go.Proofs.Tryd.t24.zero with | some z => z | none => .bool false, true⟩
noncomputable def d25 : TD := ⟨Go.Proofs.Tryd.t24.desc, Go.Proofs.Tryd.t25.size, Go.Proofs.Tryd.t25.bytes, match Go.Proofs.Tryd.t25.zero with | some z => z | none => .bool false, true⟩
noncomputable def d27 : TD := ⟨Go.Proofs.Tryd.t22.desc, Go.Proofs.Tryd.t27.size, Go.Proofs.Tryd.t27.bytes, match Go.Proofs.Tryd.t27.zero with | some z => z | none => .bool false, true⟩
noncomputable def d28 : TD := ⟨Go.Proofs.Tryd.t28.desc, Go.Proofs.Tryd.t28.size, Go.Proofs.Tryd.t28.bytes, match Go.Proofs.Tryd.t28.zero with | some z => z | none => .bool false, true⟩
noncomputable def d29 : TD := ⟨Go.Proofs.Tryd.t28.desc, Go.Proofs.Tryd.t29.size, Go.Proofs.Tryd.t29.bytes, match Go.Proofs.Tryd.t29.zero with | some z => z | none => .bool false, true⟩
noncomputable def d32 : TD := ⟨Go.Proofs.Tryd.t32.desc, Go.Proofs.Tryd.t32.size, Go.Proofs.Tryd.t32.bytes, match Go.Proofs.Tryd.t32.zero with | some z => z | none => .bool false, false⟩
noncomputable def d33 : TD := ⟨Go.Proofs.Tryd.t33.desc, Go.Proofs.Tryd.t33.size, Go.Proofs.Tryd.t33.bytes, match Go.Proofs.Tryd.t33.zero with | some z => z | none => .bool false, true⟩
noncomputable def d34 : TD := ⟨Go.Proofs.Tryd.t33.desc, Go.Proofs.Tryd.t34.size, Go.Proofs.Tryd.t34.bytes, match Go.Proofs.Tryd.t34.zero with | some z => z | none => .bool false, true⟩
noncomputable def d37 : TD := ⟨Go.Proofs.Tryd.t37.desc, Go.Proofs.Tryd.t37.size, Go.Proofs.Tryd.t37.bytes, match Go.Proofs.Tryd.t37.zero with | some z => z | none => .bool false, false⟩
noncomputable def d38 : TD := ⟨Go.Proofs.Tryd.t38.desc, Go.Proofs.Tryd.t38.size, Go.Proofs.Tryd.t38.bytes, match Go.Proofs.Tryd.t38.zero with | some z => z | none => .bool false, true⟩
noncomputable def d39 : TD := ⟨Go.Proofs.Tryd.t38.desc, Go.Proofs.Tryd.t39.size, Go.Proofs.Tryd.t39.bytes, match Go.Proofs.Tryd.t39.zero with | some z => z | none => .bool false, true⟩
noncomputable def d47 : TD := ⟨Go.Proofs.Tryd.t47.desc, Go.Proofs.Tryd.t47.size, Go.Proofs.Tryd.t47.bytes, match Go.Proofs.Tryd.t47.zero with | some z => z | none => .bool false, false⟩
noncomputable def d51 : TD := ⟨Go.Proofs.Tryd.t51.desc, Go.Proofs.Tryd.t51.size, Go.Proofs.Tryd.t51.bytes, match Go.Proofs.Tryd.t51.zero with | some z => z | none => .bool false, false⟩
noncomputable def d52 : TD := ⟨Go.Proofs.Tryd.t52.desc, Go.Proofs.Tryd.t52.size, Go.Proofs.Tryd.t52.bytes, match Go.Proofs.Tryd.t52.zero with | some z => z | none => .bool false, false⟩
noncomputable def d53 : TD := ⟨Go.Proofs.Tryd.t53.desc, Go.Proofs.Tryd.t53.size, Go.Proofs.Tryd.t53.bytes, match Go.Proofs.Tryd.t53.zero with | some z => z | none => .bool false, false⟩
noncomputable def d54 : TD := ⟨Go.Proofs.Tryd.t54.desc, Go.Proofs.Tryd.t54.size, Go.Proofs.Tryd.t54.bytes, match Go.Proofs.Tryd.t54.zero with | some z => z | none => .bool false, true⟩
noncomputable def d55 : TD := ⟨Go.Proofs.Tryd.t54.desc, Go.Proofs.Tryd.t55.size, Go.Proofs.Tryd.t55.bytes, match Go.Proofs.Tryd.t55.zero with | some z => z | none => .bool false, true⟩
noncomputable def d57 : TD := ⟨Go.Proofs.Tryd.t57.desc, Go.Proofs.Tryd.t57.size, Go.Proofs.Tryd.t57.bytes, match Go.Proofs.Tryd.t57.zero with | some z => z | none => .bool false, true⟩
noncomputable def d58 : TD := ⟨Go.Proofs.Tryd.t57.desc, Go.Proofs.Tryd.t58.size, Go.Proofs.Tryd.t58.bytes, match Go.Proofs.Tryd.t58.zero with | some z => z | none => .bool false, true⟩
noncomputable def d59 : TD := ⟨Go.Proofs.Tryd.t59.desc, Go.Proofs.Tryd.t59.size, Go.Proofs.Tryd.t59.bytes, match Go.Proofs.Tryd.t59.zero with | some z => z | none => .bool false, true⟩
noncomputable def d60 : TD := ⟨Go.Proofs.Tryd.t59.desc, Go.Proofs.Tryd.t60.size, Go.Proofs.Tryd.t60.bytes, match Go.Proofs.Tryd.t60.zero with | some z => z | none => .bool false, true⟩
noncomputable def d66 : TD := ⟨Go.Proofs.Tryd.t66.desc, Go.Proofs.Tryd.t66.size, Go.Proofs.Tryd.t66.bytes, match Go.Proofs.Tryd.t66.zero with | some z => z | none => .bool false, false⟩
noncomputable def d70 : TD := ⟨Go.Proofs.Tryd.t70.desc, Go.Proofs.Tryd.t70.size, Go.Proofs.Tryd.t70.bytes, match Go.Proofs.Tryd.t70.zero with | some z => z | none => .bool false, false⟩
noncomputable def d71 : TD := ⟨Go.Proofs.Tryd.t71.desc, Go.Proofs.Tryd.t71.size, Go.Proofs.Tryd.t71.bytes, match Go.Proofs.Tryd.t71.zero with | some z => z | none => .bool false, false⟩
noncomputable def d72 : TD := ⟨Go.Proofs.Tryd.t72.desc, Go.Proofs.Tryd.t72.size, Go.Proofs.Tryd.t72.bytes, match Go.Proofs.Tryd.t72.zero with | some z => z | none => .bool false, false⟩
noncomputable def d73 : TD := ⟨Go.Proofs.Tryd.t73.desc, Go.Proofs.Tryd.t73.size, Go.Proofs.Tryd.t73.bytes, match Go.Proofs.Tryd.t73.zero with | some z => z | none => .bool false, true⟩
noncomputable def d74 : TD := ⟨Go.Proofs.Tryd.t73.desc, Go.Proofs.Tryd.t74.size, Go.Proofs.Tryd.t74.bytes, match Go.Proofs.Tryd.t74.zero with | some z => z | none => .bool false, true⟩
noncomputable def d80 : TD := ⟨Go.Proofs.Tryd.t80.desc, Go.Proofs.Tryd.t80.size, Go.Proofs.Tryd.t80.bytes, match Go.Proofs.Tryd.t80.zero with | some z => z | none => .bool false, false⟩
noncomputable def d81 : TD := ⟨Go.Proofs.Tryd.t81.desc, Go.Proofs.Tryd.t81.size, Go.Proofs.Tryd.t81.bytes, match Go.Proofs.Tryd.t81.zero with | some z => z | none => .bool false, false⟩
noncomputable def d82 : TD := ⟨Go.Proofs.Tryd.t82.desc, Go.Proofs.Tryd.t82.size, Go.Proofs.Tryd.t82.bytes, match Go.Proofs.Tryd.t82.zero with | some z => z | none => .bool false, false⟩
noncomputable def d101 : TD := ⟨Go.Proofs.Tryd.t101.desc, Go.Proofs.Tryd.t101.size, Go.Proofs.Tryd.t101.bytes, match Go.Proofs.Tryd.t101.zero with | some z => z | none => .bool false, false⟩
noncomputable def d103 : TD := ⟨Go.Proofs.Tryd.t103.desc, Go.Proofs.Tryd.t103.size, Go.Proofs.Tryd.t103.bytes, match Go.Proofs.Tryd.t103.zero with | some z => z | none => .bool false, true⟩
noncomputable def d104 : TD := ⟨Go.Proofs.Tryd.t103.desc, Go.Proofs.Tryd.t104.size, Go.Proofs.Tryd.t104.bytes, match Go.Proofs.Tryd.t104.zero with | some z => z | none => .bool false, true⟩
noncomputable def d105 : TD := ⟨Go.Proofs.Tryd.t105.desc, Go.Proofs.Tryd.t105.size, Go.Proofs.Tryd.t105.bytes, match Go.Proofs.Tryd.t105.zero with | some z => z | none => .bool false, true⟩
noncomputable def d106 : TD := ⟨Go.Proofs.Tryd.t105.desc, Go.Proofs.Tryd.t106.size, Go.Proofs.Tryd.t106.bytes, match Go.Proofs.Tryd.t106.zero with | some z => z | none => .bool false, true⟩
noncomputable def d109 : TD := ⟨Go.Proofs.Tryd.t103.desc, Go.Proofs.Tryd.t109.size, Go.Proofs.Tryd.t109.bytes, match Go.Proofs.Tryd.t109.zero with | some z => z | none => .bool false, true⟩
noncomputable def d110 : TD := ⟨Go.Proofs.Tryd.t110.desc, Go.Proofs.Tryd.t110.size, Go.Proofs.Tryd.t110.bytes, match Go.Proofs.Tryd.t110.zero with | some z => z | none => .bool false, true⟩
noncomputable def d111 : TD := ⟨Go.Proofs.Tryd.t110.desc, Go.Proofs.Tryd.t111.size, Go.Proofs.Tryd.t111.bytes, match Go.Proofs.Tryd.t111.zero with | some z => z | none => .bool false, true⟩
noncomputable def d115 : TD := ⟨Go.Proofs.Tryd.t57.desc, Go.Proofs.Tryd.t115.size, Go.Proofs.Tryd.t115.bytes, match Go.Proofs.Tryd.t115.zero with | some z => z | none => .bool false, true⟩
noncomputable def d116 : TD := ⟨Go.Proofs.Tryd.t116.desc, Go.Proofs.Tryd.t116.size, Go.Proofs.Tryd.t116.bytes, match Go.Proofs.Tryd.t116.zero with | some z => z | none => .bool false, true⟩
noncomputable def d117 : TD := ⟨Go.Proofs.Tryd.t116.desc, Go.Proofs.Tryd.t117.size, Go.Proofs.Tryd.t117.bytes, match Go.Proofs.Tryd.t117.zero with | some z => z | none => .bool false, true⟩
noncomputable def d129 : TD := ⟨Go.Proofs.Tryd.t129.desc, Go.Proofs.Tryd.t129.size, Go.Proofs.Tryd.t129.bytes, match Go.Proofs.Tryd.t129.zero with | some z => z | none => .bool false, false⟩
noncomputable def d150 : TD := ⟨Go.Proofs.Tryd.t150.desc, Go.Proofs.Tryd.t150.size, Go.Proofs.Tryd.t150.bytes, match Go.Proofs.Tryd.t150.zero with | some z => z | none => .bool false, false⟩
noncomputable def d153 : TD := ⟨Go.Proofs.Tryd.t153.desc, Go.Proofs.Tryd.t153.size, Go.Proofs.Tryd.t153.bytes, match Go.Proofs.Tryd.t153.zero with | some z => z | none => .bool false, false⟩
noncomputable def d158 : TD := ⟨Go.Proofs.Tryd.t158.desc, Go.Proofs.Tryd.t158.size, Go.Proofs.Tryd.t158.bytes, match Go.Proofs.Tryd.t158.zero with | some z => z | none => .bool false, false⟩
noncomputable def d161 : TD := ⟨Go.Proofs.Tryd.t161.desc, Go.Proofs.Tryd.t161.size, Go.Proofs.Tryd.t161.bytes, match Go.Proofs.Tryd.t161.zero with | some z => z | none => .bool false, false⟩
noncomputable def d169 : TD := ⟨Go.Proofs.Tryd.t169.desc, Go.Proofs.Tryd.t169.size, Go.Proofs.Tryd.t169.bytes, match Go.Proofs.Tryd.t169.zero with | some z => z | none => .bool false, false⟩
noncomputable def T (t : Nat) : Option TD := match t with
  | 2 => some d2
  | 3 => some d3
  | 4 => some d4
  | 5 => some d5
  | 7 => some d7
  | 9 => some d9
  | 12 => some d12
  | 13 => some d13
  | 15 => some d15
  | 16 => some d16
  | 17 => some d17
  | 18 => some d18
  | 21 => some d21
  | 22 => some d22
  | 23 => some d23
  | 24 => some d24
  | 25 => some d25
  | 27 => some d27
  | 28 => some d28
  | 29 => some d29
  | 32 => some d32
  | 33 => some d33
  | 34 => some d34
  | 37 => some d37
  | 38 => some d38
  | 39 => some d39
  | 47 => some d47
  | 51 => some d51
  | 52 => some d52
  | 53 => some d53
  | 54 => some d54
  | 55 => some d55
  | 57 => some d57
  | 58 => some d58
  | 59 => some d59
  | 60 => some d60
  | 66 => some d66
  | 70 => some d70
  | 71 => some d71
  | 72 => some d72
  | 73 => some d73
  | 74 => some d74
  | 80 => some d80
  | 81 => some d81
  | 82 => some d82
  | 101 => some d101
  | 103 => some d103
  | 104 => some d104
  | 105 => some d105
  | 106 => some d106
  | 109 => some d109
  | 110 => some d110
  | 111 => some d111
  | 115 => some d115
  | 116 => some d116
  | 117 => some d117
  | 129 => some d129
  | 150 => some d150
  | 153 => some d153
  | 158 => some d158
  | 161 => some d161
  | 169 => some d169
  | _ => none
def RowOk (t : Nat) (d : TD) : Prop := Go.Proofs.Tryd.prog.underlying t = some d.und ∧ (∃ i, Go.Proofs.Tryd.prog.info? t = some i ∧ i.size = d.size ∧ i.bytes = d.bytes ∧ i.zero = some d.zero) ∧ (∀ x ∈ d.zero.cells.toList, x.oneCell' = true) ∧ (d.eqs = true → Go.Proofs.Tryd.prog.stoodInHeld t = false ∧ Go.Proofs.Tryd.prog.eqGuardType Go.Proofs.Tryd.prog.depth t = false ∧ (fieldsOf d.und).all (fun f => f.name != "_") = true)
theorem ok2 : RowOk 2 d2 := ⟨by kernel_rfl, ⟨Go.Proofs.Tryd.t2, by kernel_rfl, by kernel_rfl, by kernel_rfl, by kernel_rfl⟩, List.all_eq_true.1 (by kernel_rfl), fun h => by cases h⟩
theorem ok3 : RowOk 3 d3 := ⟨by kernel_rfl, ⟨Go.Proofs.Tryd.t3, by kernel_rfl, by kernel_rfl, by kernel_rfl, by kernel_rfl⟩, List.all_eq_true.1 (by kernel_rfl), fun h => by cases h⟩
theorem ok4 : RowOk 4 d4 := ⟨by kernel_rfl, ⟨Go.Proofs.Tryd.t4, by kernel_rfl, by kernel_rfl, by kernel_rfl, by kernel_rfl⟩, List.all_eq_true.1 (by kernel_rfl), fun h => by cases h⟩
theorem ok5 : RowOk 5 d5 := ⟨by kernel_rfl, ⟨Go.Proofs.Tryd.t5, by kernel_rfl, by kernel_rfl, by kernel_rfl, by kernel_rfl⟩, List.all_eq_true.1 (by kernel_rfl), fun h => by cases h⟩
theorem ok7 : RowOk 7 d7 := ⟨by kernel_rfl, ⟨Go.Proofs.Tryd.t7, by kernel_rfl, by kernel_rfl, by kernel_rfl, by kernel_rfl⟩, List.all_eq_true.1 (by kernel_rfl), fun h => by cases h⟩
theorem ok9 : RowOk 9 d9 := ⟨by kernel_rfl, ⟨Go.Proofs.Tryd.t9, by kernel_rfl, by kernel_rfl, by kernel_rfl, by kernel_rfl⟩, List.all_eq_true.1 (by kernel_rfl), fun h => by cases h⟩
theorem ok12 : RowOk 12 d12 := ⟨by kernel_rfl, ⟨Go.Proofs.Tryd.t12, by kernel_rfl, by kernel_rfl, by kernel_rfl, by kernel_rfl⟩, List.all_eq_true.1 (by kernel_rfl), fun h => by cases h⟩
theorem ok13 : RowOk 13 d13 := ⟨by kernel_rfl, ⟨Go.Proofs.Tryd.t13, by kernel_rfl, by kernel_rfl, by kernel_rfl, by kernel_rfl⟩, List.all_eq_true.1 (by kernel_rfl), fun h => by cases h⟩
theorem ok15 : RowOk 15 d15 := ⟨by kernel_rfl, ⟨Go.Proofs.Tryd.t15, by kernel_rfl, by kernel_rfl, by kernel_rfl, by kernel_rfl⟩, List.all_eq_true.1 (by kernel_rfl), fun h => by cases h⟩
theorem ok16 : RowOk 16 d16 := ⟨by kernel_rfl, ⟨Go.Proofs.Tryd.t16, by kernel_rfl, by kernel_rfl, by kernel_rfl, by kernel_rfl⟩, List.all_eq_true.1 (by kernel_rfl), fun h => by cases h⟩
theorem ok17 : RowOk 17 d17 := ⟨by kernel_rfl, ⟨Go.Proofs.Tryd.t17, by kernel_rfl, by kernel_rfl, by kernel_rfl, by kernel_rfl⟩, List.all_eq_true.1 (by kernel_rfl), fun h => by cases h⟩
theorem ok18 : RowOk 18 d18 := ⟨by kernel_rfl, ⟨Go.Proofs.Tryd.t18, by kernel_rfl, by kernel_rfl, by kernel_rfl, by kernel_rfl⟩, List.all_eq_true.1 (by kernel_rfl), fun h => by cases h⟩
theorem ok21 : RowOk 21 d21 := ⟨by kernel_rfl, ⟨Go.Proofs.Tryd.t21, by kernel_rfl, by kernel_rfl, by kernel_rfl, by kernel_rfl⟩, List.all_eq_true.1 (by kernel_rfl), fun h => by cases h⟩
theorem ok22 : RowOk 22 d22 := ⟨by kernel_rfl, ⟨Go.Proofs.Tryd.t22, by kernel_rfl, by kernel_rfl, by kernel_rfl, by kernel_rfl⟩, List.all_eq_true.1 (by kernel_rfl), fun _ => ⟨by kernel_rfl, by kernel_rfl, by kernel_rfl⟩⟩
theorem ok23 : RowOk 23 d23 := ⟨by kernel_rfl, ⟨Go.Proofs.Tryd.t23, by kernel_rfl, by kernel_rfl, by kernel_rfl, by kernel_rfl⟩, List.all_eq_true.1 (by kernel_rfl), fun _ => ⟨by kernel_rfl, by kernel_rfl, by kernel_rfl⟩⟩
theorem ok24 : RowOk 24 d24 := ⟨by kernel_rfl, ⟨Go.Proofs.Tryd.t24, by kernel_rfl, by kernel_rfl, by kernel_rfl, by kernel_rfl⟩, List.all_eq_true.1 (by kernel_rfl), fun _ => ⟨by kernel_rfl, by kernel_rfl, by kernel_rfl⟩⟩
theorem ok25 : RowOk 25 d25 := ⟨by kernel_rfl, ⟨Go.Proofs.Tryd.t25, by kernel_rfl, by kernel_rfl, by kernel_rfl, by kernel_rfl⟩, List.all_eq_true.1 (by kernel_rfl), fun _ => ⟨by kernel_rfl, by kernel_rfl, by kernel_rfl⟩⟩
theorem ok27 : RowOk 27 d27 := ⟨by kernel_rfl, ⟨Go.Proofs.Tryd.t27, by kernel_rfl, by kernel_rfl, by kernel_rfl, by kernel_rfl⟩, List.all_eq_true.1 (by kernel_rfl), fun _ => ⟨by kernel_rfl, by kernel_rfl, by kernel_rfl⟩⟩
theorem ok28 : RowOk 28 d28 := ⟨by kernel_rfl, ⟨Go.Proofs.Tryd.t28, by kernel_rfl, by kernel_rfl, by kernel_rfl, by kernel_rfl⟩, List.all_eq_true.1 (by kernel_rfl), fun _ => ⟨by kernel_rfl, by kernel_rfl, by kernel_rfl⟩⟩
theorem ok29 : RowOk 29 d29 := ⟨by kernel_rfl, ⟨Go.Proofs.Tryd.t29, by kernel_rfl, by kernel_rfl, by kernel_rfl, by kernel_rfl⟩, List.all_eq_true.1 (by kernel_rfl), fun _ => ⟨by kernel_rfl, by kernel_rfl, by kernel_rfl⟩⟩
theorem ok32 : RowOk 32 d32 := ⟨by kernel_rfl, ⟨Go.Proofs.Tryd.t32, by kernel_rfl, by kernel_rfl, by kernel_rfl, by kernel_rfl⟩, List.all_eq_true.1 (by kernel_rfl), fun h => by cases h⟩
theorem ok33 : RowOk 33 d33 := ⟨by kernel_rfl, ⟨Go.Proofs.Tryd.t33, by kernel_rfl, by kernel_rfl, by kernel_rfl, by kernel_rfl⟩, List.all_eq_true.1 (by kernel_rfl), fun _ => ⟨by kernel_rfl, by kernel_rfl, by kernel_rfl⟩⟩
theorem ok34 : RowOk 34 d34 := ⟨by kernel_rfl, ⟨Go.Proofs.Tryd.t34, by kernel_rfl, by kernel_rfl, by kernel_rfl, by kernel_rfl⟩, List.all_eq_true.1 (by kernel_rfl), fun _ => ⟨by kernel_rfl, by kernel_rfl, by kernel_rfl⟩⟩
theorem ok37 : RowOk 37 d37 := ⟨by kernel_rfl, ⟨Go.Proofs.Tryd.t37, by kernel_rfl, by kernel_rfl, by kernel_rfl, by kernel_rfl⟩, List.all_eq_true.1 (by kernel_rfl), fun h => by cases h⟩
theorem ok38 : RowOk 38 d38 := ⟨by kernel_rfl, ⟨Go.Proofs.Tryd.t38, by kernel_rfl, by kernel_rfl, by kernel_rfl, by kernel_rfl⟩, List.all_eq_true.1 (by kernel_rfl), fun _ => ⟨by kernel_rfl, by kernel_rfl, by kernel_rfl⟩⟩
theorem ok39 : RowOk 39 d39 := ⟨by kernel_rfl, ⟨Go.Proofs.Tryd.t39, by kernel_rfl, by kernel_rfl, by kernel_rfl, by kernel_rfl⟩, List.all_eq_true.1 (by kernel_rfl), fun _ => ⟨by kernel_rfl, by kernel_rfl, by kernel_rfl⟩⟩
theorem ok47 : RowOk 47 d47 := ⟨by kernel_rfl, ⟨Go.Proofs.Tryd.t47, by kernel_rfl, by kernel_rfl, by kernel_rfl, by kernel_rfl⟩, List.all_eq_true.1 (by kernel_rfl), fun h => by cases h⟩
theorem ok51 : RowOk 51 d51 := ⟨by kernel_rfl, ⟨Go.Proofs.Tryd.t51, by kernel_rfl, by kernel_rfl, by kernel_rfl, by kernel_rfl⟩, List.all_eq_true.1 (by kernel_rfl), fun h => by cases h⟩
theorem ok52 : RowOk 52 d52 := ⟨by kernel_rfl, ⟨Go.Proofs.Tryd.t52, by kernel_rfl, by kernel_rfl, by kernel_rfl, by kernel_rfl⟩, List.all_eq_true.1 (by kernel_rfl), fun h => by cases h⟩
theorem ok53 : RowOk 53 d53 := ⟨by kernel_rfl, ⟨Go.Proofs.Tryd.t53, by kernel_rfl, by kernel_rfl, by kernel_rfl, by kernel_rfl⟩, List.all_eq_true.1 (by kernel_rfl), fun h => by cases h⟩
theorem ok54 : RowOk 54 d54 := ⟨by kernel_rfl, ⟨Go.Proofs.Tryd.t54, by kernel_rfl, by kernel_rfl, by kernel_rfl, by kernel_rfl⟩, List.all_eq_true.1 (by kernel_rfl), fun _ => ⟨by kernel_rfl, by kernel_rfl, by kernel_rfl⟩⟩
theorem ok55 : RowOk 55 d55 := ⟨by kernel_rfl, ⟨Go.Proofs.Tryd.t55, by kernel_rfl, by kernel_rfl, by kernel_rfl, by kernel_rfl⟩, List.all_eq_true.1 (by kernel_rfl), fun _ => ⟨by kernel_rfl, by kernel_rfl, by kernel_rfl⟩⟩
theorem ok57 : RowOk 57 d57 := ⟨by kernel_rfl, ⟨Go.Proofs.Tryd.t57, by kernel_rfl, by kernel_rfl, by kernel_rfl, by kernel_rfl⟩, List.all_eq_true.1 (by kernel_rfl), fun _ => ⟨by kernel_rfl, by kernel_rfl, by kernel_rfl⟩⟩
theorem ok58 : RowOk 58 d58 := ⟨by kernel_rfl, ⟨Go.Proofs.Tryd.t58, by kernel_rfl, by kernel_rfl, by kernel_rfl, by kernel_rfl⟩, List.all_eq_true.1 (by kernel_rfl), fun _ => ⟨by kernel_rfl, by kernel_rfl, by kernel_rfl⟩⟩
theorem ok59 : RowOk 59 d59 := ⟨by kernel_rfl, ⟨Go.Proofs.Tryd.t59, by kernel_rfl, by kernel_rfl, by kernel_rfl, by kernel_rfl⟩, List.all_eq_true.1 (by kernel_rfl), fun _ => ⟨by kernel_rfl, by kernel_rfl, by kernel_rfl⟩⟩
theorem ok60 : RowOk 60 d60 := ⟨by kernel_rfl, ⟨Go.Proofs.Tryd.t60, by kernel_rfl, by kernel_rfl, by kernel_rfl, by kernel_rfl⟩, List.all_eq_true.1 (by kernel_rfl), fun _ => ⟨by kernel_rfl, by kernel_rfl, by kernel_rfl⟩⟩
theorem ok66 : RowOk 66 d66 := ⟨by kernel_rfl, ⟨Go.Proofs.Tryd.t66, by kernel_rfl, by kernel_rfl, by kernel_rfl, by kernel_rfl⟩, List.all_eq_true.1 (by kernel_rfl), fun h => by cases h⟩
theorem ok70 : RowOk 70 d70 := ⟨by kernel_rfl, ⟨Go.Proofs.Tryd.t70, by kernel_rfl, by kernel_rfl, by kernel_rfl, by kernel_rfl⟩, List.all_eq_true.1 (by kernel_rfl), fun h => by cases h⟩
theorem ok71 : RowOk 71 d71 := ⟨by kernel_rfl, ⟨Go.Proofs.Tryd.t71, by kernel_rfl, by kernel_rfl, by kernel_rfl, by kernel_rfl⟩, List.all_eq_true.1 (by kernel_rfl), fun h => by cases h⟩
theorem ok72 : RowOk 72 d72 := ⟨by kernel_rfl, ⟨Go.Proofs.Tryd.t72, by kernel_rfl, by kernel_rfl, by kernel_rfl, by kernel_rfl⟩, List.all_eq_true.1 (by kernel_rfl), fun h => by cases h⟩
theorem ok73 : RowOk 73 d73 := ⟨by kernel_rfl, ⟨Go.Proofs.Tryd.t73, by kernel_rfl, by kernel_rfl, by kernel_rfl, by kernel_rfl⟩, List.all_eq_true.1 (by kernel_rfl), fun _ => ⟨by kernel_rfl, by kernel_rfl, by kernel_rfl⟩⟩
theorem ok74 : RowOk 74 d74 := ⟨by kernel_rfl, ⟨Go.Proofs.Tryd.t74, by kernel_rfl, by kernel_rfl, by kernel_rfl, by kernel_rfl⟩, List.all_eq_true.1 (by kernel_rfl), fun _ => ⟨by kernel_rfl, by kernel_rfl, by kernel_rfl⟩⟩
theorem ok80 : RowOk 80 d80 := ⟨by kernel_rfl, ⟨Go.Proofs.Tryd.t80, by kernel_rfl, by kernel_rfl, by kernel_rfl, by kernel_rfl⟩, List.all_eq_true.1 (by kernel_rfl), fun h => by cases h⟩
theorem ok81 : RowOk 81 d81 := ⟨by kernel_rfl, ⟨Go.Proofs.Tryd.t81, by kernel_rfl, by kernel_rfl, by kernel_rfl, by kernel_rfl⟩, List.all_eq_true.1 (by kernel_rfl), fun h => by cases h⟩
theorem ok82 : RowOk 82 d82 := ⟨by kernel_rfl, ⟨Go.Proofs.Tryd.t82, by kernel_rfl, by kernel_rfl, by kernel_rfl, by kernel_rfl⟩, List.all_eq_true.1 (by kernel_rfl), fun h => by cases h⟩
theorem ok101 : RowOk 101 d101 := ⟨by kernel_rfl, ⟨Go.Proofs.Tryd.t101, by kernel_rfl, by kernel_rfl, by kernel_rfl, by kernel_rfl⟩, List.all_eq_true.1 (by kernel_rfl), fun h => by cases h⟩
theorem ok103 : RowOk 103 d103 := ⟨by kernel_rfl, ⟨Go.Proofs.Tryd.t103, by kernel_rfl, by kernel_rfl, by kernel_rfl, by kernel_rfl⟩, List.all_eq_true.1 (by kernel_rfl), fun _ => ⟨by kernel_rfl, by kernel_rfl, by kernel_rfl⟩⟩
theorem ok104 : RowOk 104 d104 := ⟨by kernel_rfl, ⟨Go.Proofs.Tryd.t104, by kernel_rfl, by kernel_rfl, by kernel_rfl, by kernel_rfl⟩, List.all_eq_true.1 (by kernel_rfl), fun _ => ⟨by kernel_rfl, by kernel_rfl, by kernel_rfl⟩⟩
theorem ok105 : RowOk 105 d105 := ⟨by kernel_rfl, ⟨Go.Proofs.Tryd.t105, by kernel_rfl, by kernel_rfl, by kernel_rfl, by kernel_rfl⟩, List.all_eq_true.1 (by kernel_rfl), fun _ => ⟨by kernel_rfl, by kernel_rfl, by kernel_rfl⟩⟩
theorem ok106 : RowOk 106 d106 := ⟨by kernel_rfl, ⟨Go.Proofs.Tryd.t106, by kernel_rfl, by kernel_rfl, by kernel_rfl, by kernel_rfl⟩, List.all_eq_true.1 (by kernel_rfl), fun _ => ⟨by kernel_rfl, by kernel_rfl, by kernel_rfl⟩⟩
theorem ok109 : RowOk 109 d109 := ⟨by kernel_rfl, ⟨Go.Proofs.Tryd.t109, by kernel_rfl, by kernel_rfl, by kernel_rfl, by kernel_rfl⟩, List.all_eq_true.1 (by kernel_rfl), fun _ => ⟨by kernel_rfl, by kernel_rfl, by kernel_rfl⟩⟩
theorem ok110 : RowOk 110 d110 := ⟨by kernel_rfl, ⟨Go.Proofs.Tryd.t110, by kernel_rfl, by kernel_rfl, by kernel_rfl, by kernel_rfl⟩, List.all_eq_true.1 (by kernel_rfl), fun _ => ⟨by kernel_rfl, by kernel_rfl, by kernel_rfl⟩⟩
theorem ok111 : RowOk 111 d111 := ⟨by kernel_rfl, ⟨Go.Proofs.Tryd.t111, by kernel_rfl, by kernel_rfl, by kernel_rfl, by kernel_rfl⟩, List.all_eq_true.1 (by kernel_rfl), fun _ => ⟨by kernel_rfl, by kernel_rfl, by kernel_rfl⟩⟩
theorem ok115 : RowOk 115 d115 := ⟨by kernel_rfl, ⟨Go.Proofs.Tryd.t115, by kernel_rfl, by kernel_rfl, by kernel_rfl, by kernel_rfl⟩, List.all_eq_true.1 (by kernel_rfl), fun _ => ⟨by kernel_rfl, by kernel_rfl, by kernel_rfl⟩⟩
theorem ok116 : RowOk 116 d116 := ⟨by kernel_rfl, ⟨Go.Proofs.Tryd.t116, by kernel_rfl, by kernel_rfl, by kernel_rfl, by kernel_rfl⟩, List.all_eq_true.1 (by kernel_rfl), fun _ => ⟨by kernel_rfl, by kernel_rfl, by kernel_rfl⟩⟩
theorem ok117 : RowOk 117 d117 := ⟨by kernel_rfl, ⟨Go.Proofs.Tryd.t117, by kernel_rfl, by kernel_rfl, by kernel_rfl, by kernel_rfl⟩, List.all_eq_true.1 (by kernel_rfl), fun _ => ⟨by kernel_rfl, by kernel_rfl, by kernel_rfl⟩⟩
theorem ok129 : RowOk 129 d129 := ⟨by kernel_rfl, ⟨Go.Proofs.Tryd.t129, by kernel_rfl, by kernel_rfl, by kernel_rfl, by kernel_rfl⟩, List.all_eq_true.1 (by kernel_rfl), fun h => by cases h⟩
theorem ok150 : RowOk 150 d150 := ⟨by kernel_rfl, ⟨Go.Proofs.Tryd.t150, by kernel_rfl, by kernel_rfl, by kernel_rfl, by kernel_rfl⟩, List.all_eq_true.1 (by kernel_rfl), fun h => by cases h⟩
theorem ok153 : RowOk 153 d153 := ⟨by kernel_rfl, ⟨Go.Proofs.Tryd.t153, by kernel_rfl, by kernel_rfl, by kernel_rfl, by kernel_rfl⟩, List.all_eq_true.1 (by kernel_rfl), fun h => by cases h⟩
theorem ok158 : RowOk 158 d158 := ⟨by kernel_rfl, ⟨Go.Proofs.Tryd.t158, by kernel_rfl, by kernel_rfl, by kernel_rfl, by kernel_rfl⟩, List.all_eq_true.1 (by kernel_rfl), fun h => by cases h⟩
theorem ok161 : RowOk 161 d161 := ⟨by kernel_rfl, ⟨Go.Proofs.Tryd.t161, by kernel_rfl, by kernel_rfl, by kernel_rfl, by kernel_rfl⟩, List.all_eq_true.1 (by kernel_rfl), fun h => by cases h⟩
theorem ok169 : RowOk 169 d169 := ⟨by kernel_rfl, ⟨Go.Proofs.Tryd.t169, by kernel_rfl, by kernel_rfl, by kernel_rfl, by kernel_rfl⟩, List.all_eq_true.1 (by kernel_rfl), fun h => by cases h⟩
theorem tok : TOk Go.Proofs.Tryd.prog T := by
  intro t d h
  unfold T at h
  split at h
  · injection h with h; subst h; exact ok2
  · injection h with h; subst h; exact ok3
  · injection h with h; subst h; exact ok4
  · injection h with h; subst h; exact ok5
  · injection h with h; subst h; exact ok7
  · injection h with h; subst h; exact ok9
  · injection h with h; subst h; exact ok12
  · injection h with h; subst h; exact ok13
  · injection h with h; subst h; exact ok15
  · injection h with h; subst h; exact ok16
  · injection h with h; subst h; exact ok17
  · injection h with h; subst h; exact ok18
  · injection h with h; subst h; exact ok21
  · injection h with h; subst h; exact ok22
  · injection h with h; subst h; exact ok23
  · injection h with h; subst h; exact ok24
  · injection h with h; subst h; exact ok25
  · injection h with h; subst h; exact ok27
  · injection h with h; subst h; exact ok28
  · injection h with h; subst h; exact ok29
  · injection h with h; subst h; exact ok32
  · injection h with h; subst h; exact ok33
  · injection h with h; subst h; exact ok34
  · injection h with h; subst h; exact ok37
  · injection h with h; subst h; exact ok38
  · injection h with h; subst h; exact ok39
  · injection h with h; subst h; exact ok47
  · injection h with h; subst h; exact ok51
  · injection h with h; subst h; exact ok52
  · injection h with h; subst h; exact ok53
  · injection h with h; subst h; exact ok54
  · injection h with h; subst h; exact ok55
  · injection h with h; subst h; exact ok57
  · injection h with h; subst h; exact ok58
  · injection h with h; subst h; exact ok59
  · injection h with h; subst h; exact ok60
  · injection h with h; subst h; exact ok66
  · injection h with h; subst h; exact ok70
  · injection h with h; subst h; exact ok71
  · injection h with h; subst h; exact ok72
  · injection h with h; subst h; exact ok73
  · injection h with h; subst h; exact ok74
  · injection h with h; subst h; exact ok80
  · injection h with h; subst h; exact ok81
  · injection h with h; subst h; exact ok82
  · injection h with h; subst h; exact ok101
  · injection h with h; subst h; exact ok103
  · injection h with h; subst h; exact ok104
  · injection h with h; subst h; exact ok105
  · injection h with h; subst h; exact ok106
  · injection h with h; subst h; exact ok109
  · injection h with h; subst h; exact ok110
  · injection h with h; subst h; exact ok111
  · injection h with h; subst h; exact ok115
  · injection h with h; subst h; exact ok116
  · injection h with h; subst h; exact ok117
  · injection h with h; subst h; exact ok129
  · injection h with h; subst h; exact ok150
  · injection h with h; subst h; exact ok153
  · injection h with h; subst h; exact ok158
  · injection h with h; subst h; exact ok161
  · injection h with h; subst h; exact ok169
  · cases h
end Go.Proofs.YtfhkecbopidgiaaDoor.AM
