/-
  THE TABLE OF TYPES of the seat, for the abstract machine: each row as the program has it. No condition.
-/
import Derived.Test.YtcfmllknnfoghaaAmL
import Derived.Test.YtcfmllknnfoghaaProg
import Derived.KernelRfl
namespace Go.Proofs.Ytcfmllknnfoghaa.AM
open Go Go.RowKit
set_option linter.unusedVariables false
set_option linter.unusedSimpArgs false
set_option maxRecDepth 100000

noncomputable def d2 : TD := ⟨Try.t2.desc, Try.t2.size, Try.t2.bytes, match Try.t2.zero with | some z => z | none => .bool false, false⟩
noncomputable def d3 : TD := ⟨Try.t3.desc, Try.t3.size, Try.t3.bytes, match Try.t3.zero with | some z => z | none => .bool false, false⟩
noncomputable def d4 : TD := ⟨Try.t4.desc, Try.t4.size, Try.t4.bytes, match Try.t4.zero with | some z => z | none => .bool false, false⟩
noncomputable def d5 : TD := ⟨Try.t5.desc, Try.t5.size, Try.t5.bytes, match Try.t5.zero with | some z => z | none => .bool false, false⟩
noncomputable def d7 : TD := ⟨Try.t7.desc, Try.t7.size, Try.t7.bytes, match Try.t7.zero with | some z => z | none => .bool false, false⟩
noncomputable def d9 : TD := ⟨Try.t9.desc, Try.t9.size, Try.t9.bytes, match Try.t9.zero with | some z => z | none => .bool false, false⟩
noncomputable def d12 : TD := ⟨Try.t12.desc, Try.t12.size, Try.t12.bytes, match Try.t12.zero with | some z => z | none => .bool false, false⟩
noncomputable def d13 : TD := ⟨Try.t13.desc, Try.t13.size, Try.t13.bytes, match Try.t13.zero with | some z => z | none => .bool false, false⟩
noncomputable def d15 : TD := ⟨Try.t15.desc, Try.t15.size, Try.t15.bytes, match Try.t15.zero with | some z => z | none => .bool false, false⟩
noncomputable def d16 : TD := ⟨Try.t16.desc, Try.t16.size, Try.t16.bytes, match Try.t16.zero with | some z => z | none => .bool false, false⟩
noncomputable def d17 : TD := ⟨Try.t17.desc, Try.t17.size, Try.t17.bytes, match Try.t17.zero with | some z => z | none => .bool false, false⟩
noncomputable def d18 : TD := ⟨Try.t18.desc, Try.t18.size, Try.t18.bytes, match Try.t18.zero with | some z => z | none => .bool false, false⟩
noncomputable def d21 : TD := ⟨Try.t21.desc, Try.t21.size, Try.t21.bytes, match Try.t21.zero with | some z => z | none => .bool false, false⟩
noncomputable def d22 : TD := ⟨Try.t22.desc, Try.t22.size, Try.t22.bytes, match Try.t22.zero with | some z => z | none => .bool false, true⟩
noncomputable def d23 : TD := ⟨Try.t22.desc, Try.t23.size, Try.t23.bytes, match Try.t23.zero with | some z => z | none => .bool false, true⟩
noncomputable def d24 : TD := ⟨Try.t24.desc, Try.t24.size, Try.t24.bytes, match Try.t24.zero with | some z => z | none => .bool false, true⟩
noncomputable def d25 : TD := ⟨Try.t24.desc, Try.t25.size, Try.t25.bytes, match Try.t25.zero with | some z => z | none => .bool false, true⟩
noncomputable def d26 : TD := ⟨Try.t26.desc, Try.t26.size, Try.t26.bytes, match Try.t26.zero with | some z => z | none => .bool false, true⟩
noncomputable def d27 : TD := ⟨Try.t26.desc, Try.t27.size, Try.t27.bytes, match Try.t27.zero with | some z => z | none => .bool false, true⟩
noncomputable def d28 : TD := ⟨Try.t28.desc, Try.t28.size, Try.t28.bytes, match Try.t28.zero with | some z => z | none => .bool false, true⟩
noncomputable def d29 : TD := ⟨Try.t28.desc, Try.t29.size, Try.t29.bytes, match Try.t29.zero with | some z => z | none => .bool false, true⟩
noncomputable def d30 : TD := ⟨Try.t30.desc, Try.t30.size, Try.t30.bytes, match Try.t30.zero with | some z => z | none => .bool false, true⟩
noncomputable def d31 : TD := ⟨Try.t30.desc, Try.t31.size, Try.t31.bytes, match Try.t31.zero with | some z => z | none => .bool false, true⟩
noncomputable def d32 : TD := ⟨Try.t32.desc, Try.t32.size, Try.t32.bytes, match Try.t32.zero with | some z => z | none => .bool false, true⟩
noncomputable def d33 : TD := ⟨Try.t32.desc, Try.t33.size, Try.t33.bytes, match Try.t33.zero with | some z => z | none => .bool false, true⟩
noncomputable def d34 : TD := ⟨Try.t34.desc, Try.t34.size, Try.t34.bytes, match Try.t34.zero with | some z => z | none => .bool false, true⟩
noncomputable def d35 : TD := ⟨Try.t34.desc, Try.t35.size, Try.t35.bytes, match Try.t35.zero with | some z => z | none => .bool false, true⟩
noncomputable def d38 : TD := ⟨Try.t22.desc, Try.t38.size, Try.t38.bytes, match Try.t38.zero with | some z => z | none => .bool false, true⟩
noncomputable def d39 : TD := ⟨Try.t39.desc, Try.t39.size, Try.t39.bytes, match Try.t39.zero with | some z => z | none => .bool false, true⟩
noncomputable def d40 : TD := ⟨Try.t39.desc, Try.t40.size, Try.t40.bytes, match Try.t40.zero with | some z => z | none => .bool false, true⟩
noncomputable def d41 : TD := ⟨Try.t26.desc, Try.t41.size, Try.t41.bytes, match Try.t41.zero with | some z => z | none => .bool false, true⟩
noncomputable def d42 : TD := ⟨Try.t42.desc, Try.t42.size, Try.t42.bytes, match Try.t42.zero with | some z => z | none => .bool false, true⟩
noncomputable def d43 : TD := ⟨Try.t42.desc, Try.t43.size, Try.t43.bytes, match Try.t43.zero with | some z => z | none => .bool false, true⟩
noncomputable def d44 : TD := ⟨Try.t30.desc, Try.t44.size, Try.t44.bytes, match Try.t44.zero with | some z => z | none => .bool false, true⟩
noncomputable def d45 : TD := ⟨Try.t45.desc, Try.t45.size, Try.t45.bytes, match Try.t45.zero with | some z => z | none => .bool false, true⟩
noncomputable def d46 : TD := ⟨Try.t45.desc, Try.t46.size, Try.t46.bytes, match Try.t46.zero with | some z => z | none => .bool false, true⟩
noncomputable def d47 : TD := ⟨Try.t47.desc, Try.t47.size, Try.t47.bytes, match Try.t47.zero with | some z => z | none => .bool false, true⟩
noncomputable def d48 : TD := ⟨Try.t47.desc, Try.t48.size, Try.t48.bytes, match Try.t48.zero with | some z => z | none => .bool false, true⟩
noncomputable def d55 : TD := ⟨Try.t55.desc, Try.t55.size, Try.t55.bytes, match Try.t55.zero with | some z => z | none => .bool false, false⟩
noncomputable def d56 : TD := ⟨Try.t56.desc, Try.t56.size, Try.t56.bytes, match Try.t56.zero with | some z => z | none => .bool false, false⟩
noncomputable def d57 : TD := ⟨Try.t57.desc, Try.t57.size, Try.t57.bytes, match Try.t57.zero with | some z => z | none => .bool false, true⟩
noncomputable def d58 : TD := ⟨Try.t57.desc, Try.t58.size, Try.t58.bytes, match Try.t58.zero with | some z => z | none => .bool false, true⟩
noncomputable def d60 : TD := ⟨Try.t60.desc, Try.t60.size, Try.t60.bytes, match Try.t60.zero with | some z => z | none => .bool false, false⟩
noncomputable def d61 : TD := ⟨Try.t61.desc, Try.t61.size, Try.t61.bytes, match Try.t61.zero with | some z => z | none => .bool false, true⟩
noncomputable def d62 : TD := ⟨Try.t61.desc, Try.t62.size, Try.t62.bytes, match Try.t62.zero with | some z => z | none => .bool false, true⟩
noncomputable def d69 : TD := ⟨Try.t69.desc, Try.t69.size, Try.t69.bytes, match Try.t69.zero with | some z => z | none => .bool false, false⟩
noncomputable def d72 : TD := ⟨Try.t72.desc, Try.t72.size, Try.t72.bytes, match Try.t72.zero with | some z => z | none => .bool false, false⟩
noncomputable def d79 : TD := ⟨Try.t79.desc, Try.t79.size, Try.t79.bytes, match Try.t79.zero with | some z => z | none => .bool false, false⟩
noncomputable def d83 : TD := ⟨Try.t83.desc, Try.t83.size, Try.t83.bytes, match Try.t83.zero with | some z => z | none => .bool false, false⟩
noncomputable def d116 : TD := ⟨Try.t116.desc, Try.t116.size, Try.t116.bytes, match Try.t116.zero with | some z => z | none => .bool false, true⟩
noncomputable def d117 : TD := ⟨Try.t116.desc, Try.t117.size, Try.t117.bytes, match Try.t117.zero with | some z => z | none => .bool false, true⟩
noncomputable def d130 : TD := ⟨Try.t130.desc, Try.t130.size, Try.t130.bytes, match Try.t130.zero with | some z => z | none => .bool false, false⟩
noncomputable def d149 : TD := ⟨Try.t149.desc, Try.t149.size, Try.t149.bytes, match Try.t149.zero with | some z => z | none => .bool false, true⟩
noncomputable def d150 : TD := ⟨Try.t149.desc, Try.t150.size, Try.t150.bytes, match Try.t150.zero with | some z => z | none => .bool false, true⟩
noncomputable def d156 : TD := ⟨Try.t156.desc, Try.t156.size, Try.t156.bytes, match Try.t156.zero with | some z => z | none => .bool false, false⟩
noncomputable def d164 : TD := ⟨Try.t164.desc, Try.t164.size, Try.t164.bytes, match Try.t164.zero with | some z => z | none => .bool false, false⟩
noncomputable def d165 : TD := ⟨Try.t164.desc, Try.t165.size, Try.t165.bytes, match Try.t165.zero with | some z => z | none => .bool false, false⟩
noncomputable def d170 : TD := ⟨Try.t170.desc, Try.t170.size, Try.t170.bytes, match Try.t170.zero with | some z => z | none => .bool false, false⟩
noncomputable def d186 : TD := ⟨Try.t186.desc, Try.t186.size, Try.t186.bytes, match Try.t186.zero with | some z => z | none => .bool false, false⟩
noncomputable def d193 : TD := ⟨Try.t193.desc, Try.t193.size, Try.t193.bytes, match Try.t193.zero with | some z => z | none => .bool false, false⟩
noncomputable def d195 : TD := ⟨Try.t195.desc, Try.t195.size, Try.t195.bytes, match Try.t195.zero with | some z => z | none => .bool false, false⟩
noncomputable def d199 : TD := ⟨Try.t199.desc, Try.t199.size, Try.t199.bytes, match Try.t199.zero with | some z => z | none => .bool false, false⟩
noncomputable def d202 : TD := ⟨Try.t202.desc, Try.t202.size, Try.t202.bytes, match Try.t202.zero with | some z => z | none => .bool false, false⟩
noncomputable def d208 : TD := ⟨Try.t208.desc, Try.t208.size, Try.t208.bytes, match Try.t208.zero with | some z => z | none => .bool false, false⟩
noncomputable def d211 : TD := ⟨Try.t211.desc, Try.t211.size, Try.t211.bytes, match Try.t211.zero with | some z => z | none => .bool false, false⟩
noncomputable def T (t : Nat) : Option TD := match t with
  | 2 => some d2
  | 3 => some d3
  | 4 => some d4
  | 5 => some d5
  | 7 => some d7
  | 9 => some d9
  | 12 => some d12
  | 13 => some d13
  | 15 => some d15
  | 16 => some d16
  | 17 => some d17
  | 18 => some d18
  | 21 => some d21
  | 22 => some d22
  | 23 => some d23
  | 24 => some d24
  | 25 => some d25
  | 26 => some d26
  | 27 => some d27
  | 28 => some d28
  | 29 => some d29
  | 30 => some d30
  | 31 => some d31
  | 32 => some d32
  | 33 => some d33
  | 34 => some d34
  | 35 => some d35
  | 38 => some d38
  | 39 => some d39
  | 40 => some d40
  | 41 => some d41
  | 42 => some d42
  | 43 => some d43
  | 44 => some d44
  | 45 => some d45
  | 46 => some d46
  | 47 => some d47
  | 48 => some d48
  | 55 => some d55
  | 56 => some d56
  | 57 => some d57
  | 58 => some d58
  | 60 => some d60
  | 61 => some d61
  | 62 => some d62
  | 69 => some d69
  | 72 => some d72
  | 79 => some d79
  | 83 => some d83
  | 116 => some d116
  | 117 => some d117
  | 130 => some d130
  | 149 => some d149
  | 150 => some d150
  | 156 => some d156
  | 164 => some d164
  | 165 => some d165
  | 170 => some d170
  | 186 => some d186
  | 193 => some d193
  | 195 => some d195
  | 199 => some d199
  | 202 => some d202
  | 208 => some d208
  | 211 => some d211
  | _ => none
def RowOk (t : Nat) (d : TD) : Prop := Try.prog.underlying t = some d.und ∧ (∃ i, Try.prog.info? t = some i ∧ i.size = d.size ∧ i.bytes = d.bytes ∧ i.zero = some d.zero) ∧ (∀ x ∈ d.zero.cells.toList, x.oneCell' = true) ∧ (d.eqs = true → Try.prog.stoodInHeld t = false ∧ Try.prog.eqGuardType Try.prog.depth t = false ∧ (fieldsOf d.und).all (fun f => f.name != "_") = true)
theorem ok2 : RowOk 2 d2 := ⟨by kernel_rfl, ⟨Try.t2, by kernel_rfl, by kernel_rfl, by kernel_rfl, by kernel_rfl⟩, List.all_eq_true.1 (by kernel_rfl), fun h => by cases h⟩
theorem ok3 : RowOk 3 d3 := ⟨by kernel_rfl, ⟨Try.t3, by kernel_rfl, by kernel_rfl, by kernel_rfl, by kernel_rfl⟩, List.all_eq_true.1 (by kernel_rfl), fun h => by cases h⟩
theorem ok4 : RowOk 4 d4 := ⟨by kernel_rfl, ⟨Try.t4, by kernel_rfl, by kernel_rfl, by kernel_rfl, by kernel_rfl⟩, List.all_eq_true.1 (by kernel_rfl), fun h => by cases h⟩
theorem ok5 : RowOk 5 d5 := ⟨by kernel_rfl, ⟨Try.t5, by kernel_rfl, by kernel_rfl, by kernel_rfl, by kernel_rfl⟩, List.all_eq_true.1 (by kernel_rfl), fun h => by cases h⟩
theorem ok7 : RowOk 7 d7 := ⟨by kernel_rfl, ⟨Try.t7, by kernel_rfl, by kernel_rfl, by kernel_rfl, by kernel_rfl⟩, List.all_eq_true.1 (by kernel_rfl), fun h => by cases h⟩
theorem ok9 : RowOk 9 d9 := ⟨by kernel_rfl, ⟨Try.t9, by kernel_rfl, by kernel_rfl, by kernel_rfl, by kernel_rfl⟩, List.all_eq_true.1 (by kernel_rfl), fun h => by cases h⟩
theorem ok12 : RowOk 12 d12 := ⟨by kernel_rfl, ⟨Try.t12, by kernel_rfl, by kernel_rfl, by kernel_rfl, by kernel_rfl⟩, List.all_eq_true.1 (by kernel_rfl), fun h => by cases h⟩
theorem ok13 : RowOk 13 d13 := ⟨by kernel_rfl, ⟨Try.t13, by kernel_rfl, by kernel_rfl, by kernel_rfl, by kernel_rfl⟩, List.all_eq_true.1 (by kernel_rfl), fun h => by cases h⟩
theorem ok15 : RowOk 15 d15 := ⟨by kernel_rfl, ⟨Try.t15, by kernel_rfl, by kernel_rfl, by kernel_rfl, by kernel_rfl⟩, List.all_eq_true.1 (by kernel_rfl), fun h => by cases h⟩
theorem ok16 : RowOk 16 d16 := ⟨by kernel_rfl, ⟨Try.t16, by kernel_rfl, by kernel_rfl, by kernel_rfl, by kernel_rfl⟩, List.all_eq_true.1 (by kernel_rfl), fun h => by cases h⟩
theorem ok17 : RowOk 17 d17 := ⟨by kernel_rfl, ⟨Try.t17, by kernel_rfl, by kernel_rfl, by kernel_rfl, by kernel_rfl⟩, List.all_eq_true.1 (by kernel_rfl), fun h => by cases h⟩
theorem ok18 : RowOk 18 d18 := ⟨by kernel_rfl, ⟨Try.t18, by kernel_rfl, by kernel_rfl, by kernel_rfl, by kernel_rfl⟩, List.all_eq_true.1 (by kernel_rfl), fun h => by cases h⟩
theorem ok21 : RowOk 21 d21 := ⟨by kernel_rfl, ⟨Try.t21, by kernel_rfl, by kernel_rfl, by kernel_rfl, by kernel_rfl⟩, List.all_eq_true.1 (by kernel_rfl), fun h => by cases h⟩
theorem ok22 : RowOk 22 d22 := ⟨by kernel_rfl, ⟨Try.t22, by kernel_rfl, by kernel_rfl, by kernel_rfl, by kernel_rfl⟩, List.all_eq_true.1 (by kernel_rfl), fun _ => ⟨by kernel_rfl, by kernel_rfl, by kernel_rfl⟩⟩
theorem ok23 : RowOk 23 d23 := ⟨by kernel_rfl, ⟨Try.t23, by kernel_rfl, by kernel_rfl, by kernel_rfl, by kernel_rfl⟩, List.all_eq_true.1 (by kernel_rfl), fun _ => ⟨by kernel_rfl, by kernel_rfl, by kernel_rfl⟩⟩
theorem ok24 : RowOk 24 d24 := ⟨by kernel_rfl, ⟨Try.t24, by kernel_rfl, by kernel_rfl, by kernel_rfl, by kernel_rfl⟩, List.all_eq_true.1 (by kernel_rfl), fun _ => ⟨by kernel_rfl, by kernel_rfl, by kernel_rfl⟩⟩
theorem ok25 : RowOk 25 d25 := ⟨by kernel_rfl, ⟨Try.t25, by kernel_rfl, by kernel_rfl, by kernel_rfl, by kernel_rfl⟩, List.all_eq_true.1 (by kernel_rfl), fun _ => ⟨by kernel_rfl, by kernel_rfl, by kernel_rfl⟩⟩
theorem ok26 : RowOk 26 d26 := ⟨by kernel_rfl, ⟨Try.t26, by kernel_rfl, by kernel_rfl, by kernel_rfl, by kernel_rfl⟩, List.all_eq_true.1 (by kernel_rfl), fun _ => ⟨by kernel_rfl, by kernel_rfl, by kernel_rfl⟩⟩
theorem ok27 : RowOk 27 d27 := ⟨by kernel_rfl, ⟨Try.t27, by kernel_rfl, by kernel_rfl, by kernel_rfl, by kernel_rfl⟩, List.all_eq_true.1 (by kernel_rfl), fun _ => ⟨by kernel_rfl, by kernel_rfl, by kernel_rfl⟩⟩
theorem ok28 : RowOk 28 d28 := ⟨by kernel_rfl, ⟨Try.t28, by kernel_rfl, by kernel_rfl, by kernel_rfl, by kernel_rfl⟩, List.all_eq_true.1 (by kernel_rfl), fun _ => ⟨by kernel_rfl, by kernel_rfl, by kernel_rfl⟩⟩
theorem ok29 : RowOk 29 d29 := ⟨by kernel_rfl, ⟨Try.t29, by kernel_rfl, by kernel_rfl, by kernel_rfl, by kernel_rfl⟩, List.all_eq_true.1 (by kernel_rfl), fun _ => ⟨by kernel_rfl, by kernel_rfl, by kernel_rfl⟩⟩
theorem ok30 : RowOk 30 d30 := ⟨by kernel_rfl, ⟨Try.t30, by kernel_rfl, by kernel_rfl, by kernel_rfl, by kernel_rfl⟩, List.all_eq_true.1 (by kernel_rfl), fun _ => ⟨by kernel_rfl, by kernel_rfl, by kernel_rfl⟩⟩
theorem ok31 : RowOk 31 d31 := ⟨by kernel_rfl, ⟨Try.t31, by kernel_rfl, by kernel_rfl, by kernel_rfl, by kernel_rfl⟩, List.all_eq_true.1 (by kernel_rfl), fun _ => ⟨by kernel_rfl, by kernel_rfl, by kernel_rfl⟩⟩
theorem ok32 : RowOk 32 d32 := ⟨by kernel_rfl, ⟨Try.t32, by kernel_rfl, by kernel_rfl, by kernel_rfl, by kernel_rfl⟩, List.all_eq_true.1 (by kernel_rfl), fun _ => ⟨by kernel_rfl, by kernel_rfl, by kernel_rfl⟩⟩
theorem ok33 : RowOk 33 d33 := ⟨by kernel_rfl, ⟨Try.t33, by kernel_rfl, by kernel_rfl, by kernel_rfl, by kernel_rfl⟩, List.all_eq_true.1 (by kernel_rfl), fun _ => ⟨by kernel_rfl, by kernel_rfl, by kernel_rfl⟩⟩
theorem ok34 : RowOk 34 d34 := ⟨by kernel_rfl, ⟨Try.t34, by kernel_rfl, by kernel_rfl, by kernel_rfl, by kernel_rfl⟩, List.all_eq_true.1 (by kernel_rfl), fun _ => ⟨by kernel_rfl, by kernel_rfl, by kernel_rfl⟩⟩
theorem ok35 : RowOk 35 d35 := ⟨by kernel_rfl, ⟨Try.t35, by kernel_rfl, by kernel_rfl, by kernel_rfl, by kernel_rfl⟩, List.all_eq_true.1 (by kernel_rfl), fun _ => ⟨by kernel_rfl, by kernel_rfl, by kernel_rfl⟩⟩
theorem ok38 : RowOk 38 d38 := ⟨by kernel_rfl, ⟨Try.t38, by kernel_rfl, by kernel_rfl, by kernel_rfl, by kernel_rfl⟩, List.all_eq_true.1 (by kernel_rfl), fun _ => ⟨by kernel_rfl, by kernel_rfl, by kernel_rfl⟩⟩
theorem ok39 : RowOk 39 d39 := ⟨by kernel_rfl, ⟨Try.t39, by kernel_rfl, by kernel_rfl, by kernel_rfl, by kernel_rfl⟩, List.all_eq_true.1 (by kernel_rfl), fun _ => ⟨by kernel_rfl, by kernel_rfl, by kernel_rfl⟩⟩
theorem ok40 : RowOk 40 d40 := ⟨by kernel_rfl, ⟨Try.t40, by kernel_rfl, by kernel_rfl, by kernel_rfl, by kernel_rfl⟩, List.all_eq_true.1 (by kernel_rfl), fun _ => ⟨by kernel_rfl, by kernel_rfl, by kernel_rfl⟩⟩
theorem ok41 : RowOk 41 d41 := ⟨by kernel_rfl, ⟨Try.t41, by kernel_rfl, by kernel_rfl, by kernel_rfl, by kernel_rfl⟩, List.all_eq_true.1 (by kernel_rfl), fun _ => ⟨by kernel_rfl, by kernel_rfl, by kernel_rfl⟩⟩
theorem ok42 : RowOk 42 d42 := ⟨by kernel_rfl, ⟨Try.t42, by kernel_rfl, by kernel_rfl, by kernel_rfl, by kernel_rfl⟩, List.all_eq_true.1 (by kernel_rfl), fun _ => ⟨by kernel_rfl, by kernel_rfl, by kernel_rfl⟩⟩
theorem ok43 : RowOk 43 d43 := ⟨by kernel_rfl, ⟨Try.t43, by kernel_rfl, by kernel_rfl, by kernel_rfl, by kernel_rfl⟩, List.all_eq_true.1 (by kernel_rfl), fun _ => ⟨by kernel_rfl, by kernel_rfl, by kernel_rfl⟩⟩
theorem ok44 : RowOk 44 d44 := ⟨by kernel_rfl, ⟨Try.t44, by kernel_rfl, by kernel_rfl, by kernel_rfl, by kernel_rfl⟩, List.all_eq_true.1 (by kernel_rfl), fun _ => ⟨by kernel_rfl, by kernel_rfl, by kernel_rfl⟩⟩
theorem ok45 : RowOk 45 d45 := ⟨by kernel_rfl, ⟨Try.t45, by kernel_rfl, by kernel_rfl, by kernel_rfl, by kernel_rfl⟩, List.all_eq_true.1 (by kernel_rfl), fun _ => ⟨by kernel_rfl, by kernel_rfl, by kernel_rfl⟩⟩
theorem ok46 : RowOk 46 d46 := ⟨by kernel_rfl, ⟨Try.t46, by kernel_rfl, by kernel_rfl, by kernel_rfl, by kernel_rfl⟩, List.all_eq_true.1 (by kernel_rfl), fun _ => ⟨by kernel_rfl, by kernel_rfl, by kernel_rfl⟩⟩
theorem ok47 : RowOk 47 d47 := ⟨by kernel_rfl, ⟨Try.t47, by kernel_rfl, by kernel_rfl, by kernel_rfl, by kernel_rfl⟩, List.all_eq_true.1 (by kernel_rfl), fun _ => ⟨by kernel_rfl, by kernel_rfl, by kernel_rfl⟩⟩
theorem ok48 : RowOk 48 d48 := ⟨by kernel_rfl, ⟨Try.t48, by kernel_rfl, by kernel_rfl, by kernel_rfl, by kernel_rfl⟩, List.all_eq_true.1 (by kernel_rfl), fun _ => ⟨by kernel_rfl, by kernel_rfl, by kernel_rfl⟩⟩
theorem ok55 : RowOk 55 d55 := ⟨by kernel_rfl, ⟨Try.t55, by kernel_rfl, by kernel_rfl, by kernel_rfl, by kernel_rfl⟩, List.all_eq_true.1 (by kernel_rfl), fun h => by cases h⟩
theorem ok56 : RowOk 56 d56 := ⟨by kernel_rfl, ⟨Try.t56, by kernel_rfl, by kernel_rfl, by kernel_rfl, by kernel_rfl⟩, List.all_eq_true.1 (by kernel_rfl), fun h => by cases h⟩
theorem ok57 : RowOk 57 d57 := ⟨by kernel_rfl, ⟨Try.t57, by kernel_rfl, by kernel_rfl, by kernel_rfl, by kernel_rfl⟩, List.all_eq_true.1 (by kernel_rfl), fun _ => ⟨by kernel_rfl, by kernel_rfl, by kernel_rfl⟩⟩
theorem ok58 : RowOk 58 d58 := ⟨by kernel_rfl, ⟨Try.t58, by kernel_rfl, by kernel_rfl, by kernel_rfl, by kernel_rfl⟩, List.all_eq_true.1 (by kernel_rfl), fun _ => ⟨by kernel_rfl, by kernel_rfl, by kernel_rfl⟩⟩
theorem ok60 : RowOk 60 d60 := ⟨by kernel_rfl, ⟨Try.t60, by kernel_rfl, by kernel_rfl, by kernel_rfl, by kernel_rfl⟩, List.all_eq_true.1 (by kernel_rfl), fun h => by cases h⟩
theorem ok61 : RowOk 61 d61 := ⟨by kernel_rfl, ⟨Try.t61, by kernel_rfl, by kernel_rfl, by kernel_rfl, by kernel_rfl⟩, List.all_eq_true.1 (by kernel_rfl), fun _ => ⟨by kernel_rfl, by kernel_rfl, by kernel_rfl⟩⟩
theorem ok62 : RowOk 62 d62 := ⟨by kernel_rfl, ⟨Try.t62, by kernel_rfl, by kernel_rfl, by kernel_rfl, by kernel_rfl⟩, List.all_eq_true.1 (by kernel_rfl), fun _ => ⟨by kernel_rfl, by kernel_rfl, by kernel_rfl⟩⟩
theorem ok69 : RowOk 69 d69 := ⟨by kernel_rfl, ⟨Try.t69, by kernel_rfl, by kernel_rfl, by kernel_rfl, by kernel_rfl⟩, List.all_eq_true.1 (by kernel_rfl), fun h => by cases h⟩
theorem ok72 : RowOk 72 d72 := ⟨by kernel_rfl, ⟨Try.t72, by kernel_rfl, by kernel_rfl, by kernel_rfl, by kernel_rfl⟩, List.all_eq_true.1 (by kernel_rfl), fun h => by cases h⟩
theorem ok79 : RowOk 79 d79 := ⟨by kernel_rfl, ⟨Try.t79, by kernel_rfl, by kernel_rfl, by kernel_rfl, by kernel_rfl⟩, List.all_eq_true.1 (by kernel_rfl), fun h => by cases h⟩
theorem ok83 : RowOk 83 d83 := ⟨by kernel_rfl, ⟨Try.t83, by kernel_rfl, by kernel_rfl, by kernel_rfl, by kernel_rfl⟩, List.all_eq_true.1 (by kernel_rfl), fun h => by cases h⟩
theorem ok116 : RowOk 116 d116 := ⟨by kernel_rfl, ⟨Try.t116, by kernel_rfl, by kernel_rfl, by kernel_rfl, by kernel_rfl⟩, List.all_eq_true.1 (by kernel_rfl), fun _ => ⟨by kernel_rfl, by kernel_rfl, by kernel_rfl⟩⟩
theorem ok117 : RowOk 117 d117 := ⟨by kernel_rfl, ⟨Try.t117, by kernel_rfl, by kernel_rfl, by kernel_rfl, by kernel_rfl⟩, List.all_eq_true.1 (by kernel_rfl), fun _ => ⟨by kernel_rfl, by kernel_rfl, by kernel_rfl⟩⟩
theorem ok130 : RowOk 130 d130 := ⟨by kernel_rfl, ⟨Try.t130, by kernel_rfl, by kernel_rfl, by kernel_rfl, by kernel_rfl⟩, List.all_eq_true.1 (by kernel_rfl), fun h => by cases h⟩
theorem ok149 : RowOk 149 d149 := ⟨by kernel_rfl, ⟨Try.t149, by kernel_rfl, by kernel_rfl, by kernel_rfl, by kernel_rfl⟩, List.all_eq_true.1 (by kernel_rfl), fun _ => ⟨by kernel_rfl, by kernel_rfl, by kernel_rfl⟩⟩
theorem ok150 : RowOk 150 d150 := ⟨by kernel_rfl, ⟨Try.t150, by kernel_rfl, by kernel_rfl, by kernel_rfl, by kernel_rfl⟩, List.all_eq_true.1 (by kernel_rfl), fun _ => ⟨by kernel_rfl, by kernel_rfl, by kernel_rfl⟩⟩
theorem ok156 : RowOk 156 d156 := ⟨by kernel_rfl, ⟨Try.t156, by kernel_rfl, by kernel_rfl, by kernel_rfl, by kernel_rfl⟩, List.all_eq_true.1 (by kernel_rfl), fun h => by cases h⟩
theorem ok164 : RowOk 164 d164 := ⟨by kernel_rfl, ⟨Try.t164, by kernel_rfl, by kernel_rfl, by kernel_rfl, by kernel_rfl⟩, List.all_eq_true.1 (by kernel_rfl), fun h => by cases h⟩
theorem ok165 : RowOk 165 d165 := ⟨by kernel_rfl, ⟨Try.t165, by kernel_rfl, by kernel_rfl, by kernel_rfl, by kernel_rfl⟩, List.all_eq_true.1 (by kernel_rfl), fun h => by cases h⟩
theorem ok170 : RowOk 170 d170 := ⟨by kernel_rfl, ⟨Try.t170, by kernel_rfl, by kernel_rfl, by kernel_rfl, by kernel_rfl⟩, List.all_eq_true.1 (by kernel_rfl), fun h => by cases h⟩
theorem ok186 : RowOk 186 d186 := ⟨by kernel_rfl, ⟨Try.t186, by kernel_rfl, by kernel_rfl, by kernel_rfl, by kernel_rfl⟩, List.all_eq_true.1 (by kernel_rfl), fun h => by cases h⟩
theorem ok193 : RowOk 193 d193 := ⟨by kernel_rfl, ⟨Try.t193, by kernel_rfl, by kernel_rfl, by kernel_rfl, by kernel_rfl⟩, List.all_eq_true.1 (by kernel_rfl), fun h => by cases h⟩
theorem ok195 : RowOk 195 d195 := ⟨by kernel_rfl, ⟨Try.t195, by kernel_rfl, by kernel_rfl, by kernel_rfl, by kernel_rfl⟩, List.all_eq_true.1 (by kernel_rfl), fun h => by cases h⟩
theorem ok199 : RowOk 199 d199 := ⟨by kernel_rfl, ⟨Try.t199, by kernel_rfl, by kernel_rfl, by kernel_rfl, by kernel_rfl⟩, List.all_eq_true.1 (by kernel_rfl), fun h => by cases h⟩
theorem ok202 : RowOk 202 d202 := ⟨by kernel_rfl, ⟨Try.t202, by kernel_rfl, by kernel_rfl, by kernel_rfl, by kernel_rfl⟩, List.all_eq_true.1 (by kernel_rfl), fun h => by cases h⟩
theorem ok208 : RowOk 208 d208 := ⟨by kernel_rfl, ⟨Try.t208, by kernel_rfl, by kernel_rfl, by kernel_rfl, by kernel_rfl⟩, List.all_eq_true.1 (by kernel_rfl), fun h => by cases h⟩
theorem ok211 : RowOk 211 d211 := ⟨by kernel_rfl, ⟨Try.t211, by kernel_rfl, by kernel_rfl, by kernel_rfl, by kernel_rfl⟩, List.all_eq_true.1 (by kernel_rfl), fun h => by cases h⟩
theorem tok : TOk Try.prog T := by
  intro t d h
  unfold T at h
  split at h <;> first | (cases h; done) | (injection h with h; subst h; first | exact ok2 | exact ok3 | exact ok4 | exact ok5 | exact ok7 | exact ok9 | exact ok12 | exact ok13 | exact ok15 | exact ok16 | exact ok17 | exact ok18 | exact ok21 | exact ok22 | exact ok23 | exact ok24 | exact ok25 | exact ok26 | exact ok27 | exact ok28 | exact ok29 | exact ok30 | exact ok31 | exact ok32 | exact ok33 | exact ok34 | exact ok35 | exact ok38 | exact ok39 | exact ok40 | exact ok41 | exact ok42 | exact ok43 | exact ok44 | exact ok45 | exact ok46 | exact ok47 | exact ok48 | exact ok55 | exact ok56 | exact ok57 | exact ok58 | exact ok60 | exact ok61 | exact ok62 | exact ok69 | exact ok72 | exact ok79 | exact ok83 | exact ok116 | exact ok117 | exact ok130 | exact ok149 | exact ok150 | exact ok156 | exact ok164 | exact ok165 | exact ok170 | exact ok186 | exact ok193 | exact ok195 | exact ok199 | exact ok202 | exact ok208 | exact ok211)
end Go.Proofs.Ytcfmllknnfoghaa.AM
