/-
  THE TABLE OF TYPES of the seat. No condition.
-/
import Derived.Test.YthjpkcpoepnolaaAnE
import Derived.Test.YthjpkcpoepnolaaProg
import Derived.KernelRfl
namespace Go.Proofs.Ythjpkcpoepnolaa.AM
open Go Go.Proofs Go.RowKit
set_option linter.unusedVariables false
set_option linter.unusedSimpArgs false
set_option maxRecDepth 100000

noncomputable def d2 : TD := ⟨Go.Proofs.Try.t2.desc, Go.Proofs.Try.t2.size, Go.Proofs.Try.t2.bytes, match Go.Proofs.Try.t2.zero with | some z => z | none => .bool false, false⟩
noncomputable def d3 : TD := ⟨Go.Proofs.Try.t3.desc, Go.Proofs.Try.t3.size, Go.Proofs.Try.t3.bytes, match Go.Proofs.Try.t3.zero with | some z => z | none => .bool false, false⟩
noncomputable def d4 : TD := ⟨Go.Proofs.Try.t4.desc, Go.Proofs.Try.t4.size, Go.Proofs.Try.t4.bytes, match Go.Proofs.Try.t4.zero with | some z => z | none => .bool false, false⟩
noncomputable def d5 : TD := ⟨Go.Proofs.Try.t5.desc, Go.Proofs.Try.t5.size, Go.Proofs.Try.t5.bytes, match Go.Proofs.Try.t5.zero with | some z => z | none => .bool false, false⟩
noncomputable def d7 : TD := ⟨Go.Proofs.Try.t7.desc, Go.Proofs.Try.t7.size, Go.Proofs.Try.t7.bytes, match Go.Proofs.Try.t7.zero with | some z => z | none => .bool false, false⟩
noncomputable def d9 : TD := ⟨Go.Proofs.Try.t9.desc, Go.Proofs.Try.t9.size, Go.Proofs.Try.t9.bytes, match Go.Proofs.Try.t9.zero with | some z => z | none => .bool false, false⟩
noncomputable def d12 : TD := ⟨Go.Proofs.Try.t12.desc, Go.Proofs.Try.t12.size, Go.Proofs.Try.t12.bytes, match Go.Proofs.Try.t12.zero with | some z => z | none => .bool false, false⟩
noncomputable def d13 : TD := ⟨Go.Proofs.Try.t13.desc, Go.Proofs.Try.t13.size, Go.Proofs.Try.t13.bytes, match Go.Proofs.Try.t13.zero with | some z => z | none => .bool false, false⟩
noncomputable def d15 : TD := ⟨Go.Proofs.Try.t15.desc, Go.Proofs.Try.t15.size, Go.Proofs.Try.t15.bytes, match Go.Proofs.Try.t15.zero with | some z => z | none => .bool false, false⟩
noncomputable def d16 : TD := ⟨Go.Proofs.Try.t16.desc, Go.Proofs.Try.t16.size, Go.Proofs.Try.t16.bytes, match Go.Proofs.Try.t16.zero with | some z => z | none => .bool false, false⟩
noncomputable def d17 : TD := ⟨Go.Proofs.Try.t17.desc, Go.Proofs.Try.t17.size, Go.Proofs.Try.t17.bytes, match Go.Proofs.Try.t17.zero with | some z => z | none => .bool false, false⟩
noncomputable def d18 : TD := ⟨Go.Proofs.Try.t18.desc, Go.Proofs.Try.t18.size, Go.Proofs.Try.t18.bytes, match Go.Proofs.Try.t18.zero with | some z => z | none => .bool false, false⟩
noncomputable def d21 : TD := ⟨Go.Proofs.Try.t21.desc, Go.Proofs.Try.t21.size, Go.Proofs.Try.t21.bytes, match Go.Proofs.Try.t21.zero with | some z => z | none => .bool false, false⟩
noncomputable def d22 : TD := ⟨Go.Proofs.Try.t22.desc, Go.Proofs.Try.t22.size, Go.Proofs.Try.t22.bytes, match Go.Proofs.Try.t22.zero with | some z => z | none => .bool false, false⟩
noncomputable def d24 : TD := ⟨Go.Proofs.Try.t24.desc, Go.Proofs.Try.t24.size, Go.Proofs.Try.t24.bytes, match Go.Proofs.Try.t24.zero with | some z => z | none => .bool false, false⟩
noncomputable def d25 : TD := ⟨Go.Proofs.Try.t25.desc, Go.Proofs.Try.t25.size, Go.Proofs.Try.t25.bytes, match Go.Proofs.Try.t25.zero with | some z => z | none => .bool false, false⟩
noncomputable def d26 : TD := ⟨Go.Proofs.Try.t26.desc, Go.Proofs.Try.t26.size, Go.Proofs.Try.t26.bytes, match Go.Proofs.Try.t26.zero with | some z => z | none => .bool false, true⟩
noncomputable def d27 : TD := ⟨Go.Proofs.Try.t26.desc, Go.Proofs.Try.t27.size, Go.Proofs.Try.t27.bytes, match Go.Proofs.Try.t27.zero with | some z => z | none => .bool false, true⟩
noncomputable def d28 : TD := ⟨Go.Proofs.Try.t28.desc, Go.Proofs.Try.t28.size, Go.Proofs.Try.t28.bytes, match Go.Proofs.Try.t28.zero with | some z => z | none => .bool false, true⟩
noncomputable def d29 : TD := ⟨Go.Proofs.Try.t28.desc, Go.Proofs.Try.t29.size, Go.Proofs.Try.t29.bytes, match Go.Proofs.Try.t29.zero with | some z => z | none => .bool false, true⟩
noncomputable def d32 : TD := ⟨Go.Proofs.Try.t32.desc, Go.Proofs.Try.t32.size, Go.Proofs.Try.t32.bytes, match Go.Proofs.Try.t32.zero with | some z => z | none => .bool false, false⟩
noncomputable def d36 : TD := ⟨Go.Proofs.Try.t36.desc, Go.Proofs.Try.t36.size, Go.Proofs.Try.t36.bytes, match Go.Proofs.Try.t36.zero with | some z => z | none => .bool false, false⟩
noncomputable def d37 : TD := ⟨Go.Proofs.Try.t37.desc, Go.Proofs.Try.t37.size, Go.Proofs.Try.t37.bytes, match Go.Proofs.Try.t37.zero with | some z => z | none => .bool false, true⟩
noncomputable def d38 : TD := ⟨Go.Proofs.Try.t37.desc, Go.Proofs.Try.t38.size, Go.Proofs.Try.t38.bytes, match Go.Proofs.Try.t38.zero with | some z => z | none => .bool false, true⟩
noncomputable def d39 : TD := ⟨Go.Proofs.Try.t28.desc, Go.Proofs.Try.t39.size, Go.Proofs.Try.t39.bytes, match Go.Proofs.Try.t39.zero with | some z => z | none => .bool false, true⟩
noncomputable def d45 : TD := ⟨Go.Proofs.Try.t45.desc, Go.Proofs.Try.t45.size, Go.Proofs.Try.t45.bytes, match Go.Proofs.Try.t45.zero with | some z => z | none => .bool false, false⟩
noncomputable def d51 : TD := ⟨Go.Proofs.Try.t51.desc, Go.Proofs.Try.t51.size, Go.Proofs.Try.t51.bytes, match Go.Proofs.Try.t51.zero with | some z => z | none => .bool false, true⟩
noncomputable def d52 : TD := ⟨Go.Proofs.Try.t51.desc, Go.Proofs.Try.t52.size, Go.Proofs.Try.t52.bytes, match Go.Proofs.Try.t52.zero with | some z => z | none => .bool false, true⟩
noncomputable def d63 : TD := ⟨Go.Proofs.Try.t63.desc, Go.Proofs.Try.t63.size, Go.Proofs.Try.t63.bytes, match Go.Proofs.Try.t63.zero with | some z => z | none => .bool false, false⟩
noncomputable def d64 : TD := ⟨Go.Proofs.Try.t63.desc, Go.Proofs.Try.t64.size, Go.Proofs.Try.t64.bytes, match Go.Proofs.Try.t64.zero with | some z => z | none => .bool false, false⟩
noncomputable def d73 : TD := ⟨Go.Proofs.Try.t73.desc, Go.Proofs.Try.t73.size, Go.Proofs.Try.t73.bytes, match Go.Proofs.Try.t73.zero with | some z => z | none => .bool false, false⟩
noncomputable def d76 : TD := ⟨Go.Proofs.Try.t76.desc, Go.Proofs.Try.t76.size, Go.Proofs.Try.t76.bytes, match Go.Proofs.Try.t76.zero with | some z => z | none => .bool false, true⟩
noncomputable def d77 : TD := ⟨Go.Proofs.Try.t76.desc, Go.Proofs.Try.t77.size, Go.Proofs.Try.t77.bytes, match Go.Proofs.Try.t77.zero with | some z => z | none => .bool false, true⟩
noncomputable def d90 : TD := ⟨Go.Proofs.Try.t90.desc, Go.Proofs.Try.t90.size, Go.Proofs.Try.t90.bytes, match Go.Proofs.Try.t90.zero with | some z => z | none => .bool false, false⟩
noncomputable def d92 : TD := ⟨Go.Proofs.Try.t92.desc, Go.Proofs.Try.t92.size, Go.Proofs.Try.t92.bytes, match Go.Proofs.Try.t92.zero with | some z => z | none => .bool false, false⟩
noncomputable def d97 : TD := ⟨Go.Proofs.Try.t97.desc, Go.Proofs.Try.t97.size, Go.Proofs.Try.t97.bytes, match Go.Proofs.Try.t97.zero with | some z => z | none => .bool false, false⟩
noncomputable def d100 : TD := ⟨Go.Proofs.Try.t100.desc, Go.Proofs.Try.t100.size, Go.Proofs.Try.t100.bytes, match Go.Proofs.Try.t100.zero with | some z => z | none => .bool false, false⟩
noncomputable def d104 : TD := ⟨Go.Proofs.Try.t104.desc, Go.Proofs.Try.t104.size, Go.Proofs.Try.t104.bytes, match Go.Proofs.Try.t104.zero with | some z => z | none => .bool false, false⟩
noncomputable def d107 : TD := ⟨Go.Proofs.Try.t107.desc, Go.Proofs.Try.t107.size, Go.Proofs.Try.t107.bytes, match Go.Proofs.Try.t107.zero with | some z => z | none => .bool false, false⟩
noncomputable def d113 : TD := ⟨Go.Proofs.Try.t113.desc, Go.Proofs.Try.t113.size, Go.Proofs.Try.t113.bytes, match Go.Proofs.Try.t113.zero with | some z => z | none => .bool false, false⟩
noncomputable def d116 : TD := ⟨Go.Proofs.Try.t116.desc, Go.Proofs.Try.t116.size, Go.Proofs.Try.t116.bytes, match Go.Proofs.Try.t116.zero with | some z => z | none => .bool false, false⟩
noncomputable def T (t : Nat) : Option TD := match t with
  | 2 => some d2
  | 3 => some d3
  | 4 => some d4
  | 5 => some d5
  | 7 => some d7
  | 9 => some d9
  | 12 => some d12
  | 13 => some d13
  | 15 => some d15
  | 16 => some d16
  | 17 => some d17
  | 18 => some d18
  | 21 => some d21
  | 22 => some d22
  | 24 => some d24
  | 25 => some d25
  | 26 => some d26
  | 27 => some d27
  | 28 => some d28
  | 29 => some d29
  | 32 => some d32
  | 36 => some d36
  | 37 => some d37
  | 38 => some d38
  | 39 => some d39
  | 45 => some d45
  | 51 => some d51
  | 52 => some d52
  | 63 => some d63
  | 64 => some d64
  | 73 => some d73
  | 76 => some d76
  | 77 => some d77
  | 90 => some d90
  | 92 => some d92
  | 97 => some d97
  | 100 => some d100
  | 104 => some d104
  | 107 => some d107
  | 113 => some d113
  | 116 => some d116
  | _ => none
def RowOk (t : Nat) (d : TD) : Prop := Go.Proofs.Try.prog.underlying t = some d.und ∧ (∃ i, Go.Proofs.Try.prog.info? t = some i ∧ i.size = d.size ∧ i.bytes = d.bytes ∧ i.zero = some d.zero) ∧ (∀ x ∈ d.zero.cells.toList, x.oneCell' = true) ∧ (d.eqs = true → Go.Proofs.Try.prog.stoodInHeld t = false ∧ Go.Proofs.Try.prog.eqGuardType Go.Proofs.Try.prog.depth t = false ∧ (fieldsOf d.und).all (fun f => f.name != "_") = true)
theorem ok2 : RowOk 2 d2 := ⟨by kernel_rfl, ⟨Go.Proofs.Try.t2, by kernel_rfl, by kernel_rfl, by kernel_rfl, by kernel_rfl⟩, List.all_eq_true.1 (by kernel_rfl), fun h => by cases h⟩
theorem ok3 : RowOk 3 d3 := ⟨by kernel_rfl, ⟨Go.Proofs.Try.t3, by kernel_rfl, by kernel_rfl, by kernel_rfl, by kernel_rfl⟩, List.all_eq_true.1 (by kernel_rfl), fun h => by cases h⟩
theorem ok4 : RowOk 4 d4 := ⟨by kernel_rfl, ⟨Go.Proofs.Try.t4, by kernel_rfl, by kernel_rfl, by kernel_rfl, by kernel_rfl⟩, List.all_eq_true.1 (by kernel_rfl), fun h => by cases h⟩
theorem ok5 : RowOk 5 d5 := ⟨by kernel_rfl, ⟨Go.Proofs.Try.t5, by kernel_rfl, by kernel_rfl, by kernel_rfl, by kernel_rfl⟩, List.all_eq_true.1 (by kernel_rfl), fun h => by cases h⟩
theorem ok7 : RowOk 7 d7 := ⟨by kernel_rfl, ⟨Go.Proofs.Try.t7, by kernel_rfl, by kernel_rfl, by kernel_rfl, by kernel_rfl⟩, List.all_eq_true.1 (by kernel_rfl), fun h => by cases h⟩
theorem ok9 : RowOk 9 d9 := ⟨by kernel_rfl, ⟨Go.Proofs.Try.t9, by kernel_rfl, by kernel_rfl, by kernel_rfl, by kernel_rfl⟩, List.all_eq_true.1 (by kernel_rfl), fun h => by cases h⟩
theorem ok12 : RowOk 12 d12 := ⟨by kernel_rfl, ⟨Go.Proofs.Try.t12, by kernel_rfl, by kernel_rfl, by kernel_rfl, by kernel_rfl⟩, List.all_eq_true.1 (by kernel_rfl), fun h => by cases h⟩
theorem ok13 : RowOk 13 d13 := ⟨by kernel_rfl, ⟨Go.Proofs.Try.t13, by kernel_rfl, by kernel_rfl, by kernel_rfl, by kernel_rfl⟩, List.all_eq_true.1 (by kernel_rfl), fun h => by cases h⟩
theorem ok15 : RowOk 15 d15 := ⟨by kernel_rfl, ⟨Go.Proofs.Try.t15, by kernel_rfl, by kernel_rfl, by kernel_rfl, by kernel_rfl⟩, List.all_eq_true.1 (by kernel_rfl), fun h => by cases h⟩
theorem ok16 : RowOk 16 d16 := ⟨by kernel_rfl, ⟨Go.Proofs.Try.t16, by kernel_rfl, by kernel_rfl, by kernel_rfl, by kernel_rfl⟩, List.all_eq_true.1 (by kernel_rfl), fun h => by cases h⟩
theorem ok17 : RowOk 17 d17 := ⟨by kernel_rfl, ⟨Go.Proofs.Try.t17, by kernel_rfl, by kernel_rfl, by kernel_rfl, by kernel_rfl⟩, List.all_eq_true.1 (by kernel_rfl), fun h => by cases h⟩
theorem ok18 : RowOk 18 d18 := ⟨by kernel_rfl, ⟨Go.Proofs.Try.t18, by kernel_rfl, by kernel_rfl, by kernel_rfl, by kernel_rfl⟩, List.all_eq_true.1 (by kernel_rfl), fun h => by cases h⟩
theorem ok21 : RowOk 21 d21 := ⟨by kernel_rfl, ⟨Go.Proofs.Try.t21, by kernel_rfl, by kernel_rfl, by kernel_rfl, by kernel_rfl⟩, List.all_eq_true.1 (by kernel_rfl), fun h => by cases h⟩
theorem ok22 : RowOk 22 d22 := ⟨by kernel_rfl, ⟨Go.Proofs.Try.t22, by kernel_rfl, by kernel_rfl, by kernel_rfl, by kernel_rfl⟩, List.all_eq_true.1 (by kernel_rfl), fun h => by cases h⟩
theorem ok24 : RowOk 24 d24 := ⟨by kernel_rfl, ⟨Go.Proofs.Try.t24, by kernel_rfl, by kernel_rfl, by kernel_rfl, by kernel_rfl⟩, List.all_eq_true.1 (by kernel_rfl), fun h => by cases h⟩
theorem ok25 : RowOk 25 d25 := ⟨by kernel_rfl, ⟨Go.Proofs.Try.t25, by kernel_rfl, by kernel_rfl, by kernel_rfl, by kernel_rfl⟩, List.all_eq_true.1 (by kernel_rfl), fun h => by cases h⟩
theorem ok26 : RowOk 26 d26 := ⟨by kernel_rfl, ⟨Go.Proofs.Try.t26, by kernel_rfl, by kernel_rfl, by kernel_rfl, by kernel_rfl⟩, List.all_eq_true.1 (by kernel_rfl), fun _ => ⟨by kernel_rfl, by kernel_rfl, by kernel_rfl⟩⟩
theorem ok27 : RowOk 27 d27 := ⟨by kernel_rfl, ⟨Go.Proofs.Try.t27, by kernel_rfl, by kernel_rfl, by kernel_rfl, by kernel_rfl⟩, List.all_eq_true.1 (by kernel_rfl), fun _ => ⟨by kernel_rfl, by kernel_rfl, by kernel_rfl⟩⟩
theorem ok28 : RowOk 28 d28 := ⟨by kernel_rfl, ⟨Go.Proofs.Try.t28, by kernel_rfl, by kernel_rfl, by kernel_rfl, by kernel_rfl⟩, List.all_eq_true.1 (by kernel_rfl), fun _ => ⟨by kernel_rfl, by kernel_rfl, by kernel_rfl⟩⟩
theorem ok29 : RowOk 29 d29 := ⟨by kernel_rfl, ⟨Go.Proofs.Try.t29, by kernel_rfl, by kernel_rfl, by kernel_rfl, by kernel_rfl⟩, List.all_eq_true.1 (by kernel_rfl), fun _ => ⟨by kernel_rfl, by kernel_rfl, by kernel_rfl⟩⟩
theorem ok32 : RowOk 32 d32 := ⟨by kernel_rfl, ⟨Go.Proofs.Try.t32, by kernel_rfl, by kernel_rfl, by kernel_rfl, by kernel_rfl⟩, List.all_eq_true.1 (by kernel_rfl), fun h => by cases h⟩
theorem ok36 : RowOk 36 d36 := ⟨by kernel_rfl, ⟨Go.Proofs.Try.t36, by kernel_rfl, by kernel_rfl, by kernel_rfl, by kernel_rfl⟩, List.all_eq_true.1 (by kernel_rfl), fun h => by cases h⟩
theorem ok37 : RowOk 37 d37 := ⟨by kernel_rfl, ⟨Go.Proofs.Try.t37, by kernel_rfl, by kernel_rfl, by kernel_rfl, by kernel_rfl⟩, List.all_eq_true.1 (by kernel_rfl), fun _ => ⟨by kernel_rfl, by kernel_rfl, by kernel_rfl⟩⟩
theorem ok38 : RowOk 38 d38 := ⟨by kernel_rfl, ⟨Go.Proofs.Try.t38, by kernel_rfl, by kernel_rfl, by kernel_rfl, by kernel_rfl⟩, List.all_eq_true.1 (by kernel_rfl), fun _ => ⟨by kernel_rfl, by kernel_rfl, by kernel_rfl⟩⟩
theorem ok39 : RowOk 39 d39 := ⟨by kernel_rfl, ⟨Go.Proofs.Try.t39, by kernel_rfl, by kernel_rfl, by kernel_rfl, by kernel_rfl⟩, List.all_eq_true.1 (by kernel_rfl), fun _ => ⟨by kernel_rfl, by kernel_rfl, by kernel_rfl⟩⟩
theorem ok45 : RowOk 45 d45 := ⟨by kernel_rfl, ⟨Go.Proofs.Try.t45, by kernel_rfl, by kernel_rfl, by kernel_rfl, by kernel_rfl⟩, List.all_eq_true.1 (by kernel_rfl), fun h => by cases h⟩
theorem ok51 : RowOk 51 d51 := ⟨by kernel_rfl, ⟨Go.Proofs.Try.t51, by kernel_rfl, by kernel_rfl, by kernel_rfl, by kernel_rfl⟩, List.all_eq_true.1 (by kernel_rfl), fun _ => ⟨by kernel_rfl, by kernel_rfl, by kernel_rfl⟩⟩
theorem ok52 : RowOk 52 d52 := ⟨by kernel_rfl, ⟨Go.Proofs.Try.t52, by kernel_rfl, by kernel_rfl, by kernel_rfl, by kernel_rfl⟩, List.all_eq_true.1 (by kernel_rfl), fun _ => ⟨by kernel_rfl, by kernel_rfl, by kernel_rfl⟩⟩
theorem ok63 : RowOk 63 d63 := ⟨by kernel_rfl, ⟨Go.Proofs.Try.t63, by kernel_rfl, by kernel_rfl, by kernel_rfl, by kernel_rfl⟩, List.all_eq_true.1 (by kernel_rfl), fun h => by cases h⟩
theorem ok64 : RowOk 64 d64 := ⟨by kernel_rfl, ⟨Go.Proofs.Try.t64, by kernel_rfl, by kernel_rfl, by kernel_rfl, by kernel_rfl⟩, List.all_eq_true.1 (by kernel_rfl), fun h => by cases h⟩
theorem ok73 : RowOk 73 d73 := ⟨by kernel_rfl, ⟨Go.Proofs.Try.t73, by kernel_rfl, by kernel_rfl, by kernel_rfl, by kernel_rfl⟩, List.all_eq_true.1 (by kernel_rfl), fun h => by cases h⟩
theorem ok76 : RowOk 76 d76 := ⟨by kernel_rfl, ⟨Go.Proofs.Try.t76, by kernel_rfl, by kernel_rfl, by kernel_rfl, by kernel_rfl⟩, List.all_eq_true.1 (by kernel_rfl), fun _ => ⟨by kernel_rfl, by kernel_rfl, by kernel_rfl⟩⟩
theorem ok77 : RowOk 77 d77 := ⟨by kernel_rfl, ⟨Go.Proofs.Try.t77, by kernel_rfl, by kernel_rfl, by kernel_rfl, by kernel_rfl⟩, List.all_eq_true.1 (by kernel_rfl), fun _ => ⟨by kernel_rfl, by kernel_rfl, by kernel_rfl⟩⟩
theorem ok90 : RowOk 90 d90 := ⟨by kernel_rfl, ⟨Go.Proofs.Try.t90, by kernel_rfl, by kernel_rfl, by kernel_rfl, by kernel_rfl⟩, List.all_eq_true.1 (by kernel_rfl), fun h => by cases h⟩
theorem ok92 : RowOk 92 d92 := ⟨by kernel_rfl, ⟨Go.Proofs.Try.t92, by kernel_rfl, by kernel_rfl, by kernel_rfl, by kernel_rfl⟩, List.all_eq_true.1 (by kernel_rfl), fun h => by cases h⟩
theorem ok97 : RowOk 97 d97 := ⟨by kernel_rfl, ⟨Go.Proofs.Try.t97, by kernel_rfl, by kernel_rfl, by kernel_rfl, by kernel_rfl⟩, List.all_eq_true.1 (by kernel_rfl), fun h => by cases h⟩
theorem ok100 : RowOk 100 d100 := ⟨by kernel_rfl, ⟨Go.Proofs.Try.t100, by kernel_rfl, by kernel_rfl, by kernel_rfl, by kernel_rfl⟩, List.all_eq_true.1 (by kernel_rfl), fun h => by cases h⟩
theorem ok104 : RowOk 104 d104 := ⟨by kernel_rfl, ⟨Go.Proofs.Try.t104, by kernel_rfl, by kernel_rfl, by kernel_rfl, by kernel_rfl⟩, List.all_eq_true.1 (by kernel_rfl), fun h => by cases h⟩
theorem ok107 : RowOk 107 d107 := ⟨by kernel_rfl, ⟨Go.Proofs.Try.t107, by kernel_rfl, by kernel_rfl, by kernel_rfl, by kernel_rfl⟩, List.all_eq_true.1 (by kernel_rfl), fun h => by cases h⟩
theorem ok113 : RowOk 113 d113 := ⟨by kernel_rfl, ⟨Go.Proofs.Try.t113, by kernel_rfl, by kernel_rfl, by kernel_rfl, by kernel_rfl⟩, List.all_eq_true.1 (by kernel_rfl), fun h => by cases h⟩
theorem ok116 : RowOk 116 d116 := ⟨by kernel_rfl, ⟨Go.Proofs.Try.t116, by kernel_rfl, by kernel_rfl, by kernel_rfl, by kernel_rfl⟩, List.all_eq_true.1 (by kernel_rfl), fun h => by cases h⟩
theorem tok : TOk Go.Proofs.Try.prog T := by
  intro t d h
  unfold T at h
  split at h
  · injection h with h; subst h; exact ok2
  · injection h with h; subst h; exact ok3
  · injection h with h; subst h; exact ok4
  · injection h with h; subst h; exact ok5
  · injection h with h; subst h; exact ok7
  · injection h with h; subst h; exact ok9
  · injection h with h; subst h; exact ok12
  · injection h with h; subst h; exact ok13
  · injection h with h; subst h; exact ok15
  · injection h with h; subst h; exact ok16
  · injection h with h; subst h; exact ok17
  · injection h with h; subst h; exact ok18
  · injection h with h; subst h; exact ok21
  · injection h with h; subst h; exact ok22
  · injection h with h; subst h; exact ok24
  · injection h with h; subst h; exact ok25
  · injection h with h; subst h; exact ok26
  · injection h with h; subst h; exact ok27
  · injection h with h; subst h; exact ok28
  · injection h with h; subst h; exact ok29
  · injection h with h; subst h; exact ok32
  · injection h with h; subst h; exact ok36
  · injection h with h; subst h; exact ok37
  · injection h with h; subst h; exact ok38
  · injection h with h; subst h; exact ok39
  · injection h with h; subst h; exact ok45
  · injection h with h; subst h; exact ok51
  · injection h with h; subst h; exact ok52
  · injection h with h; subst h; exact ok63
  · injection h with h; subst h; exact ok64
  · injection h with h; subst h; exact ok73
  · injection h with h; subst h; exact ok76
  · injection h with h; subst h; exact ok77
  · injection h with h; subst h; exact ok90
  · injection h with h; subst h; exact ok92
  · injection h with h; subst h; exact ok97
  · injection h with h; subst h; exact ok100
  · injection h with h; subst h; exact ok104
  · injection h with h; subst h; exact ok107
  · injection h with h; subst h; exact ok113
  · injection h with h; subst h; exact ok116
  · cases h
end Go.Proofs.Ythjpkcpoepnolaa.AM
