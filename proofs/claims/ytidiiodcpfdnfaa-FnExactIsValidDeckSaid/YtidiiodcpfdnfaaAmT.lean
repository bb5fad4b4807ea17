/-
  THE TABLE OF TYPES of the seat, for the abstract machine: each row as the program has it. No condition.
-/
import Derived.Test.YtidiiodcpfdnfaaAmD
import Derived.Test.YtidiiodcpfdnfaaProg
import Derived.KernelRfl
namespace Go.Proofs.Ytidiiodcpfdnfaa.AM
open Go Go.RowKit
set_option linter.unusedVariables false
set_option linter.unusedSimpArgs false
set_option maxRecDepth 100000

noncomputable def d2 : TD := ⟨Try.t2.desc, Try.t2.size, Try.t2.bytes, match Try.t2.zero with | some z => z | none => .bool false, false⟩
noncomputable def d3 : TD := ⟨Try.t3.desc, Try.t3.size, Try.t3.bytes, match Try.t3.zero with | some z => z | none => .bool false, false⟩
noncomputable def d4 : TD := ⟨Try.t4.desc, Try.t4.size, Try.t4.bytes, match Try.t4.zero with | some z => z | none => .bool false, false⟩
noncomputable def d5 : TD := ⟨Try.t5.desc, Try.t5.size, Try.t5.bytes, match Try.t5.zero with | some z => z | none => .bool false, false⟩
noncomputable def d7 : TD := ⟨Try.t7.desc, Try.t7.size, Try.t7.bytes, match Try.t7.zero with | some z => z | none => .bool false, false⟩
noncomputable def d9 : TD := ⟨Try.t9.desc, Try.t9.size, Try.t9.bytes, match Try.t9.zero with | some z => z | none => .bool false, false⟩
noncomputable def d12 : TD := ⟨Try.t12.desc, Try.t12.size, Try.t12.bytes, match Try.t12.zero with | some z => z | none => .bool false, false⟩
noncomputable def d13 : TD := ⟨Try.t13.desc, Try.t13.size, Try.t13.bytes, match Try.t13.zero with | some z => z | none => .bool false, false⟩
noncomputable def d15 : TD := ⟨Try.t15.desc, Try.t15.size, Try.t15.bytes, match Try.t15.zero with | some z => z | none => .bool false, false⟩
noncomputable def d16 : TD := ⟨Try.t16.desc, Try.t16.size, Try.t16.bytes, match Try.t16.zero with | some z => z | none => .bool false, false⟩
noncomputable def d17 : TD := ⟨Try.t17.desc, Try.t17.size, Try.t17.bytes, match Try.t17.zero with | some z => z | none => .bool false, false⟩
noncomputable def d18 : TD := ⟨Try.t18.desc, Try.t18.size, Try.t18.bytes, match Try.t18.zero with | some z => z | none => .bool false, false⟩
noncomputable def d21 : TD := ⟨Try.t21.desc, Try.t21.size, Try.t21.bytes, match Try.t21.zero with | some z => z | none => .bool false, false⟩
noncomputable def d26 : TD := ⟨Try.t26.desc, Try.t26.size, Try.t26.bytes, match Try.t26.zero with | some z => z | none => .bool false, true⟩
noncomputable def d27 : TD := ⟨Try.t26.desc, Try.t27.size, Try.t27.bytes, match Try.t27.zero with | some z => z | none => .bool false, true⟩
noncomputable def d29 : TD := ⟨Try.t26.desc, Try.t29.size, Try.t29.bytes, match Try.t29.zero with | some z => z | none => .bool false, true⟩
noncomputable def d36 : TD := ⟨Try.t36.desc, Try.t36.size, Try.t36.bytes, match Try.t36.zero with | some z => z | none => .bool false, false⟩
noncomputable def d37 : TD := ⟨Try.t37.desc, Try.t37.size, Try.t37.bytes, match Try.t37.zero with | some z => z | none => .bool false, false⟩
noncomputable def d46 : TD := ⟨Try.t46.desc, Try.t46.size, Try.t46.bytes, match Try.t46.zero with | some z => z | none => .bool false, false⟩
noncomputable def d47 : TD := ⟨Try.t47.desc, Try.t47.size, Try.t47.bytes, match Try.t47.zero with | some z => z | none => .bool false, true⟩
noncomputable def d48 : TD := ⟨Try.t47.desc, Try.t48.size, Try.t48.bytes, match Try.t48.zero with | some z => z | none => .bool false, true⟩
noncomputable def d51 : TD := ⟨Try.t51.desc, Try.t51.size, Try.t51.bytes, match Try.t51.zero with | some z => z | none => .bool false, false⟩
noncomputable def d52 : TD := ⟨Try.t52.desc, Try.t52.size, Try.t52.bytes, match Try.t52.zero with | some z => z | none => .bool false, true⟩
noncomputable def d53 : TD := ⟨Try.t52.desc, Try.t53.size, Try.t53.bytes, match Try.t53.zero with | some z => z | none => .bool false, true⟩
noncomputable def d58 : TD := ⟨Try.t58.desc, Try.t58.size, Try.t58.bytes, match Try.t58.zero with | some z => z | none => .bool false, false⟩
noncomputable def d62 : TD := ⟨Try.t62.desc, Try.t62.size, Try.t62.bytes, match Try.t62.zero with | some z => z | none => .bool false, false⟩
noncomputable def d71 : TD := ⟨Try.t71.desc, Try.t71.size, Try.t71.bytes, match Try.t71.zero with | some z => z | none => .bool false, false⟩
noncomputable def d74 : TD := ⟨Try.t74.desc, Try.t74.size, Try.t74.bytes, match Try.t74.zero with | some z => z | none => .bool false, false⟩
noncomputable def d77 : TD := ⟨Try.t77.desc, Try.t77.size, Try.t77.bytes, match Try.t77.zero with | some z => z | none => .bool false, false⟩
noncomputable def d81 : TD := ⟨Try.t81.desc, Try.t81.size, Try.t81.bytes, match Try.t81.zero with | some z => z | none => .bool false, false⟩
noncomputable def d84 : TD := ⟨Try.t84.desc, Try.t84.size, Try.t84.bytes, match Try.t84.zero with | some z => z | none => .bool false, false⟩
noncomputable def T (t : Nat) : Option TD := match t with
  | 2 => some d2
  | 3 => some d3
  | 4 => some d4
  | 5 => some d5
  | 7 => some d7
  | 9 => some d9
  | 12 => some d12
  | 13 => some d13
  | 15 => some d15
  | 16 => some d16
  | 17 => some d17
  | 18 => some d18
  | 21 => some d21
  | 26 => some d26
  | 27 => some d27
  | 29 => some d29
  | 36 => some d36
  | 37 => some d37
  | 46 => some d46
  | 47 => some d47
  | 48 => some d48
  | 51 => some d51
  | 52 => some d52
  | 53 => some d53
  | 58 => some d58
  | 62 => some d62
  | 71 => some d71
  | 74 => some d74
  | 77 => some d77
  | 81 => some d81
  | 84 => some d84
  | _ => none
def RowOk (t : Nat) (d : TD) : Prop := Try.prog.underlying t = some d.und ∧ (∃ i, Try.prog.info? t = some i ∧ i.size = d.size ∧ i.bytes = d.bytes ∧ i.zero = some d.zero) ∧ (∀ x ∈ d.zero.cells.toList, x.oneCell' = true) ∧ (d.eqs = true → Try.prog.stoodInHeld t = false ∧ Try.prog.eqGuardType Try.prog.depth t = false ∧ (fieldsOf d.und).all (fun f => f.name != "_") = true)
theorem ok2 : RowOk 2 d2 := ⟨by kernel_rfl, ⟨Try.t2, by kernel_rfl, by kernel_rfl, by kernel_rfl, by kernel_rfl⟩, List.all_eq_true.1 (by kernel_rfl), fun h => by cases h⟩
theorem ok3 : RowOk 3 d3 := ⟨by kernel_rfl, ⟨Try.t3, by kernel_rfl, by kernel_rfl, by kernel_rfl, by kernel_rfl⟩, List.all_eq_true.1 (by kernel_rfl), fun h => by cases h⟩
theorem ok4 : RowOk 4 d4 := ⟨by kernel_rfl, ⟨Try.t4, by kernel_rfl, by kernel_rfl, by kernel_rfl, by kernel_rfl⟩, List.all_eq_true.1 (by kernel_rfl), fun h => by cases h⟩
theorem ok5 : RowOk 5 d5 := ⟨by kernel_rfl, ⟨Try.t5, by kernel_rfl, by kernel_rfl, by kernel_rfl, by kernel_rfl⟩, List.all_eq_true.1 (by kernel_rfl), fun h => by cases h⟩
theorem ok7 : RowOk 7 d7 := ⟨by kernel_rfl, ⟨Try.t7, by kernel_rfl, by kernel_rfl, by kernel_rfl, by kernel_rfl⟩, List.all_eq_true.1 (by kernel_rfl), fun h => by cases h⟩
theorem ok9 : RowOk 9 d9 := ⟨by kernel_rfl, ⟨Try.t9, by kernel_rfl, by kernel_rfl, by kernel_rfl, by kernel_rfl⟩, List.all_eq_true.1 (by kernel_rfl), fun h => by cases h⟩
theorem ok12 : RowOk 12 d12 := ⟨by kernel_rfl, ⟨Try.t12, by kernel_rfl, by kernel_rfl, by kernel_rfl, by kernel_rfl⟩, List.all_eq_true.1 (by kernel_rfl), fun h => by cases h⟩
theorem ok13 : RowOk 13 d13 := ⟨by kernel_rfl, ⟨Try.t13, by kernel_rfl, by kernel_rfl, by kernel_rfl, by kernel_rfl⟩, List.all_eq_true.1 (by kernel_rfl), fun h => by cases h⟩
theorem ok15 : RowOk 15 d15 := ⟨by kernel_rfl, ⟨Try.t15, by kernel_rfl, by kernel_rfl, by kernel_rfl, by kernel_rfl⟩, List.all_eq_true.1 (by kernel_rfl), fun h => by cases h⟩
theorem ok16 : RowOk 16 d16 := ⟨by kernel_rfl, ⟨Try.t16, by kernel_rfl, by kernel_rfl, by kernel_rfl, by kernel_rfl⟩, List.all_eq_true.1 (by kernel_rfl), fun h => by cases h⟩
theorem ok17 : RowOk 17 d17 := ⟨by kernel_rfl, ⟨Try.t17, by kernel_rfl, by kernel_rfl, by kernel_rfl, by kernel_rfl⟩, List.all_eq_true.1 (by kernel_rfl), fun h => by cases h⟩
theorem ok18 : RowOk 18 d18 := ⟨by kernel_rfl, ⟨Try.t18, by kernel_rfl, by kernel_rfl, by kernel_rfl, by kernel_rfl⟩, List.all_eq_true.1 (by kernel_rfl), fun h => by cases h⟩
theorem ok21 : RowOk 21 d21 := ⟨by kernel_rfl, ⟨Try.t21, by kernel_rfl, by kernel_rfl, by kernel_rfl, by kernel_rfl⟩, List.all_eq_true.1 (by kernel_rfl), fun h => by cases h⟩
theorem ok26 : RowOk 26 d26 := ⟨by kernel_rfl, ⟨Try.t26, by kernel_rfl, by kernel_rfl, by kernel_rfl, by kernel_rfl⟩, List.all_eq_true.1 (by kernel_rfl), fun _ => ⟨by kernel_rfl, by kernel_rfl, by kernel_rfl⟩⟩
theorem ok27 : RowOk 27 d27 := ⟨by kernel_rfl, ⟨Try.t27, by kernel_rfl, by kernel_rfl, by kernel_rfl, by kernel_rfl⟩, List.all_eq_true.1 (by kernel_rfl), fun _ => ⟨by kernel_rfl, by kernel_rfl, by kernel_rfl⟩⟩
theorem ok29 : RowOk 29 d29 := ⟨by kernel_rfl, ⟨Try.t29, by kernel_rfl, by kernel_rfl, by kernel_rfl, by kernel_rfl⟩, List.all_eq_true.1 (by kernel_rfl), fun _ => ⟨by kernel_rfl, by kernel_rfl, by kernel_rfl⟩⟩
theorem ok36 : RowOk 36 d36 := ⟨by kernel_rfl, ⟨Try.t36, by kernel_rfl, by kernel_rfl, by kernel_rfl, by kernel_rfl⟩, List.all_eq_true.1 (by kernel_rfl), fun h => by cases h⟩
theorem ok37 : RowOk 37 d37 := ⟨by kernel_rfl, ⟨Try.t37, by kernel_rfl, by kernel_rfl, by kernel_rfl, by kernel_rfl⟩, List.all_eq_true.1 (by kernel_rfl), fun h => by cases h⟩
theorem ok46 : RowOk 46 d46 := ⟨by kernel_rfl, ⟨Try.t46, by kernel_rfl, by kernel_rfl, by kernel_rfl, by kernel_rfl⟩, List.all_eq_true.1 (by kernel_rfl), fun h => by cases h⟩
theorem ok47 : RowOk 47 d47 := ⟨by kernel_rfl, ⟨Try.t47, by kernel_rfl, by kernel_rfl, by kernel_rfl, by kernel_rfl⟩, List.all_eq_true.1 (by kernel_rfl), fun _ => ⟨by kernel_rfl, by kernel_rfl, by kernel_rfl⟩⟩
theorem ok48 : RowOk 48 d48 := ⟨by kernel_rfl, ⟨Try.t48, by kernel_rfl, by kernel_rfl, by kernel_rfl, by kernel_rfl⟩, List.all_eq_true.1 (by kernel_rfl), fun _ => ⟨by kernel_rfl, by kernel_rfl, by kernel_rfl⟩⟩
theorem ok51 : RowOk 51 d51 := ⟨by kernel_rfl, ⟨Try.t51, by kernel_rfl, by kernel_rfl, by kernel_rfl, by kernel_rfl⟩, List.all_eq_true.1 (by kernel_rfl), fun h => by cases h⟩
theorem ok52 : RowOk 52 d52 := ⟨by kernel_rfl, ⟨Try.t52, by kernel_rfl, by kernel_rfl, by kernel_rfl, by kernel_rfl⟩, List.all_eq_true.1 (by kernel_rfl), fun _ => ⟨by kernel_rfl, by kernel_rfl, by kernel_rfl⟩⟩
theorem ok53 : RowOk 53 d53 := ⟨by kernel_rfl, ⟨Try.t53, by kernel_rfl, by kernel_rfl, by kernel_rfl, by kernel_rfl⟩, List.all_eq_true.1 (by kernel_rfl), fun _ => ⟨by kernel_rfl, by kernel_rfl, by kernel_rfl⟩⟩
theorem ok58 : RowOk 58 d58 := ⟨by kernel_rfl, ⟨Try.t58, by kernel_rfl, by kernel_rfl, by kernel_rfl, by kernel_rfl⟩, List.all_eq_true.1 (by kernel_rfl), fun h => by cases h⟩
theorem ok62 : RowOk 62 d62 := ⟨by kernel_rfl, ⟨Try.t62, by kernel_rfl, by kernel_rfl, by kernel_rfl, by kernel_rfl⟩, List.all_eq_true.1 (by kernel_rfl), fun h => by cases h⟩
theorem ok71 : RowOk 71 d71 := ⟨by kernel_rfl, ⟨Try.t71, by kernel_rfl, by kernel_rfl, by kernel_rfl, by kernel_rfl⟩, List.all_eq_true.1 (by kernel_rfl), fun h => by cases h⟩
theorem ok74 : RowOk 74 d74 := ⟨by kernel_rfl, ⟨Try.t74, by kernel_rfl, by kernel_rfl, by kernel_rfl, by kernel_rfl⟩, List.all_eq_true.1 (by kernel_rfl), fun h => by cases h⟩
theorem ok77 : RowOk 77 d77 := ⟨by kernel_rfl, ⟨Try.t77, by kernel_rfl, by kernel_rfl, by kernel_rfl, by kernel_rfl⟩, List.all_eq_true.1 (by kernel_rfl), fun h => by cases h⟩
theorem ok81 : RowOk 81 d81 := ⟨by kernel_rfl, ⟨Try.t81, by kernel_rfl, by kernel_rfl, by kernel_rfl, by kernel_rfl⟩, List.all_eq_true.1 (by kernel_rfl), fun h => by cases h⟩
theorem ok84 : RowOk 84 d84 := ⟨by kernel_rfl, ⟨Try.t84, by kernel_rfl, by kernel_rfl, by kernel_rfl, by kernel_rfl⟩, List.all_eq_true.1 (by kernel_rfl), fun h => by cases h⟩
theorem tok : TOk Try.prog T := by
  intro t d h
  unfold T at h
  split at h <;> first | (cases h; done) | (injection h with h; subst h; first | exact ok2 | exact ok3 | exact ok4 | exact ok5 | exact ok7 | exact ok9 | exact ok12 | exact ok13 | exact ok15 | exact ok16 | exact ok17 | exact ok18 | exact ok21 | exact ok26 | exact ok27 | exact ok29 | exact ok36 | exact ok37 | exact ok46 | exact ok47 | exact ok48 | exact ok51 | exact ok52 | exact ok53 | exact ok58 | exact ok62 | exact ok71 | exact ok74 | exact ok77 | exact ok81 | exact ok84)
end Go.Proofs.Ytidiiodcpfdnfaa.AM
