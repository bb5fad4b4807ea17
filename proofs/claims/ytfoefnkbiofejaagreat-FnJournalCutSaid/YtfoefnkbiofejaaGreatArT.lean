/-
  THE TABLE OF TYPES of the seat. No condition.
-/
import Derived.Test.YtfoefnkbiofejaaGreatArE
import Derived.Test.YtfoefnkbiofejaaGreatProg
import Derived.KernelRfl
namespace Go.Proofs.YtfoefnkbiofejaaGreat.AM
noncomputable section
open Go Go.Proofs Go.RowKit
set_option linter.unusedVariables false
set_option linter.unusedSimpArgs false
set_option maxRecDepth 100000

def d2 : TD := ⟨Go.Proofs.Tryz.t2.desc, Go.Proofs.Tryz.t2.size, Go.Proofs.Tryz.t2.bytes, match Go.Proofs.Tryz.t2.zero with | some z => z | none => .bool false, false⟩
def d3 : TD := ⟨Go.Proofs.Tryz.t3.desc, Go.Proofs.Tryz.t3.size, Go.Proofs.Tryz.t3.bytes, match Go.Proofs.Tryz.t3.zero with | some z => z | none => .bool false, false⟩
def d4 : TD := ⟨Go.Proofs.Tryz.t4.desc, Go.Proofs.Tryz.t4.size, Go.Proofs.Tryz.t4.bytes, match Go.Proofs.Tryz.t4.zero with | some z => z | none => .bool false, false⟩
def d5 : TD := ⟨Go.Proofs.Tryz.t5.desc, Go.Proofs.Tryz.t5.size, Go.Proofs.Tryz.t5.bytes, match Go.Proofs.Tryz.t5.zero with | some z => z | none => .bool false, false⟩
def d9 : TD := ⟨Go.Proofs.Tryz.t9.desc, Go.Proofs.Tryz.t9.size, Go.Proofs.Tryz.t9.bytes, match Go.Proofs.Tryz.t9.zero with | some z => z | none => .bool false, false⟩
def d22 : TD := ⟨Go.Proofs.Tryz.t22.desc, Go.Proofs.Tryz.t22.size, Go.Proofs.Tryz.t22.bytes, match Go.Proofs.Tryz.t22.zero with | some z => z | none => .bool false, false⟩
def d24 : TD := ⟨Go.Proofs.Tryz.t24.desc, Go.Proofs.Tryz.t24.size, Go.Proofs.Tryz.t24.bytes, match Go.Proofs.Tryz.t24.zero with | some z => z | none => .bool false, false⟩
def d26 : TD := ⟨Go.Proofs.Tryz.t25.desc, Go.Proofs.Tryz.t26.size, Go.Proofs.Tryz.t26.bytes, match Go.Proofs.Tryz.t26.zero with | some z => z | none => .bool false, true⟩
def d27 : TD := ⟨Go.Proofs.Tryz.t27.desc, Go.Proofs.Tryz.t27.size, Go.Proofs.Tryz.t27.bytes, match Go.Proofs.Tryz.t27.zero with | some z => z | none => .bool false, false⟩
def d36 : TD := ⟨Go.Proofs.Tryz.t35.desc, Go.Proofs.Tryz.t36.size, Go.Proofs.Tryz.t36.bytes, match Go.Proofs.Tryz.t36.zero with | some z => z | none => .bool false, true⟩
def d38 : TD := ⟨Go.Proofs.Tryz.t37.desc, Go.Proofs.Tryz.t38.size, Go.Proofs.Tryz.t38.bytes, match Go.Proofs.Tryz.t38.zero with | some z => z | none => .bool false, true⟩
def d40 : TD := ⟨Go.Proofs.Tryz.t39.desc, Go.Proofs.Tryz.t40.size, Go.Proofs.Tryz.t40.bytes, match Go.Proofs.Tryz.t40.zero with | some z => z | none => .bool false, true⟩
def d42 : TD := ⟨Go.Proofs.Tryz.t41.desc, Go.Proofs.Tryz.t42.size, Go.Proofs.Tryz.t42.bytes, match Go.Proofs.Tryz.t42.zero with | some z => z | none => .bool false, true⟩
def d44 : TD := ⟨Go.Proofs.Tryz.t43.desc, Go.Proofs.Tryz.t44.size, Go.Proofs.Tryz.t44.bytes, match Go.Proofs.Tryz.t44.zero with | some z => z | none => .bool false, true⟩
def d46 : TD := ⟨Go.Proofs.Tryz.t45.desc, Go.Proofs.Tryz.t46.size, Go.Proofs.Tryz.t46.bytes, match Go.Proofs.Tryz.t46.zero with | some z => z | none => .bool false, true⟩
def d48 : TD := ⟨Go.Proofs.Tryz.t47.desc, Go.Proofs.Tryz.t48.size, Go.Proofs.Tryz.t48.bytes, match Go.Proofs.Tryz.t48.zero with | some z => z | none => .bool false, true⟩
def d51 : TD := ⟨Go.Proofs.Tryz.t51.desc, Go.Proofs.Tryz.t51.size, Go.Proofs.Tryz.t51.bytes, match Go.Proofs.Tryz.t51.zero with | some z => z | none => .bool false, false⟩
def d56 : TD := ⟨Go.Proofs.Tryz.t56.desc, Go.Proofs.Tryz.t56.size, Go.Proofs.Tryz.t56.bytes, match Go.Proofs.Tryz.t56.zero with | some z => z | none => .bool false, false⟩
def d63 : TD := ⟨Go.Proofs.Tryz.t63.desc, Go.Proofs.Tryz.t63.size, Go.Proofs.Tryz.t63.bytes, match Go.Proofs.Tryz.t63.zero with | some z => z | none => .bool false, false⟩
def d65 : TD := ⟨Go.Proofs.Tryz.t65.desc, Go.Proofs.Tryz.t65.size, Go.Proofs.Tryz.t65.bytes, match Go.Proofs.Tryz.t65.zero with | some z => z | none => .bool false, false⟩
def d67 : TD := ⟨Go.Proofs.Tryz.t67.desc, Go.Proofs.Tryz.t67.size, Go.Proofs.Tryz.t67.bytes, match Go.Proofs.Tryz.t67.zero with | some z => z | none => .bool false, false⟩
def d69 : TD := ⟨Go.Proofs.Tryz.t69.desc, Go.Proofs.Tryz.t69.size, Go.Proofs.Tryz.t69.bytes, match Go.Proofs.Tryz.t69.zero with | some z => z | none => .bool false, false⟩
def d71 : TD := ⟨Go.Proofs.Tryz.t71.desc, Go.Proofs.Tryz.t71.size, Go.Proofs.Tryz.t71.bytes, match Go.Proofs.Tryz.t71.zero with | some z => z | none => .bool false, false⟩
def d79 : TD := ⟨Go.Proofs.Tryz.t79.desc, Go.Proofs.Tryz.t79.size, Go.Proofs.Tryz.t79.bytes, match Go.Proofs.Tryz.t79.zero with | some z => z | none => .bool false, false⟩
def d80 : TD := ⟨Go.Proofs.Tryz.t80.desc, Go.Proofs.Tryz.t80.size, Go.Proofs.Tryz.t80.bytes, match Go.Proofs.Tryz.t80.zero with | some z => z | none => .bool false, false⟩
def d81 : TD := ⟨Go.Proofs.Tryz.t81.desc, Go.Proofs.Tryz.t81.size, Go.Proofs.Tryz.t81.bytes, match Go.Proofs.Tryz.t81.zero with | some z => z | none => .bool false, false⟩
def d83 : TD := ⟨Go.Proofs.Tryz.t82.desc, Go.Proofs.Tryz.t83.size, Go.Proofs.Tryz.t83.bytes, match Go.Proofs.Tryz.t83.zero with | some z => z | none => .bool false, true⟩
def d102 : TD := ⟨Go.Proofs.Tryz.t101.desc, Go.Proofs.Tryz.t102.size, Go.Proofs.Tryz.t102.bytes, match Go.Proofs.Tryz.t102.zero with | some z => z | none => .bool false, false⟩
def d105 : TD := ⟨Go.Proofs.Tryz.t104.desc, Go.Proofs.Tryz.t105.size, Go.Proofs.Tryz.t105.bytes, match Go.Proofs.Tryz.t105.zero with | some z => z | none => .bool false, false⟩
def d143 : TD := ⟨Go.Proofs.Tryz.t143.desc, Go.Proofs.Tryz.t143.size, Go.Proofs.Tryz.t143.bytes, match Go.Proofs.Tryz.t143.zero with | some z => z | none => .bool false, false⟩
def d145 : TD := ⟨Go.Proofs.Tryz.t144.desc, Go.Proofs.Tryz.t145.size, Go.Proofs.Tryz.t145.bytes, match Go.Proofs.Tryz.t145.zero with | some z => z | none => .bool false, false⟩
def T (t : Nat) : Option TD := match t with
  | 2 => some d2
  | 3 => some d3
  | 4 => some d4
  | 5 => some d5
  | 9 => some d9
  | 22 => some d22
  | 24 => some d24
  | 26 => some d26
  | 27 => some d27
  | 36 => some d36
  | 38 => some d38
  | 40 => some d40
  | 42 => some d42
  | 44 => some d44
  | 46 => some d46
  | 48 => some d48
  | 51 => some d51
  | 56 => some d56
  | 63 => some d63
  | 65 => some d65
  | 67 => some d67
  | 69 => some d69
  | 71 => some d71
  | 79 => some d79
  | 80 => some d80
  | 81 => some d81
  | 83 => some d83
  | 102 => some d102
  | 105 => some d105
  | 143 => some d143
  | 145 => some d145
  | _ => none
def RowOk (t : Nat) (d : TD) : Prop := Go.Proofs.Tryz.prog.underlying t = some d.und /\ (∃ i, Go.Proofs.Tryz.prog.info? t = some i /\ i.size = d.size /\ i.bytes = d.bytes /\ i.zero = some d.zero) /\ (∀ x ∈ d.zero.cells.toList, x.oneCell' = true) /\ (d.eqs = true -> Go.Proofs.Tryz.prog.stoodInHeld t = false /\ Go.Proofs.Tryz.prog.eqGuardType Go.Proofs.Tryz.prog.depth t = false /\ (fieldsOf d.und).all (fun f => f.name != "_") = true)
theorem ok2 : RowOk 2 d2 := ⟨by kernel_rfl, ⟨Go.Proofs.Tryz.t2, by kernel_rfl, by kernel_rfl, by kernel_rfl, by kernel_rfl⟩, List.all_eq_true.1 (by kernel_rfl), fun h => by cases h⟩
theorem ok3 : RowOk 3 d3 := ⟨by kernel_rfl, ⟨Go.Proofs.Tryz.t3, by kernel_rfl, by kernel_rfl, by kernel_rfl, by kernel_rfl⟩, List.all_eq_true.1 (by kernel_rfl), fun h => by cases h⟩
theorem ok4 : RowOk 4 d4 := ⟨by kernel_rfl, ⟨Go.Proofs.Tryz.t4, by kernel_rfl, by kernel_rfl, by kernel_rfl, by kernel_rfl⟩, List.all_eq_true.1 (by kernel_rfl), fun h => by cases h⟩
theorem ok5 : RowOk 5 d5 := ⟨by kernel_rfl, ⟨Go.Proofs.Tryz.t5, by kernel_rfl, by kernel_rfl, by kernel_rfl, by kernel_rfl⟩, List.all_eq_true.1 (by kernel_rfl), fun h => by cases h⟩
theorem ok9 : RowOk 9 d9 := ⟨by kernel_rfl, ⟨Go.Proofs.Tryz.t9, by kernel_rfl, by kernel_rfl, by kernel_rfl, by kernel_rfl⟩, List.all_eq_true.1 (by kernel_rfl), fun h => by cases h⟩
theorem ok22 : RowOk 22 d22 := ⟨by kernel_rfl, ⟨Go.Proofs.Tryz.t22, by kernel_rfl, by kernel_rfl, by kernel_rfl, by kernel_rfl⟩, List.all_eq_true.1 (by kernel_rfl), fun h => by cases h⟩
theorem ok24 : RowOk 24 d24 := ⟨by kernel_rfl, ⟨Go.Proofs.Tryz.t24, by kernel_rfl, by kernel_rfl, by kernel_rfl, by kernel_rfl⟩, List.all_eq_true.1 (by kernel_rfl), fun h => by cases h⟩
theorem ok26 : RowOk 26 d26 := ⟨by kernel_rfl, ⟨Go.Proofs.Tryz.t26, by kernel_rfl, by kernel_rfl, by kernel_rfl, by kernel_rfl⟩, List.all_eq_true.1 (by kernel_rfl), fun _ => ⟨by kernel_rfl, by kernel_rfl, by kernel_rfl⟩⟩
theorem ok27 : RowOk 27 d27 := ⟨by kernel_rfl, ⟨Go.Proofs.Tryz.t27, by kernel_rfl, by kernel_rfl, by kernel_rfl, by kernel_rfl⟩, List.all_eq_true.1 (by kernel_rfl), fun h => by cases h⟩
theorem ok36 : RowOk 36 d36 := ⟨by kernel_rfl, ⟨Go.Proofs.Tryz.t36, by kernel_rfl, by kernel_rfl, by kernel_rfl, by kernel_rfl⟩, List.all_eq_true.1 (by kernel_rfl), fun _ => ⟨by kernel_rfl, by kernel_rfl, by kernel_rfl⟩⟩
theorem ok38 : RowOk 38 d38 := ⟨by kernel_rfl, ⟨Go.Proofs.Tryz.t38, by kernel_rfl, by kernel_rfl, by kernel_rfl, by kernel_rfl⟩, List.all_eq_true.1 (by kernel_rfl), fun _ => ⟨by kernel_rfl, by kernel_rfl, by kernel_rfl⟩⟩
theorem ok40 : RowOk 40 d40 := ⟨by kernel_rfl, ⟨Go.Proofs.Tryz.t40, by kernel_rfl, by kernel_rfl, by kernel_rfl, by kernel_rfl⟩, List.all_eq_true.1 (by kernel_rfl), fun _ => ⟨by kernel_rfl, by kernel_rfl, by kernel_rfl⟩⟩
theorem ok42 : RowOk 42 d42 := ⟨by kernel_rfl, ⟨Go.Proofs.Tryz.t42, by kernel_rfl, by kernel_rfl, by kernel_rfl, by kernel_rfl⟩, List.all_eq_true.1 (by kernel_rfl), fun _ => ⟨by kernel_rfl, by kernel_rfl, by kernel_rfl⟩⟩
theorem ok44 : RowOk 44 d44 := ⟨by kernel_rfl, ⟨Go.Proofs.Tryz.t44, by kernel_rfl, by kernel_rfl, by kernel_rfl, by kernel_rfl⟩, List.all_eq_true.1 (by kernel_rfl), fun _ => ⟨by kernel_rfl, by kernel_rfl, by kernel_rfl⟩⟩
theorem ok46 : RowOk 46 d46 := ⟨by kernel_rfl, ⟨Go.Proofs.Tryz.t46, by kernel_rfl, by kernel_rfl, by kernel_rfl, by kernel_rfl⟩, List.all_eq_true.1 (by kernel_rfl), fun _ => ⟨by kernel_rfl, by kernel_rfl, by kernel_rfl⟩⟩
theorem ok48 : RowOk 48 d48 := ⟨by kernel_rfl, ⟨Go.Proofs.Tryz.t48, by kernel_rfl, by kernel_rfl, by kernel_rfl, by kernel_rfl⟩, List.all_eq_true.1 (by kernel_rfl), fun _ => ⟨by kernel_rfl, by kernel_rfl, by kernel_rfl⟩⟩
theorem ok51 : RowOk 51 d51 := ⟨by kernel_rfl, ⟨Go.Proofs.Tryz.t51, by kernel_rfl, by kernel_rfl, by kernel_rfl, by kernel_rfl⟩, List.all_eq_true.1 (by kernel_rfl), fun h => by cases h⟩
theorem ok56 : RowOk 56 d56 := ⟨by kernel_rfl, ⟨Go.Proofs.Tryz.t56, by kernel_rfl, by kernel_rfl, by kernel_rfl, by kernel_rfl⟩, List.all_eq_true.1 (by kernel_rfl), fun h => by cases h⟩
theorem ok63 : RowOk 63 d63 := ⟨by kernel_rfl, ⟨Go.Proofs.Tryz.t63, by kernel_rfl, by kernel_rfl, by kernel_rfl, by kernel_rfl⟩, List.all_eq_true.1 (by kernel_rfl), fun h => by cases h⟩
theorem ok65 : RowOk 65 d65 := ⟨by kernel_rfl, ⟨Go.Proofs.Tryz.t65, by kernel_rfl, by kernel_rfl, by kernel_rfl, by kernel_rfl⟩, List.all_eq_true.1 (by kernel_rfl), fun h => by cases h⟩
theorem ok67 : RowOk 67 d67 := ⟨by kernel_rfl, ⟨Go.Proofs.Tryz.t67, by kernel_rfl, by kernel_rfl, by kernel_rfl, by kernel_rfl⟩, List.all_eq_true.1 (by kernel_rfl), fun h => by cases h⟩
theorem ok69 : RowOk 69 d69 := ⟨by kernel_rfl, ⟨Go.Proofs.Tryz.t69, by kernel_rfl, by kernel_rfl, by kernel_rfl, by kernel_rfl⟩, List.all_eq_true.1 (by kernel_rfl), fun h => by cases h⟩
theorem ok71 : RowOk 71 d71 := ⟨by kernel_rfl, ⟨Go.Proofs.Tryz.t71, by kernel_rfl, by kernel_rfl, by kernel_rfl, by kernel_rfl⟩, List.all_eq_true.1 (by kernel_rfl), fun h => by cases h⟩
theorem ok79 : RowOk 79 d79 := ⟨by kernel_rfl, ⟨Go.Proofs.Tryz.t79, by kernel_rfl, by kernel_rfl, by kernel_rfl, by kernel_rfl⟩, List.all_eq_true.1 (by kernel_rfl), fun h => by cases h⟩
theorem ok80 : RowOk 80 d80 := ⟨by kernel_rfl, ⟨Go.Proofs.Tryz.t80, by kernel_rfl, by kernel_rfl, by kernel_rfl, by kernel_rfl⟩, List.all_eq_true.1 (by kernel_rfl), fun h => by cases h⟩
theorem ok81 : RowOk 81 d81 := ⟨by kernel_rfl, ⟨Go.Proofs.Tryz.t81, by kernel_rfl, by kernel_rfl, by kernel_rfl, by kernel_rfl⟩, List.all_eq_true.1 (by kernel_rfl), fun h => by cases h⟩
theorem ok83 : RowOk 83 d83 := ⟨by kernel_rfl, ⟨Go.Proofs.Tryz.t83, by kernel_rfl, by kernel_rfl, by kernel_rfl, by kernel_rfl⟩, List.all_eq_true.1 (by kernel_rfl), fun _ => ⟨by kernel_rfl, by kernel_rfl, by kernel_rfl⟩⟩
theorem ok102 : RowOk 102 d102 := ⟨by kernel_rfl, ⟨Go.Proofs.Tryz.t102, by kernel_rfl, by kernel_rfl, by kernel_rfl, by kernel_rfl⟩, List.all_eq_true.1 (by kernel_rfl), fun h => by cases h⟩
theorem ok105 : RowOk 105 d105 := ⟨by kernel_rfl, ⟨Go.Proofs.Tryz.t105, by kernel_rfl, by kernel_rfl, by kernel_rfl, by kernel_rfl⟩, List.all_eq_true.1 (by kernel_rfl), fun h => by cases h⟩
theorem ok143 : RowOk 143 d143 := ⟨by kernel_rfl, ⟨Go.Proofs.Tryz.t143, by kernel_rfl, by kernel_rfl, by kernel_rfl, by kernel_rfl⟩, List.all_eq_true.1 (by kernel_rfl), fun h => by cases h⟩
theorem ok145 : RowOk 145 d145 := ⟨by kernel_rfl, ⟨Go.Proofs.Tryz.t145, by kernel_rfl, by kernel_rfl, by kernel_rfl, by kernel_rfl⟩, List.all_eq_true.1 (by kernel_rfl), fun h => by cases h⟩
theorem tok : TOk Go.Proofs.Tryz.prog T := by
  intro t d h
  unfold T at h
  split at h
  · injection h with h; subst h; exact ok2
  · injection h with h; subst h; exact ok3
  · injection h with h; subst h; exact ok4
  · injection h with h; subst h; exact ok5
  · injection h with h; subst h; exact ok9
  · injection h with h; subst h; exact ok22
  · injection h with h; subst h; exact ok24
  · injection h with h; subst h; exact ok26
  · injection h with h; subst h; exact ok27
  · injection h with h; subst h; exact ok36
  · injection h with h; subst h; exact ok38
  · injection h with h; subst h; exact ok40
  · injection h with h; subst h; exact ok42
  · injection h with h; subst h; exact ok44
  · injection h with h; subst h; exact ok46
  · injection h with h; subst h; exact ok48
  · injection h with h; subst h; exact ok51
  · injection h with h; subst h; exact ok56
  · injection h with h; subst h; exact ok63
  · injection h with h; subst h; exact ok65
  · injection h with h; subst h; exact ok67
  · injection h with h; subst h; exact ok69
  · injection h with h; subst h; exact ok71
  · injection h with h; subst h; exact ok79
  · injection h with h; subst h; exact ok80
  · injection h with h; subst h; exact ok81
  · injection h with h; subst h; exact ok83
  · injection h with h; subst h; exact ok102
  · injection h with h; subst h; exact ok105
  · injection h with h; subst h; exact ok143
  · injection h with h; subst h; exact ok145
  · cases h
end
end Go.Proofs.YtfoefnkbiofejaaGreat.AM
