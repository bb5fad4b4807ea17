/-
  THE TABLE OF TYPES of the seat. No condition.
-/
import Derived.Test.YtohgghncmkiicaaGreatAmE
import Derived.Test.YtohgghncmkiicaaGreatProg
import Derived.KernelRfl
namespace Go.Proofs.YtohgghncmkiicaaGreat.AM
noncomputable section
open Go Go.Proofs Go.RowKit
set_option linter.unusedVariables false
set_option linter.unusedSimpArgs false
set_option maxRecDepth 100000

def d2 : TD := ⟨Go.Proofs.Tryz.t2.desc, Go.Proofs.Tryz.t2.size, Go.Proofs.Tryz.t2.bytes, match Go.Proofs.Tryz.t2.zero with | some z => z | none => .bool false, false⟩
def d3 : TD := ⟨Go.Proofs.Tryz.t3.desc, Go.Proofs.Tryz.t3.size, Go.Proofs.Tryz.t3.bytes, match Go.Proofs.Tryz.t3.zero with | some z => z | none => .bool false, false⟩
def d4 : TD := ⟨Go.Proofs.Tryz.t4.desc, Go.Proofs.Tryz.t4.size, Go.Proofs.Tryz.t4.bytes, match Go.Proofs.Tryz.t4.zero with | some z => z | none => .bool false, false⟩
def d5 : TD := ⟨Go.Proofs.Tryz.t5.desc, Go.Proofs.Tryz.t5.size, Go.Proofs.Tryz.t5.bytes, match Go.Proofs.Tryz.t5.zero with | some z => z | none => .bool false, false⟩
def d9 : TD := ⟨Go.Proofs.Tryz.t9.desc, Go.Proofs.Tryz.t9.size, Go.Proofs.Tryz.t9.bytes, match Go.Proofs.Tryz.t9.zero with | some z => z | none => .bool false, false⟩
def d22 : TD := ⟨Go.Proofs.Tryz.t22.desc, Go.Proofs.Tryz.t22.size, Go.Proofs.Tryz.t22.bytes, match Go.Proofs.Tryz.t22.zero with | some z => z | none => .bool false, false⟩
def d24 : TD := ⟨Go.Proofs.Tryz.t23.desc, Go.Proofs.Tryz.t24.size, Go.Proofs.Tryz.t24.bytes, match Go.Proofs.Tryz.t24.zero with | some z => z | none => .bool false, true⟩
def d26 : TD := ⟨Go.Proofs.Tryz.t25.desc, Go.Proofs.Tryz.t26.size, Go.Proofs.Tryz.t26.bytes, match Go.Proofs.Tryz.t26.zero with | some z => z | none => .bool false, true⟩
def d28 : TD := ⟨Go.Proofs.Tryz.t27.desc, Go.Proofs.Tryz.t28.size, Go.Proofs.Tryz.t28.bytes, match Go.Proofs.Tryz.t28.zero with | some z => z | none => .bool false, true⟩
def d30 : TD := ⟨Go.Proofs.Tryz.t29.desc, Go.Proofs.Tryz.t30.size, Go.Proofs.Tryz.t30.bytes, match Go.Proofs.Tryz.t30.zero with | some z => z | none => .bool false, true⟩
def d32 : TD := ⟨Go.Proofs.Tryz.t31.desc, Go.Proofs.Tryz.t32.size, Go.Proofs.Tryz.t32.bytes, match Go.Proofs.Tryz.t32.zero with | some z => z | none => .bool false, true⟩
def d34 : TD := ⟨Go.Proofs.Tryz.t33.desc, Go.Proofs.Tryz.t34.size, Go.Proofs.Tryz.t34.bytes, match Go.Proofs.Tryz.t34.zero with | some z => z | none => .bool false, true⟩
def d36 : TD := ⟨Go.Proofs.Tryz.t35.desc, Go.Proofs.Tryz.t36.size, Go.Proofs.Tryz.t36.bytes, match Go.Proofs.Tryz.t36.zero with | some z => z | none => .bool false, true⟩
def d38 : TD := ⟨Go.Proofs.Tryz.t37.desc, Go.Proofs.Tryz.t38.size, Go.Proofs.Tryz.t38.bytes, match Go.Proofs.Tryz.t38.zero with | some z => z | none => .bool false, true⟩
def d41 : TD := ⟨Go.Proofs.Tryz.t41.desc, Go.Proofs.Tryz.t41.size, Go.Proofs.Tryz.t41.bytes, match Go.Proofs.Tryz.t41.zero with | some z => z | none => .bool false, false⟩
def d43 : TD := ⟨Go.Proofs.Tryz.t42.desc, Go.Proofs.Tryz.t43.size, Go.Proofs.Tryz.t43.bytes, match Go.Proofs.Tryz.t43.zero with | some z => z | none => .bool false, true⟩
def d47 : TD := ⟨Go.Proofs.Tryz.t25.desc, Go.Proofs.Tryz.t47.size, Go.Proofs.Tryz.t47.bytes, match Go.Proofs.Tryz.t47.zero with | some z => z | none => .bool false, true⟩
def d49 : TD := ⟨Go.Proofs.Tryz.t48.desc, Go.Proofs.Tryz.t49.size, Go.Proofs.Tryz.t49.bytes, match Go.Proofs.Tryz.t49.zero with | some z => z | none => .bool false, true⟩
def d50 : TD := ⟨Go.Proofs.Tryz.t29.desc, Go.Proofs.Tryz.t50.size, Go.Proofs.Tryz.t50.bytes, match Go.Proofs.Tryz.t50.zero with | some z => z | none => .bool false, true⟩
def d52 : TD := ⟨Go.Proofs.Tryz.t51.desc, Go.Proofs.Tryz.t52.size, Go.Proofs.Tryz.t52.bytes, match Go.Proofs.Tryz.t52.zero with | some z => z | none => .bool false, true⟩
def d53 : TD := ⟨Go.Proofs.Tryz.t33.desc, Go.Proofs.Tryz.t53.size, Go.Proofs.Tryz.t53.bytes, match Go.Proofs.Tryz.t53.zero with | some z => z | none => .bool false, true⟩
def d55 : TD := ⟨Go.Proofs.Tryz.t54.desc, Go.Proofs.Tryz.t55.size, Go.Proofs.Tryz.t55.bytes, match Go.Proofs.Tryz.t55.zero with | some z => z | none => .bool false, true⟩
def d57 : TD := ⟨Go.Proofs.Tryz.t56.desc, Go.Proofs.Tryz.t57.size, Go.Proofs.Tryz.t57.bytes, match Go.Proofs.Tryz.t57.zero with | some z => z | none => .bool false, true⟩
def d62 : TD := ⟨Go.Proofs.Tryz.t62.desc, Go.Proofs.Tryz.t62.size, Go.Proofs.Tryz.t62.bytes, match Go.Proofs.Tryz.t62.zero with | some z => z | none => .bool false, false⟩
def d66 : TD := ⟨Go.Proofs.Tryz.t66.desc, Go.Proofs.Tryz.t66.size, Go.Proofs.Tryz.t66.bytes, match Go.Proofs.Tryz.t66.zero with | some z => z | none => .bool false, false⟩
def d71 : TD := ⟨Go.Proofs.Tryz.t71.desc, Go.Proofs.Tryz.t71.size, Go.Proofs.Tryz.t71.bytes, match Go.Proofs.Tryz.t71.zero with | some z => z | none => .bool false, false⟩
def d73 : TD := ⟨Go.Proofs.Tryz.t72.desc, Go.Proofs.Tryz.t73.size, Go.Proofs.Tryz.t73.bytes, match Go.Proofs.Tryz.t73.zero with | some z => z | none => .bool false, true⟩
def d75 : TD := ⟨Go.Proofs.Tryz.t75.desc, Go.Proofs.Tryz.t75.size, Go.Proofs.Tryz.t75.bytes, match Go.Proofs.Tryz.t75.zero with | some z => z | none => .bool false, false⟩
def d77 : TD := ⟨Go.Proofs.Tryz.t76.desc, Go.Proofs.Tryz.t77.size, Go.Proofs.Tryz.t77.bytes, match Go.Proofs.Tryz.t77.zero with | some z => z | none => .bool false, true⟩
def d88 : TD := ⟨Go.Proofs.Tryz.t88.desc, Go.Proofs.Tryz.t88.size, Go.Proofs.Tryz.t88.bytes, match Go.Proofs.Tryz.t88.zero with | some z => z | none => .bool false, false⟩
def d104 : TD := ⟨Go.Proofs.Tryz.t104.desc, Go.Proofs.Tryz.t104.size, Go.Proofs.Tryz.t104.bytes, match Go.Proofs.Tryz.t104.zero with | some z => z | none => .bool false, false⟩
def d145 : TD := ⟨Go.Proofs.Tryz.t145.desc, Go.Proofs.Tryz.t145.size, Go.Proofs.Tryz.t145.bytes, match Go.Proofs.Tryz.t145.zero with | some z => z | none => .bool false, false⟩
def d146 : TD := ⟨Go.Proofs.Tryz.t146.desc, Go.Proofs.Tryz.t146.size, Go.Proofs.Tryz.t146.bytes, match Go.Proofs.Tryz.t146.zero with | some z => z | none => .bool false, false⟩
def d147 : TD := ⟨Go.Proofs.Tryz.t147.desc, Go.Proofs.Tryz.t147.size, Go.Proofs.Tryz.t147.bytes, match Go.Proofs.Tryz.t147.zero with | some z => z | none => .bool false, false⟩
def d149 : TD := ⟨Go.Proofs.Tryz.t148.desc, Go.Proofs.Tryz.t149.size, Go.Proofs.Tryz.t149.bytes, match Go.Proofs.Tryz.t149.zero with | some z => z | none => .bool false, true⟩
def d163 : TD := ⟨Go.Proofs.Tryz.t163.desc, Go.Proofs.Tryz.t163.size, Go.Proofs.Tryz.t163.bytes, match Go.Proofs.Tryz.t163.zero with | some z => z | none => .bool false, false⟩
def d164 : TD := ⟨Go.Proofs.Tryz.t164.desc, Go.Proofs.Tryz.t164.size, Go.Proofs.Tryz.t164.bytes, match Go.Proofs.Tryz.t164.zero with | some z => z | none => .bool false, false⟩
def d165 : TD := ⟨Go.Proofs.Tryz.t165.desc, Go.Proofs.Tryz.t165.size, Go.Proofs.Tryz.t165.bytes, match Go.Proofs.Tryz.t165.zero with | some z => z | none => .bool false, false⟩
def d167 : TD := ⟨Go.Proofs.Tryz.t166.desc, Go.Proofs.Tryz.t167.size, Go.Proofs.Tryz.t167.bytes, match Go.Proofs.Tryz.t167.zero with | some z => z | none => .bool false, true⟩
def T (t : Nat) : Option TD := match t with
  | 2 => some d2
  | 3 => some d3
  | 4 => some d4
  | 5 => some d5
  | 9 => some d9
  | 22 => some d22
  | 24 => some d24
  | 26 => some d26
  | 28 => some d28
  | 30 => some d30
  | 32 => some d32
  | 34 => some d34
  | 36 => some d36
  | 38 => some d38
  | 41 => some d41
  | 43 => some d43
  | 47 => some d47
  | 49 => some d49
  | 50 => some d50
  | 52 => some d52
  | 53 => some d53
  | 55 => some d55
  | 57 => some d57
  | 62 => some d62
  | 66 => some d66
  | 71 => some d71
  | 73 => some d73
  | 75 => some d75
  | 77 => some d77
  | 88 => some d88
  | 104 => some d104
  | 145 => some d145
  | 146 => some d146
  | 147 => some d147
  | 149 => some d149
  | 163 => some d163
  | 164 => some d164
  | 165 => some d165
  | 167 => some d167
  | _ => none
def RowOk (t : Nat) (d : TD) : Prop := Go.Proofs.Tryz.prog.underlying t = some d.und /\ (∃ i, Go.Proofs.Tryz.prog.info? t = some i /\ i.size = d.size /\ i.bytes = d.bytes /\ i.zero = some d.zero) /\ (∀ x ∈ d.zero.cells.toList, x.oneCell' = true) /\ (d.eqs = true -> Go.Proofs.Tryz.prog.stoodInHeld t = false /\ Go.Proofs.Tryz.prog.eqGuardType Go.Proofs.Tryz.prog.depth t = false /\ (fieldsOf d.und).all (fun f => f.name != "_") = true)
theorem ok2 : RowOk 2 d2 := ⟨by kernel_rfl, ⟨Go.Proofs.Tryz.t2, by kernel_rfl, by kernel_rfl, by kernel_rfl, by kernel_rfl⟩, List.all_eq_true.1 (by kernel_rfl), fun h => by cases h⟩
theorem ok3 : RowOk 3 d3 := ⟨by kernel_rfl, ⟨Go.Proofs.Tryz.t3, by kernel_rfl, by kernel_rfl, by kernel_rfl, by kernel_rfl⟩, List.all_eq_true.1 (by kernel_rfl), fun h => by cases h⟩
theorem ok4 : RowOk 4 d4 := ⟨by kernel_rfl, ⟨Go.Proofs.Tryz.t4, by kernel_rfl, by kernel_rfl, by kernel_rfl, by kernel_rfl⟩, List.all_eq_true.1 (by kernel_rfl), fun h => by cases h⟩
theorem ok5 : RowOk 5 d5 := ⟨by kernel_rfl, ⟨Go.Proofs.Tryz.t5, by kernel_rfl, by kernel_rfl, by kernel_rfl, by kernel_rfl⟩, List.all_eq_true.1 (by kernel_rfl), fun h => by cases h⟩
theorem ok9 : RowOk 9 d9 := ⟨by kernel_rfl, ⟨Go.Proofs.Tryz.t9, by kernel_rfl, by kernel_rfl, by kernel_rfl, by kernel_rfl⟩, List.all_eq_true.1 (by kernel_rfl), fun h => by cases h⟩
theorem ok22 : RowOk 22 d22 := ⟨by kernel_rfl, ⟨Go.Proofs.Tryz.t22, by kernel_rfl, by kernel_rfl, by kernel_rfl, by kernel_rfl⟩, List.all_eq_true.1 (by kernel_rfl), fun h => by cases h⟩
theorem ok24 : RowOk 24 d24 := ⟨by kernel_rfl, ⟨Go.Proofs.Tryz.t24, by kernel_rfl, by kernel_rfl, by kernel_rfl, by kernel_rfl⟩, List.all_eq_true.1 (by kernel_rfl), fun _ => ⟨by kernel_rfl, by kernel_rfl, by kernel_rfl⟩⟩
theorem ok26 : RowOk 26 d26 := ⟨by kernel_rfl, ⟨Go.Proofs.Tryz.t26, by kernel_rfl, by kernel_rfl, by kernel_rfl, by kernel_rfl⟩, List.all_eq_true.1 (by kernel_rfl), fun _ => ⟨by kernel_rfl, by kernel_rfl, by kernel_rfl⟩⟩
theorem ok28 : RowOk 28 d28 := ⟨by kernel_rfl, ⟨Go.Proofs.Tryz.t28, by kernel_rfl, by kernel_rfl, by kernel_rfl, by kernel_rfl⟩, List.all_eq_true.1 (by kernel_rfl), fun _ => ⟨by kernel_rfl, by kernel_rfl, by kernel_rfl⟩⟩
theorem ok30 : RowOk 30 d30 := ⟨by kernel_rfl, ⟨Go.Proofs.Tryz.t30, by kernel_rfl, by kernel_rfl, by kernel_rfl, by kernel_rfl⟩, List.all_eq_true.1 (by kernel_rfl), fun _ => ⟨by kernel_rfl, by kernel_rfl, by kernel_rfl⟩⟩
theorem ok32 : RowOk 32 d32 := ⟨by kernel_rfl, ⟨Go.Proofs.Tryz.t32, by kernel_rfl, by kernel_rfl, by kernel_rfl, by kernel_rfl⟩, List.all_eq_true.1 (by kernel_rfl), fun _ => ⟨by kernel_rfl, by kernel_rfl, by kernel_rfl⟩⟩
theorem ok34 : RowOk 34 d34 := ⟨by kernel_rfl, ⟨Go.Proofs.Tryz.t34, by kernel_rfl, by kernel_rfl, by kernel_rfl, by kernel_rfl⟩, List.all_eq_true.1 (by kernel_rfl), fun _ => ⟨by kernel_rfl, by kernel_rfl, by kernel_rfl⟩⟩
theorem ok36 : RowOk 36 d36 := ⟨by kernel_rfl, ⟨Go.Proofs.Tryz.t36, by kernel_rfl, by kernel_rfl, by kernel_rfl, by kernel_rfl⟩, List.all_eq_true.1 (by kernel_rfl), fun _ => ⟨by kernel_rfl, by kernel_rfl, by kernel_rfl⟩⟩
theorem ok38 : RowOk 38 d38 := ⟨by kernel_rfl, ⟨Go.Proofs.Tryz.t38, by kernel_rfl, by kernel_rfl, by kernel_rfl, by kernel_rfl⟩, List.all_eq_true.1 (by kernel_rfl), fun _ => ⟨by kernel_rfl, by kernel_rfl, by kernel_rfl⟩⟩
theorem ok41 : RowOk 41 d41 := ⟨by kernel_rfl, ⟨Go.Proofs.Tryz.t41, by kernel_rfl, by kernel_rfl, by kernel_rfl, by kernel_rfl⟩, List.all_eq_true.1 (by kernel_rfl), fun h => by cases h⟩
theorem ok43 : RowOk 43 d43 := ⟨by kernel_rfl, ⟨Go.Proofs.Tryz.t43, by kernel_rfl, by kernel_rfl, by kernel_rfl, by kernel_rfl⟩, List.all_eq_true.1 (by kernel_rfl), fun _ => ⟨by kernel_rfl, by kernel_rfl, by kernel_rfl⟩⟩
theorem ok47 : RowOk 47 d47 := ⟨by kernel_rfl, ⟨Go.Proofs.Tryz.t47, by kernel_rfl, by kernel_rfl, by kernel_rfl, by kernel_rfl⟩, List.all_eq_true.1 (by kernel_rfl), fun _ => ⟨by kernel_rfl, by kernel_rfl, by kernel_rfl⟩⟩
theorem ok49 : RowOk 49 d49 := ⟨by kernel_rfl, ⟨Go.Proofs.Tryz.t49, by kernel_rfl, by kernel_rfl, by kernel_rfl, by kernel_rfl⟩, List.all_eq_true.1 (by kernel_rfl), fun _ => ⟨by kernel_rfl, by kernel_rfl, by kernel_rfl⟩⟩
theorem ok50 : RowOk 50 d50 := ⟨by kernel_rfl, ⟨Go.Proofs.Tryz.t50, by kernel_rfl, by kernel_rfl, by kernel_rfl, by kernel_rfl⟩, List.all_eq_true.1 (by kernel_rfl), fun _ => ⟨by kernel_rfl, by kernel_rfl, by kernel_rfl⟩⟩
theorem ok52 : RowOk 52 d52 := ⟨by kernel_rfl, ⟨Go.Proofs.Tryz.t52, by kernel_rfl, by kernel_rfl, by kernel_rfl, by kernel_rfl⟩, List.all_eq_true.1 (by kernel_rfl), fun _ => ⟨by kernel_rfl, by kernel_rfl, by kernel_rfl⟩⟩
theorem ok53 : RowOk 53 d53 := ⟨by kernel_rfl, ⟨Go.Proofs.Tryz.t53, by kernel_rfl, by kernel_rfl, by kernel_rfl, by kernel_rfl⟩, List.all_eq_true.1 (by kernel_rfl), fun _ => ⟨by kernel_rfl, by kernel_rfl, by kernel_rfl⟩⟩
theorem ok55 : RowOk 55 d55 := ⟨by kernel_rfl, ⟨Go.Proofs.Tryz.t55, by kernel_rfl, by kernel_rfl, by kernel_rfl, by kernel_rfl⟩, List.all_eq_true.1 (by kernel_rfl), fun _ => ⟨by kernel_rfl, by kernel_rfl, by kernel_rfl⟩⟩
theorem ok57 : RowOk 57 d57 := ⟨by kernel_rfl, ⟨Go.Proofs.Tryz.t57, by kernel_rfl, by kernel_rfl, by kernel_rfl, by kernel_rfl⟩, List.all_eq_true.1 (by kernel_rfl), fun _ => ⟨by kernel_rfl, by kernel_rfl, by kernel_rfl⟩⟩
theorem ok62 : RowOk 62 d62 := ⟨by kernel_rfl, ⟨Go.Proofs.Tryz.t62, by kernel_rfl, by kernel_rfl, by kernel_rfl, by kernel_rfl⟩, List.all_eq_true.1 (by kernel_rfl), fun h => by cases h⟩
theorem ok66 : RowOk 66 d66 := ⟨by kernel_rfl, ⟨Go.Proofs.Tryz.t66, by kernel_rfl, by kernel_rfl, by kernel_rfl, by kernel_rfl⟩, List.all_eq_true.1 (by kernel_rfl), fun h => by cases h⟩
theorem ok71 : RowOk 71 d71 := ⟨by kernel_rfl, ⟨Go.Proofs.Tryz.t71, by kernel_rfl, by kernel_rfl, by kernel_rfl, by kernel_rfl⟩, List.all_eq_true.1 (by kernel_rfl), fun h => by cases h⟩
theorem ok73 : RowOk 73 d73 := ⟨by kernel_rfl, ⟨Go.Proofs.Tryz.t73, by kernel_rfl, by kernel_rfl, by kernel_rfl, by kernel_rfl⟩, List.all_eq_true.1 (by kernel_rfl), fun _ => ⟨by kernel_rfl, by kernel_rfl, by kernel_rfl⟩⟩
theorem ok75 : RowOk 75 d75 := ⟨by kernel_rfl, ⟨Go.Proofs.Tryz.t75, by kernel_rfl, by kernel_rfl, by kernel_rfl, by kernel_rfl⟩, List.all_eq_true.1 (by kernel_rfl), fun h => by cases h⟩
theorem ok77 : RowOk 77 d77 := ⟨by kernel_rfl, ⟨Go.Proofs.Tryz.t77, by kernel_rfl, by kernel_rfl, by kernel_rfl, by kernel_rfl⟩, List.all_eq_true.1 (by kernel_rfl), fun _ => ⟨by kernel_rfl, by kernel_rfl, by kernel_rfl⟩⟩
theorem ok88 : RowOk 88 d88 := ⟨by kernel_rfl, ⟨Go.Proofs.Tryz.t88, by kernel_rfl, by kernel_rfl, by kernel_rfl, by kernel_rfl⟩, List.all_eq_true.1 (by kernel_rfl), fun h => by cases h⟩
theorem ok104 : RowOk 104 d104 := ⟨by kernel_rfl, ⟨Go.Proofs.Tryz.t104, by kernel_rfl, by kernel_rfl, by kernel_rfl, by kernel_rfl⟩, List.all_eq_true.1 (by kernel_rfl), fun h => by cases h⟩
theorem ok145 : RowOk 145 d145 := ⟨by kernel_rfl, ⟨Go.Proofs.Tryz.t145, by kernel_rfl, by kernel_rfl, by kernel_rfl, by kernel_rfl⟩, List.all_eq_true.1 (by kernel_rfl), fun h => by cases h⟩
theorem ok146 : RowOk 146 d146 := ⟨by kernel_rfl, ⟨Go.Proofs.Tryz.t146, by kernel_rfl, by kernel_rfl, by kernel_rfl, by kernel_rfl⟩, List.all_eq_true.1 (by kernel_rfl), fun h => by cases h⟩
theorem ok147 : RowOk 147 d147 := ⟨by kernel_rfl, ⟨Go.Proofs.Tryz.t147, by kernel_rfl, by kernel_rfl, by kernel_rfl, by kernel_rfl⟩, List.all_eq_true.1 (by kernel_rfl), fun h => by cases h⟩
theorem ok149 : RowOk 149 d149 := ⟨by kernel_rfl, ⟨Go.Proofs.Tryz.t149, by kernel_rfl, by kernel_rfl, by kernel_rfl, by kernel_rfl⟩, List.all_eq_true.1 (by kernel_rfl), fun _ => ⟨by kernel_rfl, by kernel_rfl, by kernel_rfl⟩⟩
theorem ok163 : RowOk 163 d163 := ⟨by kernel_rfl, ⟨Go.Proofs.Tryz.t163, by kernel_rfl, by kernel_rfl, by kernel_rfl, by kernel_rfl⟩, List.all_eq_true.1 (by kernel_rfl), fun h => by cases h⟩
theorem ok164 : RowOk 164 d164 := ⟨by kernel_rfl, ⟨Go.Proofs.Tryz.t164, by kernel_rfl, by kernel_rfl, by kernel_rfl, by kernel_rfl⟩, List.all_eq_true.1 (by kernel_rfl), fun h => by cases h⟩
theorem ok165 : RowOk 165 d165 := ⟨by kernel_rfl, ⟨Go.Proofs.Tryz.t165, by kernel_rfl, by kernel_rfl, by kernel_rfl, by kernel_rfl⟩, List.all_eq_true.1 (by kernel_rfl), fun h => by cases h⟩
theorem ok167 : RowOk 167 d167 := ⟨by kernel_rfl, ⟨Go.Proofs.Tryz.t167, by kernel_rfl, by kernel_rfl, by kernel_rfl, by kernel_rfl⟩, List.all_eq_true.1 (by kernel_rfl), fun _ => ⟨by kernel_rfl, by kernel_rfl, by kernel_rfl⟩⟩
theorem tok : TOk Go.Proofs.Tryz.prog T := by
  intro t d h
  unfold T at h
  split at h
  · injection h with h; subst h; exact ok2
  · injection h with h; subst h; exact ok3
  · injection h with h; subst h; exact ok4
  · injection h with h; subst h; exact ok5
  · injection h with h; subst h; exact ok9
  · injection h with h; subst h; exact ok22
  · injection h with h; subst h; exact ok24
  · injection h with h; subst h; exact ok26
  · injection h with h; subst h; exact ok28
  · injection h with h; subst h; exact ok30
  · injection h with h; subst h; exact ok32
  · injection h with h; subst h; exact ok34
  · injection h with h; subst h; exact ok36
  · injection h with h; subst h; exact ok38
  · injection h with h; subst h; exact ok41
  · injection h with h; subst h; exact ok43
  · injection h with h; subst h; exact ok47
  · injection h with h; subst h; exact ok49
  · injection h with h; subst h; exact ok50
  · injection h with h; subst h; exact ok52
  · injection h with h; subst h; exact ok53
  · injection h with h; subst h; exact ok55
  · injection h with h; subst h; exact ok57
  · injection h with h; subst h; exact ok62
  · injection h with h; subst h; exact ok66
  · injection h with h; subst h; exact ok71
  · injection h with h; subst h; exact ok73
  · injection h with h; subst h; exact ok75
  · injection h with h; subst h; exact ok77
  · injection h with h; subst h; exact ok88
  · injection h with h; subst h; exact ok104
  · injection h with h; subst h; exact ok145
  · injection h with h; subst h; exact ok146
  · injection h with h; subst h; exact ok147
  · injection h with h; subst h; exact ok149
  · injection h with h; subst h; exact ok163
  · injection h with h; subst h; exact ok164
  · injection h with h; subst h; exact ok165
  · injection h with h; subst h; exact ok167
  · cases h
end
end Go.Proofs.YtohgghncmkiicaaGreat.AM
