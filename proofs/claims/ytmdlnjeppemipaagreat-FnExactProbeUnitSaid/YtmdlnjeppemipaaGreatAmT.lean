/-
  THE TABLE OF TYPES of the seat. No condition.
-/
import Derived.Test.YtmdlnjeppemipaaGreatAmE
import Derived.Test.YtmdlnjeppemipaaGreatProg
import Derived.KernelRfl
namespace Go.Proofs.YtmdlnjeppemipaaGreat.AM
open Go Go.Proofs Go.RowKit
set_option linter.unusedVariables false
set_option linter.unusedSimpArgs false
set_option maxRecDepth 100000

noncomputable def d2 : TD := ⟨Go.Proofs.Tryz.t2.desc, Go.Proofs.Tryz.t2.size, Go.Proofs.Tryz.t2.bytes, match Go.Proofs.Tryz.t2.zero with | some z => z | none => .bool false, false⟩
noncomputable def d3 : TD := ⟨Go.Proofs.Tryz.t3.desc, Go.Proofs.Tryz.t3.size, Go.Proofs.Tryz.t3.bytes, match Go.Proofs.Tryz.t3.zero with | some z => z | none => .bool false, false⟩
noncomputable def d4 : TD := ⟨Go.Proofs.Tryz.t4.desc, Go.Proofs.Tryz.t4.size, Go.Proofs.Tryz.t4.bytes, match Go.Proofs.Tryz.t4.zero with | some z => z | none => .bool false, false⟩
noncomputable def d5 : TD := ⟨Go.Proofs.Tryz.t5.desc, Go.Proofs.Tryz.t5.size, Go.Proofs.Tryz.t5.bytes, match Go.Proofs.Tryz.t5.zero with | some z => z | none => .bool false, false⟩
noncomputable def d7 : TD := ⟨Go.Proofs.Tryz.t7.desc, Go.Proofs.Tryz.t7.size, Go.Proofs.Tryz.t7.bytes, match Go.Proofs.Tryz.t7.zero with | some z => z | none => .bool false, false⟩
noncomputable def d9 : TD := ⟨Go.Proofs.Tryz.t9.desc, Go.Proofs.Tryz.t9.size, Go.Proofs.Tryz.t9.bytes, match Go.Proofs.Tryz.t9.zero with | some z => z | none => .bool false, false⟩
noncomputable def d12 : TD := ⟨Go.Proofs.Tryz.t12.desc, Go.Proofs.Tryz.t12.size, Go.Proofs.Tryz.t12.bytes, match Go.Proofs.Tryz.t12.zero with | some z => z | none => .bool false, false⟩
noncomputable def d13 : TD := ⟨Go.Proofs.Tryz.t13.desc, Go.Proofs.Tryz.t13.size, Go.Proofs.Tryz.t13.bytes, match Go.Proofs.Tryz.t13.zero with | some z => z | none => .bool false, false⟩
noncomputable def d15 : TD := ⟨Go.Proofs.Tryz.t15.desc, Go.Proofs.Tryz.t15.size, Go.Proofs.Tryz.t15.bytes, match Go.Proofs.Tryz.t15.zero with | some z => z | none => .bool false, false⟩
noncomputable def d16 : TD := ⟨Go.Proofs.Tryz.t16.desc, Go.Proofs.Tryz.t16.size, Go.Proofs.Tryz.t16.bytes, match Go.Proofs.Tryz.t16.zero with | some z => z | none => .bool false, false⟩
noncomputable def d17 : TD := ⟨Go.Proofs.Tryz.t17.desc, Go.Proofs.Tryz.t17.size, Go.Proofs.Tryz.t17.bytes, match Go.Proofs.Tryz.t17.zero with | some z => z | none => .bool false, false⟩
noncomputable def d18 : TD := ⟨Go.Proofs.Tryz.t18.desc, Go.Proofs.Tryz.t18.size, Go.Proofs.Tryz.t18.bytes, match Go.Proofs.Tryz.t18.zero with | some z => z | none => .bool false, false⟩
noncomputable def d21 : TD := ⟨Go.Proofs.Tryz.t21.desc, Go.Proofs.Tryz.t21.size, Go.Proofs.Tryz.t21.bytes, match Go.Proofs.Tryz.t21.zero with | some z => z | none => .bool false, false⟩
noncomputable def d22 : TD := ⟨Go.Proofs.Tryz.t22.desc, Go.Proofs.Tryz.t22.size, Go.Proofs.Tryz.t22.bytes, match Go.Proofs.Tryz.t22.zero with | some z => z | none => .bool false, false⟩
noncomputable def d23 : TD := ⟨Go.Proofs.Tryz.t23.desc, Go.Proofs.Tryz.t23.size, Go.Proofs.Tryz.t23.bytes, match Go.Proofs.Tryz.t23.zero with | some z => z | none => .bool false, true⟩
noncomputable def d24 : TD := ⟨Go.Proofs.Tryz.t23.desc, Go.Proofs.Tryz.t24.size, Go.Proofs.Tryz.t24.bytes, match Go.Proofs.Tryz.t24.zero with | some z => z | none => .bool false, true⟩
noncomputable def d25 : TD := ⟨Go.Proofs.Tryz.t25.desc, Go.Proofs.Tryz.t25.size, Go.Proofs.Tryz.t25.bytes, match Go.Proofs.Tryz.t25.zero with | some z => z | none => .bool false, true⟩
noncomputable def d26 : TD := ⟨Go.Proofs.Tryz.t25.desc, Go.Proofs.Tryz.t26.size, Go.Proofs.Tryz.t26.bytes, match Go.Proofs.Tryz.t26.zero with | some z => z | none => .bool false, true⟩
noncomputable def d28 : TD := ⟨Go.Proofs.Tryz.t28.desc, Go.Proofs.Tryz.t28.size, Go.Proofs.Tryz.t28.bytes, match Go.Proofs.Tryz.t28.zero with | some z => z | none => .bool false, false⟩
noncomputable def d31 : TD := ⟨Go.Proofs.Tryz.t31.desc, Go.Proofs.Tryz.t31.size, Go.Proofs.Tryz.t31.bytes, match Go.Proofs.Tryz.t31.zero with | some z => z | none => .bool false, false⟩
noncomputable def d32 : TD := ⟨Go.Proofs.Tryz.t32.desc, Go.Proofs.Tryz.t32.size, Go.Proofs.Tryz.t32.bytes, match Go.Proofs.Tryz.t32.zero with | some z => z | none => .bool false, true⟩
noncomputable def d33 : TD := ⟨Go.Proofs.Tryz.t32.desc, Go.Proofs.Tryz.t33.size, Go.Proofs.Tryz.t33.bytes, match Go.Proofs.Tryz.t33.zero with | some z => z | none => .bool false, true⟩
noncomputable def d35 : TD := ⟨Go.Proofs.Tryz.t25.desc, Go.Proofs.Tryz.t35.size, Go.Proofs.Tryz.t35.bytes, match Go.Proofs.Tryz.t35.zero with | some z => z | none => .bool false, true⟩
noncomputable def d42 : TD := ⟨Go.Proofs.Tryz.t42.desc, Go.Proofs.Tryz.t42.size, Go.Proofs.Tryz.t42.bytes, match Go.Proofs.Tryz.t42.zero with | some z => z | none => .bool false, false⟩
noncomputable def d48 : TD := ⟨Go.Proofs.Tryz.t48.desc, Go.Proofs.Tryz.t48.size, Go.Proofs.Tryz.t48.bytes, match Go.Proofs.Tryz.t48.zero with | some z => z | none => .bool false, true⟩
noncomputable def d49 : TD := ⟨Go.Proofs.Tryz.t48.desc, Go.Proofs.Tryz.t49.size, Go.Proofs.Tryz.t49.bytes, match Go.Proofs.Tryz.t49.zero with | some z => z | none => .bool false, true⟩
noncomputable def d51 : TD := ⟨Go.Proofs.Tryz.t48.desc, Go.Proofs.Tryz.t51.size, Go.Proofs.Tryz.t51.bytes, match Go.Proofs.Tryz.t51.zero with | some z => z | none => .bool false, true⟩
noncomputable def d59 : TD := ⟨Go.Proofs.Tryz.t59.desc, Go.Proofs.Tryz.t59.size, Go.Proofs.Tryz.t59.bytes, match Go.Proofs.Tryz.t59.zero with | some z => z | none => .bool false, false⟩
noncomputable def d61 : TD := ⟨Go.Proofs.Tryz.t61.desc, Go.Proofs.Tryz.t61.size, Go.Proofs.Tryz.t61.bytes, match Go.Proofs.Tryz.t61.zero with | some z => z | none => .bool false, false⟩
noncomputable def d62 : TD := ⟨Go.Proofs.Tryz.t62.desc, Go.Proofs.Tryz.t62.size, Go.Proofs.Tryz.t62.bytes, match Go.Proofs.Tryz.t62.zero with | some z => z | none => .bool false, false⟩
noncomputable def d63 : TD := ⟨Go.Proofs.Tryz.t63.desc, Go.Proofs.Tryz.t63.size, Go.Proofs.Tryz.t63.bytes, match Go.Proofs.Tryz.t63.zero with | some z => z | none => .bool false, true⟩
noncomputable def d64 : TD := ⟨Go.Proofs.Tryz.t63.desc, Go.Proofs.Tryz.t64.size, Go.Proofs.Tryz.t64.bytes, match Go.Proofs.Tryz.t64.zero with | some z => z | none => .bool false, true⟩
noncomputable def d65 : TD := ⟨Go.Proofs.Tryz.t65.desc, Go.Proofs.Tryz.t65.size, Go.Proofs.Tryz.t65.bytes, match Go.Proofs.Tryz.t65.zero with | some z => z | none => .bool false, true⟩
noncomputable def d66 : TD := ⟨Go.Proofs.Tryz.t65.desc, Go.Proofs.Tryz.t66.size, Go.Proofs.Tryz.t66.bytes, match Go.Proofs.Tryz.t66.zero with | some z => z | none => .bool false, true⟩
noncomputable def d67 : TD := ⟨Go.Proofs.Tryz.t67.desc, Go.Proofs.Tryz.t67.size, Go.Proofs.Tryz.t67.bytes, match Go.Proofs.Tryz.t67.zero with | some z => z | none => .bool false, false⟩
noncomputable def d68 : TD := ⟨Go.Proofs.Tryz.t68.desc, Go.Proofs.Tryz.t68.size, Go.Proofs.Tryz.t68.bytes, match Go.Proofs.Tryz.t68.zero with | some z => z | none => .bool false, true⟩
noncomputable def d69 : TD := ⟨Go.Proofs.Tryz.t68.desc, Go.Proofs.Tryz.t69.size, Go.Proofs.Tryz.t69.bytes, match Go.Proofs.Tryz.t69.zero with | some z => z | none => .bool false, true⟩
noncomputable def d71 : TD := ⟨Go.Proofs.Tryz.t71.desc, Go.Proofs.Tryz.t71.size, Go.Proofs.Tryz.t71.bytes, match Go.Proofs.Tryz.t71.zero with | some z => z | none => .bool false, true⟩
noncomputable def d72 : TD := ⟨Go.Proofs.Tryz.t71.desc, Go.Proofs.Tryz.t72.size, Go.Proofs.Tryz.t72.bytes, match Go.Proofs.Tryz.t72.zero with | some z => z | none => .bool false, true⟩
noncomputable def d85 : TD := ⟨Go.Proofs.Tryz.t85.desc, Go.Proofs.Tryz.t85.size, Go.Proofs.Tryz.t85.bytes, match Go.Proofs.Tryz.t85.zero with | some z => z | none => .bool false, true⟩
noncomputable def d86 : TD := ⟨Go.Proofs.Tryz.t85.desc, Go.Proofs.Tryz.t86.size, Go.Proofs.Tryz.t86.bytes, match Go.Proofs.Tryz.t86.zero with | some z => z | none => .bool false, true⟩
noncomputable def d90 : TD := ⟨Go.Proofs.Tryz.t90.desc, Go.Proofs.Tryz.t90.size, Go.Proofs.Tryz.t90.bytes, match Go.Proofs.Tryz.t90.zero with | some z => z | none => .bool false, false⟩
noncomputable def d91 : TD := ⟨Go.Proofs.Tryz.t91.desc, Go.Proofs.Tryz.t91.size, Go.Proofs.Tryz.t91.bytes, match Go.Proofs.Tryz.t91.zero with | some z => z | none => .bool false, false⟩
noncomputable def d92 : TD := ⟨Go.Proofs.Tryz.t92.desc, Go.Proofs.Tryz.t92.size, Go.Proofs.Tryz.t92.bytes, match Go.Proofs.Tryz.t92.zero with | some z => z | none => .bool false, false⟩
noncomputable def d93 : TD := ⟨Go.Proofs.Tryz.t93.desc, Go.Proofs.Tryz.t93.size, Go.Proofs.Tryz.t93.bytes, match Go.Proofs.Tryz.t93.zero with | some z => z | none => .bool false, true⟩
noncomputable def d94 : TD := ⟨Go.Proofs.Tryz.t93.desc, Go.Proofs.Tryz.t94.size, Go.Proofs.Tryz.t94.bytes, match Go.Proofs.Tryz.t94.zero with | some z => z | none => .bool false, true⟩
noncomputable def d97 : TD := ⟨Go.Proofs.Tryz.t97.desc, Go.Proofs.Tryz.t97.size, Go.Proofs.Tryz.t97.bytes, match Go.Proofs.Tryz.t97.zero with | some z => z | none => .bool false, true⟩
noncomputable def d98 : TD := ⟨Go.Proofs.Tryz.t97.desc, Go.Proofs.Tryz.t98.size, Go.Proofs.Tryz.t98.bytes, match Go.Proofs.Tryz.t98.zero with | some z => z | none => .bool false, true⟩
noncomputable def d103 : TD := ⟨Go.Proofs.Tryz.t103.desc, Go.Proofs.Tryz.t103.size, Go.Proofs.Tryz.t103.bytes, match Go.Proofs.Tryz.t103.zero with | some z => z | none => .bool false, false⟩
noncomputable def d110 : TD := ⟨Go.Proofs.Tryz.t110.desc, Go.Proofs.Tryz.t110.size, Go.Proofs.Tryz.t110.bytes, match Go.Proofs.Tryz.t110.zero with | some z => z | none => .bool false, false⟩
noncomputable def d111 : TD := ⟨Go.Proofs.Tryz.t111.desc, Go.Proofs.Tryz.t111.size, Go.Proofs.Tryz.t111.bytes, match Go.Proofs.Tryz.t111.zero with | some z => z | none => .bool false, true⟩
noncomputable def d112 : TD := ⟨Go.Proofs.Tryz.t111.desc, Go.Proofs.Tryz.t112.size, Go.Proofs.Tryz.t112.bytes, match Go.Proofs.Tryz.t112.zero with | some z => z | none => .bool false, true⟩
noncomputable def d130 : TD := ⟨Go.Proofs.Tryz.t130.desc, Go.Proofs.Tryz.t130.size, Go.Proofs.Tryz.t130.bytes, match Go.Proofs.Tryz.t130.zero with | some z => z | none => .bool false, false⟩
noncomputable def d132 : TD := ⟨Go.Proofs.Tryz.t132.desc, Go.Proofs.Tryz.t132.size, Go.Proofs.Tryz.t132.bytes, match Go.Proofs.Tryz.t132.zero with | some z => z | none => .bool false, false⟩
noncomputable def d133 : TD := ⟨Go.Proofs.Tryz.t132.desc, Go.Proofs.Tryz.t133.size, Go.Proofs.Tryz.t133.bytes, match Go.Proofs.Tryz.t133.zero with | some z => z | none => .bool false, false⟩
noncomputable def d134 : TD := ⟨Go.Proofs.Tryz.t134.desc, Go.Proofs.Tryz.t134.size, Go.Proofs.Tryz.t134.bytes, match Go.Proofs.Tryz.t134.zero with | some z => z | none => .bool false, false⟩
noncomputable def d140 : TD := ⟨Go.Proofs.Tryz.t140.desc, Go.Proofs.Tryz.t140.size, Go.Proofs.Tryz.t140.bytes, match Go.Proofs.Tryz.t140.zero with | some z => z | none => .bool false, true⟩
noncomputable def d141 : TD := ⟨Go.Proofs.Tryz.t140.desc, Go.Proofs.Tryz.t141.size, Go.Proofs.Tryz.t141.bytes, match Go.Proofs.Tryz.t141.zero with | some z => z | none => .bool false, true⟩
noncomputable def d143 : TD := ⟨Go.Proofs.Tryz.t143.desc, Go.Proofs.Tryz.t143.size, Go.Proofs.Tryz.t143.bytes, match Go.Proofs.Tryz.t143.zero with | some z => z | none => .bool false, false⟩
noncomputable def d147 : TD := ⟨Go.Proofs.Tryz.t147.desc, Go.Proofs.Tryz.t147.size, Go.Proofs.Tryz.t147.bytes, match Go.Proofs.Tryz.t147.zero with | some z => z | none => .bool false, true⟩
noncomputable def d148 : TD := ⟨Go.Proofs.Tryz.t147.desc, Go.Proofs.Tryz.t148.size, Go.Proofs.Tryz.t148.bytes, match Go.Proofs.Tryz.t148.zero with | some z => z | none => .bool false, true⟩
noncomputable def d151 : TD := ⟨Go.Proofs.Tryz.t65.desc, Go.Proofs.Tryz.t151.size, Go.Proofs.Tryz.t151.bytes, match Go.Proofs.Tryz.t151.zero with | some z => z | none => .bool false, true⟩
noncomputable def d152 : TD := ⟨Go.Proofs.Tryz.t152.desc, Go.Proofs.Tryz.t152.size, Go.Proofs.Tryz.t152.bytes, match Go.Proofs.Tryz.t152.zero with | some z => z | none => .bool false, true⟩
noncomputable def d153 : TD := ⟨Go.Proofs.Tryz.t152.desc, Go.Proofs.Tryz.t153.size, Go.Proofs.Tryz.t153.bytes, match Go.Proofs.Tryz.t153.zero with | some z => z | none => .bool false, true⟩
noncomputable def d169 : TD := ⟨Go.Proofs.Tryz.t169.desc, Go.Proofs.Tryz.t169.size, Go.Proofs.Tryz.t169.bytes, match Go.Proofs.Tryz.t169.zero with | some z => z | none => .bool false, false⟩
noncomputable def d172 : TD := ⟨Go.Proofs.Tryz.t172.desc, Go.Proofs.Tryz.t172.size, Go.Proofs.Tryz.t172.bytes, match Go.Proofs.Tryz.t172.zero with | some z => z | none => .bool false, false⟩
noncomputable def d175 : TD := ⟨Go.Proofs.Tryz.t175.desc, Go.Proofs.Tryz.t175.size, Go.Proofs.Tryz.t175.bytes, match Go.Proofs.Tryz.t175.zero with | some z => z | none => .bool false, false⟩
noncomputable def d179 : TD := ⟨Go.Proofs.Tryz.t179.desc, Go.Proofs.Tryz.t179.size, Go.Proofs.Tryz.t179.bytes, match Go.Proofs.Tryz.t179.zero with | some z => z | none => .bool false, false⟩
noncomputable def d182 : TD := ⟨Go.Proofs.Tryz.t182.desc, Go.Proofs.Tryz.t182.size, Go.Proofs.Tryz.t182.bytes, match Go.Proofs.Tryz.t182.zero with | some z => z | none => .bool false, false⟩
noncomputable def T (t : Nat) : Option TD := match t with
  | 2 => some d2
  | 3 => some d3
  | 4 => some d4
  | 5 => some d5
  | 7 => some d7
  | 9 => some d9
  | 12 => some d12
  | 13 => some d13
  | 15 => some d15
  | 16 => some d16
  | 17 => some d17
  | 18 => some d18
  | 21 => some d21
  | 22 => some d22
  | 23 => some d23
  | 24 => some d24
  | 25 => some d25
  | 26 => some d26
  | 28 => some d28
  | 31 => some d31
  | 32 => some d32
  | 33 => some d33
  | 35 => some d35
  | 42 => some d42
  | 48 => some d48
  | 49 => some d49
  | 51 => some d51
  | 59 => some d59
  | 61 => some d61
  | 62 => some d62
  | 63 => some d63
  | 64 => some d64
  | 65 => some d65
  | 66 => some d66
  | 67 => some d67
  | 68 => some d68
  | 69 => some d69
  | 71 => some d71
  | 72 => some d72
  | 85 => some d85
  | 86 => some d86
  | 90 => some d90
  | 91 => some d91
  | 92 => some d92
  | 93 => some d93
  | 94 => some d94
  | 97 => some d97
  | 98 => some d98
  | 103 => some d103
  | 110 => some d110
  | 111 => some d111
  | 112 => some d112
  | 130 => some d130
  | 132 => some d132
  | 133 => some d133
  | 134 => some d134
  | 140 => some d140
  | 141 => some d141
  | 143 => some d143
  | 147 => some d147
  | 148 => some d148
  | 151 => some d151
  | 152 => some d152
  | 153 => some d153
  | 169 => some d169
  | 172 => some d172
  | 175 => some d175
  | 179 => some d179
  | 182 => some d182
  | _ => none
def RowOk (t : Nat) (d : TD) : Prop := Go.Proofs.Tryz.prog.underlying t = some d.und ∧ (∃ i, Go.Proofs.Tryz.prog.info? t = some i ∧ i.size = d.size ∧ i.bytes = d.bytes ∧ i.zero = some d.zero) ∧ (∀ x ∈ d.zero.cells.toList, x.oneCell' = true) ∧ (d.eqs = true → Go.Proofs.Tryz.prog.stoodInHeld t = false ∧ Go.Proofs.Tryz.prog.eqGuardType Go.Proofs.Tryz.prog.depth t = false ∧ (fieldsOf d.und).all (fun f => f.name != "_") = true)
theorem ok2 : RowOk 2 d2 := ⟨by kernel_rfl, ⟨Go.Proofs.Tryz.t2, by kernel_rfl, by kernel_rfl, by kernel_rfl, by kernel_rfl⟩, List.all_eq_true.1 (by kernel_rfl), fun h => by cases h⟩
theorem ok3 : RowOk 3 d3 := ⟨by kernel_rfl, ⟨Go.Proofs.Tryz.t3, by kernel_rfl, by kernel_rfl, by kernel_rfl, by kernel_rfl⟩, List.all_eq_true.1 (by kernel_rfl), fun h => by cases h⟩
theorem ok4 : RowOk 4 d4 := ⟨by kernel_rfl, ⟨Go.Proofs.Tryz.t4, by kernel_rfl, by kernel_rfl, by kernel_rfl, by kernel_rfl⟩, List.all_eq_true.1 (by kernel_rfl), fun h => by cases h⟩
theorem ok5 : RowOk 5 d5 := ⟨by kernel_rfl, ⟨Go.Proofs.Tryz.t5, by kernel_rfl, by kernel_rfl, by kernel_rfl, by kernel_rfl⟩, List.all_eq_true.1 (by kernel_rfl), fun h => by cases h⟩
theorem ok7 : RowOk 7 d7 := ⟨by kernel_rfl, ⟨Go.Proofs.Tryz.t7, by kernel_rfl, by kernel_rfl, by kernel_rfl, by kernel_rfl⟩, List.all_eq_true.1 (by kernel_rfl), fun h => by cases h⟩
theorem ok9 : RowOk 9 d9 := ⟨by kernel_rfl, ⟨Go.Proofs.Tryz.t9, by kernel_rfl, by kernel_rfl, by kernel_rfl, by kernel_rfl⟩, List.all_eq_true.1 (by kernel_rfl), fun h => by cases h⟩
theorem ok12 : RowOk 12 d12 := ⟨by kernel_rfl, ⟨Go.Proofs.Tryz.t12, by kernel_rfl, by kernel_rfl, by kernel_rfl, by kernel_rfl⟩, List.all_eq_true.1 (by kernel_rfl), fun h => by cases h⟩
theorem ok13 : RowOk 13 d13 := ⟨by kernel_rfl, ⟨Go.Proofs.Tryz.t13, by kernel_rfl, by kernel_rfl, by kernel_rfl, by kernel_rfl⟩, List.all_eq_true.1 (by kernel_rfl), fun h => by cases h⟩
theorem ok15 : RowOk 15 d15 := ⟨by kernel_rfl, ⟨Go.Proofs.Tryz.t15, by kernel_rfl, by kernel_rfl, by kernel_rfl, by kernel_rfl⟩, List.all_eq_true.1 (by kernel_rfl), fun h => by cases h⟩
theorem ok16 : RowOk 16 d16 := ⟨by kernel_rfl, ⟨Go.Proofs.Tryz.t16, by kernel_rfl, by kernel_rfl, by kernel_rfl, by kernel_rfl⟩, List.all_eq_true.1 (by kernel_rfl), fun h => by cases h⟩
theorem ok17 : RowOk 17 d17 := ⟨by kernel_rfl, ⟨Go.Proofs.Tryz.t17, by kernel_rfl, by kernel_rfl, by kernel_rfl, by kernel_rfl⟩, List.all_eq_true.1 (by kernel_rfl), fun h => by cases h⟩
theorem ok18 : RowOk 18 d18 := ⟨by kernel_rfl, ⟨Go.Proofs.Tryz.t18, by kernel_rfl, by kernel_rfl, by kernel_rfl, by kernel_rfl⟩, List.all_eq_true.1 (by kernel_rfl), fun h => by cases h⟩
theorem ok21 : RowOk 21 d21 := ⟨by kernel_rfl, ⟨Go.Proofs.Tryz.t21, by kernel_rfl, by kernel_rfl, by kernel_rfl, by kernel_rfl⟩, List.all_eq_true.1 (by kernel_rfl), fun h => by cases h⟩
theorem ok22 : RowOk 22 d22 := ⟨by kernel_rfl, ⟨Go.Proofs.Tryz.t22, by kernel_rfl, by kernel_rfl, by kernel_rfl, by kernel_rfl⟩, List.all_eq_true.1 (by kernel_rfl), fun h => by cases h⟩
theorem ok23 : RowOk 23 d23 := ⟨by kernel_rfl, ⟨Go.Proofs.Tryz.t23, by kernel_rfl, by kernel_rfl, by kernel_rfl, by kernel_rfl⟩, List.all_eq_true.1 (by kernel_rfl), fun _ => ⟨by kernel_rfl, by kernel_rfl, by kernel_rfl⟩⟩
theorem ok24 : RowOk 24 d24 := ⟨by kernel_rfl, ⟨Go.Proofs.Tryz.t24, by kernel_rfl, by kernel_rfl, by kernel_rfl, by kernel_rfl⟩, List.all_eq_true.1 (by kernel_rfl), fun _ => ⟨by kernel_rfl, by kernel_rfl, by kernel_rfl⟩⟩
theorem ok25 : RowOk 25 d25 := ⟨by kernel_rfl, ⟨Go.Proofs.Tryz.t25, by kernel_rfl, by kernel_rfl, by kernel_rfl, by kernel_rfl⟩, List.all_eq_true.1 (by kernel_rfl), fun _ => ⟨by kernel_rfl, by kernel_rfl, by kernel_rfl⟩⟩
theorem ok26 : RowOk 26 d26 := ⟨by kernel_rfl, ⟨Go.Proofs.Tryz.t26, by kernel_rfl, by kernel_rfl, by kernel_rfl, by kernel_rfl⟩, List.all_eq_true.1 (by kernel_rfl), fun _ => ⟨by kernel_rfl, by kernel_rfl, by kernel_rfl⟩⟩
theorem ok28 : RowOk 28 d28 := ⟨by kernel_rfl, ⟨Go.Proofs.Tryz.t28, by kernel_rfl, by kernel_rfl, by kernel_rfl, by kernel_rfl⟩, List.all_eq_true.1 (by kernel_rfl), fun h => by cases h⟩
theorem ok31 : RowOk 31 d31 := ⟨by kernel_rfl, ⟨Go.Proofs.Tryz.t31, by kernel_rfl, by kernel_rfl, by kernel_rfl, by kernel_rfl⟩, List.all_eq_true.1 (by kernel_rfl), fun h => by cases h⟩
theorem ok32 : RowOk 32 d32 := ⟨by kernel_rfl, ⟨Go.Proofs.Tryz.t32, by kernel_rfl, by kernel_rfl, by kernel_rfl, by kernel_rfl⟩, List.all_eq_true.1 (by kernel_rfl), fun _ => ⟨by kernel_rfl, by kernel_rfl, by kernel_rfl⟩⟩
theorem ok33 : RowOk 33 d33 := ⟨by kernel_rfl, ⟨Go.Proofs.Tryz.t33, by kernel_rfl, by kernel_rfl, by kernel_rfl, by kernel_rfl⟩, List.all_eq_true.1 (by kernel_rfl), fun _ => ⟨by kernel_rfl, by kernel_rfl, by kernel_rfl⟩⟩
theorem ok35 : RowOk 35 d35 := ⟨by kernel_rfl, ⟨Go.Proofs.Tryz.t35, by kernel_rfl, by kernel_rfl, by kernel_rfl, by kernel_rfl⟩, List.all_eq_true.1 (by kernel_rfl), fun _ => ⟨by kernel_rfl, by kernel_rfl, by kernel_rfl⟩⟩
theorem ok42 : RowOk 42 d42 := ⟨by kernel_rfl, ⟨Go.Proofs.Tryz.t42, by kernel_rfl, by kernel_rfl, by kernel_rfl, by kernel_rfl⟩, List.all_eq_true.1 (by kernel_rfl), fun h => by cases h⟩
theorem ok48 : RowOk 48 d48 := ⟨by kernel_rfl, ⟨Go.Proofs.Tryz.t48, by kernel_rfl, by kernel_rfl, by kernel_rfl, by kernel_rfl⟩, List.all_eq_true.1 (by kernel_rfl), fun _ => ⟨by kernel_rfl, by kernel_rfl, by kernel_rfl⟩⟩
theorem ok49 : RowOk 49 d49 := ⟨by kernel_rfl, ⟨Go.Proofs.Tryz.t49, by kernel_rfl, by kernel_rfl, by kernel_rfl, by kernel_rfl⟩, List.all_eq_true.1 (by kernel_rfl), fun _ => ⟨by kernel_rfl, by kernel_rfl, by kernel_rfl⟩⟩
theorem ok51 : RowOk 51 d51 := ⟨by kernel_rfl, ⟨Go.Proofs.Tryz.t51, by kernel_rfl, by kernel_rfl, by kernel_rfl, by kernel_rfl⟩, List.all_eq_true.1 (by kernel_rfl), fun _ => ⟨by kernel_rfl, by kernel_rfl, by kernel_rfl⟩⟩
theorem ok59 : RowOk 59 d59 := ⟨by kernel_rfl, ⟨Go.Proofs.Tryz.t59, by kernel_rfl, by kernel_rfl, by kernel_rfl, by kernel_rfl⟩, List.all_eq_true.1 (by kernel_rfl), fun h => by cases h⟩
theorem ok61 : RowOk 61 d61 := ⟨by kernel_rfl, ⟨Go.Proofs.Tryz.t61, by kernel_rfl, by kernel_rfl, by kernel_rfl, by kernel_rfl⟩, List.all_eq_true.1 (by kernel_rfl), fun h => by cases h⟩
theorem ok62 : RowOk 62 d62 := ⟨by kernel_rfl, ⟨Go.Proofs.Tryz.t62, by kernel_rfl, by kernel_rfl, by kernel_rfl, by kernel_rfl⟩, List.all_eq_true.1 (by kernel_rfl), fun h => by cases h⟩
theorem ok63 : RowOk 63 d63 := ⟨by kernel_rfl, ⟨Go.Proofs.Tryz.t63, by kernel_rfl, by kernel_rfl, by kernel_rfl, by kernel_rfl⟩, List.all_eq_true.1 (by kernel_rfl), fun _ => ⟨by kernel_rfl, by kernel_rfl, by kernel_rfl⟩⟩
theorem ok64 : RowOk 64 d64 := ⟨by kernel_rfl, ⟨Go.Proofs.Tryz.t64, by kernel_rfl, by kernel_rfl, by kernel_rfl, by kernel_rfl⟩, List.all_eq_true.1 (by kernel_rfl), fun _ => ⟨by kernel_rfl, by kernel_rfl, by kernel_rfl⟩⟩
theorem ok65 : RowOk 65 d65 := ⟨by kernel_rfl, ⟨Go.Proofs.Tryz.t65, by kernel_rfl, by kernel_rfl, by kernel_rfl, by kernel_rfl⟩, List.all_eq_true.1 (by kernel_rfl), fun _ => ⟨by kernel_rfl, by kernel_rfl, by kernel_rfl⟩⟩
theorem ok66 : RowOk 66 d66 := ⟨by kernel_rfl, ⟨Go.Proofs.Tryz.t66, by kernel_rfl, by kernel_rfl, by kernel_rfl, by kernel_rfl⟩, List.all_eq_true.1 (by kernel_rfl), fun _ => ⟨by kernel_rfl, by kernel_rfl, by kernel_rfl⟩⟩
theorem ok67 : RowOk 67 d67 := ⟨by kernel_rfl, ⟨Go.Proofs.Tryz.t67, by kernel_rfl, by kernel_rfl, by kernel_rfl, by kernel_rfl⟩, List.all_eq_true.1 (by kernel_rfl), fun h => by cases h⟩
theorem ok68 : RowOk 68 d68 := ⟨by kernel_rfl, ⟨Go.Proofs.Tryz.t68, by kernel_rfl, by kernel_rfl, by kernel_rfl, by kernel_rfl⟩, List.all_eq_true.1 (by kernel_rfl), fun _ => ⟨by kernel_rfl, by kernel_rfl, by kernel_rfl⟩⟩
theorem ok69 : RowOk 69 d69 := ⟨by kernel_rfl, ⟨Go.Proofs.Tryz.t69, by kernel_rfl, by kernel_rfl, by kernel_rfl, by kernel_rfl⟩, List.all_eq_true.1 (by kernel_rfl), fun _ => ⟨by kernel_rfl, by kernel_rfl, by kernel_rfl⟩⟩
theorem ok71 : RowOk 71 d71 := ⟨by kernel_rfl, ⟨Go.Proofs.Tryz.t71, by kernel_rfl, by kernel_rfl, by kernel_rfl, by kernel_rfl⟩, List.all_eq_true.1 (by kernel_rfl), fun _ => ⟨by kernel_rfl, by kernel_rfl, by kernel_rfl⟩⟩
theorem ok72 : RowOk 72 d72 := ⟨by kernel_rfl, ⟨Go.Proofs.Tryz.t72, by kernel_rfl, by kernel_rfl, by kernel_rfl, by kernel_rfl⟩, List.all_eq_true.1 (by kernel_rfl), fun _ => ⟨by kernel_rfl, by kernel_rfl, by kernel_rfl⟩⟩
theorem ok85 : RowOk 85 d85 := ⟨by kernel_rfl, ⟨Go.Proofs.Tryz.t85, by kernel_rfl, by kernel_rfl, by kernel_rfl, by kernel_rfl⟩, List.all_eq_true.1 (by kernel_rfl), fun _ => ⟨by kernel_rfl, by kernel_rfl, by kernel_rfl⟩⟩
theorem ok86 : RowOk 86 d86 := ⟨by kernel_rfl, ⟨Go.Proofs.Tryz.t86, by kernel_rfl, by kernel_rfl, by kernel_rfl, by kernel_rfl⟩, List.all_eq_true.1 (by kernel_rfl), fun _ => ⟨by kernel_rfl, by kernel_rfl, by kernel_rfl⟩⟩
theorem ok90 : RowOk 90 d90 := ⟨by kernel_rfl, ⟨Go.Proofs.Tryz.t90, by kernel_rfl, by kernel_rfl, by kernel_rfl, by kernel_rfl⟩, List.all_eq_true.1 (by kernel_rfl), fun h => by cases h⟩
theorem ok91 : RowOk 91 d91 := ⟨by kernel_rfl, ⟨Go.Proofs.Tryz.t91, by kernel_rfl, by kernel_rfl, by kernel_rfl, by kernel_rfl⟩, List.all_eq_true.1 (by kernel_rfl), fun h => by cases h⟩
theorem ok92 : RowOk 92 d92 := ⟨by kernel_rfl, ⟨Go.Proofs.Tryz.t92, by kernel_rfl, by kernel_rfl, by kernel_rfl, by kernel_rfl⟩, List.all_eq_true.1 (by kernel_rfl), fun h => by cases h⟩
theorem ok93 : RowOk 93 d93 := ⟨by kernel_rfl, ⟨Go.Proofs.Tryz.t93, by kernel_rfl, by kernel_rfl, by kernel_rfl, by kernel_rfl⟩, List.all_eq_true.1 (by kernel_rfl), fun _ => ⟨by kernel_rfl, by kernel_rfl, by kernel_rfl⟩⟩
theorem ok94 : RowOk 94 d94 := ⟨by kernel_rfl, ⟨Go.Proofs.Tryz.t94, by kernel_rfl, by kernel_rfl, by kernel_rfl, by kernel_rfl⟩, List.all_eq_true.1 (by kernel_rfl), fun _ => ⟨by kernel_rfl, by kernel_rfl, by kernel_rfl⟩⟩
theorem ok97 : RowOk 97 d97 := ⟨by kernel_rfl, ⟨Go.Proofs.Tryz.t97, by kernel_rfl, by kernel_rfl, by kernel_rfl, by kernel_rfl⟩, List.all_eq_true.1 (by kernel_rfl), fun _ => ⟨by kernel_rfl, by kernel_rfl, by kernel_rfl⟩⟩
theorem ok98 : RowOk 98 d98 := ⟨by kernel_rfl, ⟨Go.Proofs.Tryz.t98, by kernel_rfl, by kernel_rfl, by kernel_rfl, by kernel_rfl⟩, List.all_eq_true.1 (by kernel_rfl), fun _ => ⟨by kernel_rfl, by kernel_rfl, by kernel_rfl⟩⟩
theorem ok103 : RowOk 103 d103 := ⟨by kernel_rfl, ⟨Go.Proofs.Tryz.t103, by kernel_rfl, by kernel_rfl, by kernel_rfl, by kernel_rfl⟩, List.all_eq_true.1 (by kernel_rfl), fun h => by cases h⟩
theorem ok110 : RowOk 110 d110 := ⟨by kernel_rfl, ⟨Go.Proofs.Tryz.t110, by kernel_rfl, by kernel_rfl, by kernel_rfl, by kernel_rfl⟩, List.all_eq_true.1 (by kernel_rfl), fun h => by cases h⟩
theorem ok111 : RowOk 111 d111 := ⟨by kernel_rfl, ⟨Go.Proofs.Tryz.t111, by kernel_rfl, by kernel_rfl, by kernel_rfl, by kernel_rfl⟩, List.all_eq_true.1 (by kernel_rfl), fun _ => ⟨by kernel_rfl, by kernel_rfl, by kernel_rfl⟩⟩
theorem ok112 : RowOk 112 d112 := ⟨by kernel_rfl, ⟨Go.Proofs.Tryz.t112, by kernel_rfl, by kernel_rfl, by kernel_rfl, by kernel_rfl⟩, List.all_eq_true.1 (by kernel_rfl), fun _ => ⟨by kernel_rfl, by kernel_rfl, by kernel_rfl⟩⟩
theorem ok130 : RowOk 130 d130 := ⟨by kernel_rfl, ⟨Go.Proofs.Tryz.t130, by kernel_rfl, by kernel_rfl, by kernel_rfl, by kernel_rfl⟩, List.all_eq_true.1 (by kernel_rfl), fun h => by cases h⟩
theorem ok132 : RowOk 132 d132 := ⟨by kernel_rfl, ⟨Go.Proofs.Tryz.t132, by kernel_rfl, by kernel_rfl, by kernel_rfl, by kernel_rfl⟩, List.all_eq_true.1 (by kernel_rfl), fun h => by cases h⟩
theorem ok133 : RowOk 133 d133 := ⟨by kernel_rfl, ⟨Go.Proofs.Tryz.t133, by kernel_rfl, by kernel_rfl, by kernel_rfl, by kernel_rfl⟩, List.all_eq_true.1 (by kernel_rfl), fun h => by cases h⟩
theorem ok134 : RowOk 134 d134 := ⟨by kernel_rfl, ⟨Go.Proofs.Tryz.t134, by kernel_rfl, by kernel_rfl, by kernel_rfl, by kernel_rfl⟩, List.all_eq_true.1 (by kernel_rfl), fun h => by cases h⟩
theorem ok140 : RowOk 140 d140 := ⟨by kernel_rfl, ⟨Go.Proofs.Tryz.t140, by kernel_rfl, by kernel_rfl, by kernel_rfl, by kernel_rfl⟩, List.all_eq_true.1 (by kernel_rfl), fun _ => ⟨by kernel_rfl, by kernel_rfl, by kernel_rfl⟩⟩
theorem ok141 : RowOk 141 d141 := ⟨by kernel_rfl, ⟨Go.Proofs.Tryz.t141, by kernel_rfl, by kernel_rfl, by kernel_rfl, by kernel_rfl⟩, List.all_eq_true.1 (by kernel_rfl), fun _ => ⟨by kernel_rfl, by kernel_rfl, by kernel_rfl⟩⟩
theorem ok143 : RowOk 143 d143 := ⟨by kernel_rfl, ⟨Go.Proofs.Tryz.t143, by kernel_rfl, by kernel_rfl, by kernel_rfl, by kernel_rfl⟩, List.all_eq_true.1 (by kernel_rfl), fun h => by cases h⟩
theorem ok147 : RowOk 147 d147 := ⟨by kernel_rfl, ⟨Go.Proofs.Tryz.t147, by kernel_rfl, by kernel_rfl, by kernel_rfl, by kernel_rfl⟩, List.all_eq_true.1 (by kernel_rfl), fun _ => ⟨by kernel_rfl, by kernel_rfl, by kernel_rfl⟩⟩
theorem ok148 : RowOk 148 d148 := ⟨by kernel_rfl, ⟨Go.Proofs.Tryz.t148, by kernel_rfl, by kernel_rfl, by kernel_rfl, by kernel_rfl⟩, List.all_eq_true.1 (by kernel_rfl), fun _ => ⟨by kernel_rfl, by kernel_rfl, by kernel_rfl⟩⟩
theorem ok151 : RowOk 151 d151 := ⟨by kernel_rfl, ⟨Go.Proofs.Tryz.t151, by kernel_rfl, by kernel_rfl, by kernel_rfl, by kernel_rfl⟩, List.all_eq_true.1 (by kernel_rfl), fun _ => ⟨by kernel_rfl, by kernel_rfl, by kernel_rfl⟩⟩
theorem ok152 : RowOk 152 d152 := ⟨by kernel_rfl, ⟨Go.Proofs.Tryz.t152, by kernel_rfl, by kernel_rfl, by kernel_rfl, by kernel_rfl⟩, List.all_eq_true.1 (by kernel_rfl), fun _ => ⟨by kernel_rfl, by kernel_rfl, by kernel_rfl⟩⟩
theorem ok153 : RowOk 153 d153 := ⟨by kernel_rfl, ⟨Go.Proofs.Tryz.t153, by kernel_rfl, by kernel_rfl, by kernel_rfl, by kernel_rfl⟩, List.all_eq_true.1 (by kernel_rfl), fun _ => ⟨by kernel_rfl, by kernel_rfl, by kernel_rfl⟩⟩
theorem ok169 : RowOk 169 d169 := ⟨by kernel_rfl, ⟨Go.Proofs.Tryz.t169, by kernel_rfl, by kernel_rfl, by kernel_rfl, by kernel_rfl⟩, List.all_eq_true.1 (by kernel_rfl), fun h => by cases h⟩
theorem ok172 : RowOk 172 d172 := ⟨by kernel_rfl, ⟨Go.Proofs.Tryz.t172, by kernel_rfl, by kernel_rfl, by kernel_rfl, by kernel_rfl⟩, List.all_eq_true.1 (by kernel_rfl), fun h => by cases h⟩
theorem ok175 : RowOk 175 d175 := ⟨by kernel_rfl, ⟨Go.Proofs.Tryz.t175, by kernel_rfl, by kernel_rfl, by kernel_rfl, by kernel_rfl⟩, List.all_eq_true.1 (by kernel_rfl), fun h => by cases h⟩
theorem ok179 : RowOk 179 d179 := ⟨by kernel_rfl, ⟨Go.Proofs.Tryz.t179, by kernel_rfl, by kernel_rfl, by kernel_rfl, by kernel_rfl⟩, List.all_eq_true.1 (by kernel_rfl), fun h => by cases h⟩
theorem ok182 : RowOk 182 d182 := ⟨by kernel_rfl, ⟨Go.Proofs.Tryz.t182, by kernel_rfl, by kernel_rfl, by kernel_rfl, by kernel_rfl⟩, List.all_eq_true.1 (by kernel_rfl), fun h => by cases h⟩
theorem tok : TOk Go.Proofs.Tryz.prog T := by
  intro t d h
  unfold T at h
  split at h <;> first | (cases h; done) | (injection h with h; subst h; first | exact ok2 | exact ok3 | exact ok4 | exact ok5 | exact ok7 | exact ok9 | exact ok12 | exact ok13 | exact ok15 | exact ok16 | exact ok17 | exact ok18 | exact ok21 | exact ok22 | exact ok23 | exact ok24 | exact ok25 | exact ok26 | exact ok28 | exact ok31 | exact ok32 | exact ok33 | exact ok35 | exact ok42 | exact ok48 | exact ok49 | exact ok51 | exact ok59 | exact ok61 | exact ok62 | exact ok63 | exact ok64 | exact ok65 | exact ok66 | exact ok67 | exact ok68 | exact ok69 | exact ok71 | exact ok72 | exact ok85 | exact ok86 | exact ok90 | exact ok91 | exact ok92 | exact ok93 | exact ok94 | exact ok97 | exact ok98 | exact ok103 | exact ok110 | exact ok111 | exact ok112 | exact ok130 | exact ok132 | exact ok133 | exact ok134 | exact ok140 | exact ok141 | exact ok143 | exact ok147 | exact ok148 | exact ok151 | exact ok152 | exact ok153 | exact ok169 | exact ok172 | exact ok175 | exact ok179 | exact ok182)
end Go.Proofs.YtmdlnjeppemipaaGreat.AM
