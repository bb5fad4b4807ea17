/-
  THE TABLE OF TYPES of the seat. No condition.
-/
import Derived.Test.YtnmfighfidaglaaAmE
import Derived.Test.YtnmfighfidaglaaProg
import Derived.KernelRfl
namespace Go.Proofs.Ytnmfighfidaglaa.AM
open Go Go.Proofs Go.RowKit
set_option linter.unusedVariables false
set_option linter.unusedSimpArgs false
set_option maxRecDepth 100000

noncomputable def d2 : TD := ⟨Go.Proofs.Try.t2.desc, Go.Proofs.Try.t2.size, Go.Proofs.Try.t2.bytes, match Go.Proofs.Try.t2.zero with | some z => z | none => .bool false, false⟩
noncomputable def d3 : TD := ⟨Go.Proofs.Try.t3.desc, Go.Proofs.Try.t3.size, Go.Proofs.Try.t3.bytes, match Go.Proofs.Try.t3.zero with | some z => z | none => .bool false, false⟩
noncomputable def d4 : TD := ⟨Go.Proofs.Try.t4.desc, Go.Proofs.Try.t4.size, Go.Proofs.Try.t4.bytes, match Go.Proofs.Try.t4.zero with | some z => z | none => .bool false, false⟩
noncomputable def d5 : TD := ⟨Go.Proofs.Try.t5.desc, Go.Proofs.Try.t5.size, Go.Proofs.Try.t5.bytes, match Go.Proofs.Try.t5.zero with | some z => z | none => .bool false, false⟩
noncomputable def d7 : TD := ⟨Go.Proofs.Try.t7.desc, Go.Proofs.Try.t7.size, Go.Proofs.Try.t7.bytes, match Go.Proofs.Try.t7.zero with | some z => z | none => .bool false, false⟩
noncomputable def d9 : TD := ⟨Go.Proofs.Try.t9.desc, Go.Proofs.Try.t9.size, Go.Proofs.Try.t9.bytes, match Go.Proofs.Try.t9.zero with | some z => z | none => .bool false, false⟩
noncomputable def d12 : TD := ⟨Go.Proofs.Try.t12.desc, Go.Proofs.Try.t12.size, Go.Proofs.Try.t12.bytes, match Go.Proofs.Try.t12.zero with | some z => z | none => .bool false, false⟩
noncomputable def d13 : TD := ⟨Go.Proofs.Try.t13.desc, Go.Proofs.Try.t13.size, Go.Proofs.Try.t13.bytes, match Go.Proofs.Try.t13.zero with | some z => z | none => .bool false, false⟩
noncomputable def d15 : TD := ⟨Go.Proofs.Try.t15.desc, Go.Proofs.Try.t15.size, Go.Proofs.Try.t15.bytes, match Go.Proofs.Try.t15.zero with | some z => z | none => .bool false, false⟩
noncomputable def d16 : TD := ⟨Go.Proofs.Try.t16.desc, Go.Proofs.Try.t16.size, Go.Proofs.Try.t16.bytes, match Go.Proofs.Try.t16.zero with | some z => z | none => .bool false, false⟩
noncomputable def d17 : TD := ⟨Go.Proofs.Try.t17.desc, Go.Proofs.Try.t17.size, Go.Proofs.Try.t17.bytes, match Go.Proofs.Try.t17.zero with | some z => z | none => .bool false, false⟩
noncomputable def d18 : TD := ⟨Go.Proofs.Try.t18.desc, Go.Proofs.Try.t18.size, Go.Proofs.Try.t18.bytes, match Go.Proofs.Try.t18.zero with | some z => z | none => .bool false, false⟩
noncomputable def d21 : TD := ⟨Go.Proofs.Try.t21.desc, Go.Proofs.Try.t21.size, Go.Proofs.Try.t21.bytes, match Go.Proofs.Try.t21.zero with | some z => z | none => .bool false, false⟩
noncomputable def d22 : TD := ⟨Go.Proofs.Try.t22.desc, Go.Proofs.Try.t22.size, Go.Proofs.Try.t22.bytes, match Go.Proofs.Try.t22.zero with | some z => z | none => .bool false, false⟩
noncomputable def d23 : TD := ⟨Go.Proofs.Try.t23.desc, Go.Proofs.Try.t23.size, Go.Proofs.Try.t23.bytes, match Go.Proofs.Try.t23.zero with | some z => z | none => .bool false, false⟩
noncomputable def d34 : TD := ⟨Go.Proofs.Try.t34.desc, Go.Proofs.Try.t34.size, Go.Proofs.Try.t34.bytes, match Go.Proofs.Try.t34.zero with | some z => z | none => .bool false, true⟩
noncomputable def d35 : TD := ⟨Go.Proofs.Try.t34.desc, Go.Proofs.Try.t35.size, Go.Proofs.Try.t35.bytes, match Go.Proofs.Try.t35.zero with | some z => z | none => .bool false, true⟩
noncomputable def d36 : TD := ⟨Go.Proofs.Try.t36.desc, Go.Proofs.Try.t36.size, Go.Proofs.Try.t36.bytes, match Go.Proofs.Try.t36.zero with | some z => z | none => .bool false, true⟩
noncomputable def d37 : TD := ⟨Go.Proofs.Try.t36.desc, Go.Proofs.Try.t37.size, Go.Proofs.Try.t37.bytes, match Go.Proofs.Try.t37.zero with | some z => z | none => .bool false, true⟩
noncomputable def d38 : TD := ⟨Go.Proofs.Try.t38.desc, Go.Proofs.Try.t38.size, Go.Proofs.Try.t38.bytes, match Go.Proofs.Try.t38.zero with | some z => z | none => .bool false, true⟩
noncomputable def d39 : TD := ⟨Go.Proofs.Try.t38.desc, Go.Proofs.Try.t39.size, Go.Proofs.Try.t39.bytes, match Go.Proofs.Try.t39.zero with | some z => z | none => .bool false, true⟩
noncomputable def d40 : TD := ⟨Go.Proofs.Try.t40.desc, Go.Proofs.Try.t40.size, Go.Proofs.Try.t40.bytes, match Go.Proofs.Try.t40.zero with | some z => z | none => .bool false, true⟩
noncomputable def d41 : TD := ⟨Go.Proofs.Try.t40.desc, Go.Proofs.Try.t41.size, Go.Proofs.Try.t41.bytes, match Go.Proofs.Try.t41.zero with | some z => z | none => .bool false, true⟩
noncomputable def d42 : TD := ⟨Go.Proofs.Try.t42.desc, Go.Proofs.Try.t42.size, Go.Proofs.Try.t42.bytes, match Go.Proofs.Try.t42.zero with | some z => z | none => .bool false, true⟩
noncomputable def d43 : TD := ⟨Go.Proofs.Try.t42.desc, Go.Proofs.Try.t43.size, Go.Proofs.Try.t43.bytes, match Go.Proofs.Try.t43.zero with | some z => z | none => .bool false, true⟩
noncomputable def d44 : TD := ⟨Go.Proofs.Try.t44.desc, Go.Proofs.Try.t44.size, Go.Proofs.Try.t44.bytes, match Go.Proofs.Try.t44.zero with | some z => z | none => .bool false, true⟩
noncomputable def d45 : TD := ⟨Go.Proofs.Try.t44.desc, Go.Proofs.Try.t45.size, Go.Proofs.Try.t45.bytes, match Go.Proofs.Try.t45.zero with | some z => z | none => .bool false, true⟩
noncomputable def d46 : TD := ⟨Go.Proofs.Try.t46.desc, Go.Proofs.Try.t46.size, Go.Proofs.Try.t46.bytes, match Go.Proofs.Try.t46.zero with | some z => z | none => .bool false, true⟩
noncomputable def d47 : TD := ⟨Go.Proofs.Try.t46.desc, Go.Proofs.Try.t47.size, Go.Proofs.Try.t47.bytes, match Go.Proofs.Try.t47.zero with | some z => z | none => .bool false, true⟩
noncomputable def d50 : TD := ⟨Go.Proofs.Try.t34.desc, Go.Proofs.Try.t50.size, Go.Proofs.Try.t50.bytes, match Go.Proofs.Try.t50.zero with | some z => z | none => .bool false, true⟩
noncomputable def d51 : TD := ⟨Go.Proofs.Try.t51.desc, Go.Proofs.Try.t51.size, Go.Proofs.Try.t51.bytes, match Go.Proofs.Try.t51.zero with | some z => z | none => .bool false, true⟩
noncomputable def d52 : TD := ⟨Go.Proofs.Try.t51.desc, Go.Proofs.Try.t52.size, Go.Proofs.Try.t52.bytes, match Go.Proofs.Try.t52.zero with | some z => z | none => .bool false, true⟩
noncomputable def d53 : TD := ⟨Go.Proofs.Try.t38.desc, Go.Proofs.Try.t53.size, Go.Proofs.Try.t53.bytes, match Go.Proofs.Try.t53.zero with | some z => z | none => .bool false, true⟩
noncomputable def d54 : TD := ⟨Go.Proofs.Try.t54.desc, Go.Proofs.Try.t54.size, Go.Proofs.Try.t54.bytes, match Go.Proofs.Try.t54.zero with | some z => z | none => .bool false, true⟩
noncomputable def d55 : TD := ⟨Go.Proofs.Try.t54.desc, Go.Proofs.Try.t55.size, Go.Proofs.Try.t55.bytes, match Go.Proofs.Try.t55.zero with | some z => z | none => .bool false, true⟩
noncomputable def d56 : TD := ⟨Go.Proofs.Try.t42.desc, Go.Proofs.Try.t56.size, Go.Proofs.Try.t56.bytes, match Go.Proofs.Try.t56.zero with | some z => z | none => .bool false, true⟩
noncomputable def d57 : TD := ⟨Go.Proofs.Try.t57.desc, Go.Proofs.Try.t57.size, Go.Proofs.Try.t57.bytes, match Go.Proofs.Try.t57.zero with | some z => z | none => .bool false, true⟩
noncomputable def d58 : TD := ⟨Go.Proofs.Try.t57.desc, Go.Proofs.Try.t58.size, Go.Proofs.Try.t58.bytes, match Go.Proofs.Try.t58.zero with | some z => z | none => .bool false, true⟩
noncomputable def d59 : TD := ⟨Go.Proofs.Try.t59.desc, Go.Proofs.Try.t59.size, Go.Proofs.Try.t59.bytes, match Go.Proofs.Try.t59.zero with | some z => z | none => .bool false, true⟩
noncomputable def d60 : TD := ⟨Go.Proofs.Try.t59.desc, Go.Proofs.Try.t60.size, Go.Proofs.Try.t60.bytes, match Go.Proofs.Try.t60.zero with | some z => z | none => .bool false, true⟩
noncomputable def d63 : TD := ⟨Go.Proofs.Try.t63.desc, Go.Proofs.Try.t63.size, Go.Proofs.Try.t63.bytes, match Go.Proofs.Try.t63.zero with | some z => z | none => .bool false, false⟩
noncomputable def d66 : TD := ⟨Go.Proofs.Try.t66.desc, Go.Proofs.Try.t66.size, Go.Proofs.Try.t66.bytes, match Go.Proofs.Try.t66.zero with | some z => z | none => .bool false, false⟩
noncomputable def d70 : TD := ⟨Go.Proofs.Try.t70.desc, Go.Proofs.Try.t70.size, Go.Proofs.Try.t70.bytes, match Go.Proofs.Try.t70.zero with | some z => z | none => .bool false, false⟩
noncomputable def d71 : TD := ⟨Go.Proofs.Try.t71.desc, Go.Proofs.Try.t71.size, Go.Proofs.Try.t71.bytes, match Go.Proofs.Try.t71.zero with | some z => z | none => .bool false, false⟩
noncomputable def d72 : TD := ⟨Go.Proofs.Try.t72.desc, Go.Proofs.Try.t72.size, Go.Proofs.Try.t72.bytes, match Go.Proofs.Try.t72.zero with | some z => z | none => .bool false, true⟩
noncomputable def d73 : TD := ⟨Go.Proofs.Try.t72.desc, Go.Proofs.Try.t73.size, Go.Proofs.Try.t73.bytes, match Go.Proofs.Try.t73.zero with | some z => z | none => .bool false, true⟩
noncomputable def d75 : TD := ⟨Go.Proofs.Try.t75.desc, Go.Proofs.Try.t75.size, Go.Proofs.Try.t75.bytes, match Go.Proofs.Try.t75.zero with | some z => z | none => .bool false, false⟩
noncomputable def d76 : TD := ⟨Go.Proofs.Try.t76.desc, Go.Proofs.Try.t76.size, Go.Proofs.Try.t76.bytes, match Go.Proofs.Try.t76.zero with | some z => z | none => .bool false, true⟩
noncomputable def d77 : TD := ⟨Go.Proofs.Try.t76.desc, Go.Proofs.Try.t77.size, Go.Proofs.Try.t77.bytes, match Go.Proofs.Try.t77.zero with | some z => z | none => .bool false, true⟩
noncomputable def d87 : TD := ⟨Go.Proofs.Try.t87.desc, Go.Proofs.Try.t87.size, Go.Proofs.Try.t87.bytes, match Go.Proofs.Try.t87.zero with | some z => z | none => .bool false, false⟩
noncomputable def d95 : TD := ⟨Go.Proofs.Try.t95.desc, Go.Proofs.Try.t95.size, Go.Proofs.Try.t95.bytes, match Go.Proofs.Try.t95.zero with | some z => z | none => .bool false, false⟩
noncomputable def d96 : TD := ⟨Go.Proofs.Try.t96.desc, Go.Proofs.Try.t96.size, Go.Proofs.Try.t96.bytes, match Go.Proofs.Try.t96.zero with | some z => z | none => .bool false, true⟩
noncomputable def d97 : TD := ⟨Go.Proofs.Try.t96.desc, Go.Proofs.Try.t97.size, Go.Proofs.Try.t97.bytes, match Go.Proofs.Try.t97.zero with | some z => z | none => .bool false, true⟩
noncomputable def d102 : TD := ⟨Go.Proofs.Try.t102.desc, Go.Proofs.Try.t102.size, Go.Proofs.Try.t102.bytes, match Go.Proofs.Try.t102.zero with | some z => z | none => .bool false, false⟩
noncomputable def d103 : TD := ⟨Go.Proofs.Try.t103.desc, Go.Proofs.Try.t103.size, Go.Proofs.Try.t103.bytes, match Go.Proofs.Try.t103.zero with | some z => z | none => .bool false, false⟩
noncomputable def d104 : TD := ⟨Go.Proofs.Try.t104.desc, Go.Proofs.Try.t104.size, Go.Proofs.Try.t104.bytes, match Go.Proofs.Try.t104.zero with | some z => z | none => .bool false, false⟩
noncomputable def d105 : TD := ⟨Go.Proofs.Try.t105.desc, Go.Proofs.Try.t105.size, Go.Proofs.Try.t105.bytes, match Go.Proofs.Try.t105.zero with | some z => z | none => .bool false, true⟩
noncomputable def d106 : TD := ⟨Go.Proofs.Try.t105.desc, Go.Proofs.Try.t106.size, Go.Proofs.Try.t106.bytes, match Go.Proofs.Try.t106.zero with | some z => z | none => .bool false, true⟩
noncomputable def d109 : TD := ⟨Go.Proofs.Try.t109.desc, Go.Proofs.Try.t109.size, Go.Proofs.Try.t109.bytes, match Go.Proofs.Try.t109.zero with | some z => z | none => .bool false, false⟩
noncomputable def d110 : TD := ⟨Go.Proofs.Try.t110.desc, Go.Proofs.Try.t110.size, Go.Proofs.Try.t110.bytes, match Go.Proofs.Try.t110.zero with | some z => z | none => .bool false, true⟩
noncomputable def d111 : TD := ⟨Go.Proofs.Try.t110.desc, Go.Proofs.Try.t111.size, Go.Proofs.Try.t111.bytes, match Go.Proofs.Try.t111.zero with | some z => z | none => .bool false, true⟩
noncomputable def d147 : TD := ⟨Go.Proofs.Try.t147.desc, Go.Proofs.Try.t147.size, Go.Proofs.Try.t147.bytes, match Go.Proofs.Try.t147.zero with | some z => z | none => .bool false, true⟩
noncomputable def d148 : TD := ⟨Go.Proofs.Try.t147.desc, Go.Proofs.Try.t148.size, Go.Proofs.Try.t148.bytes, match Go.Proofs.Try.t148.zero with | some z => z | none => .bool false, true⟩
noncomputable def d158 : TD := ⟨Go.Proofs.Try.t158.desc, Go.Proofs.Try.t158.size, Go.Proofs.Try.t158.bytes, match Go.Proofs.Try.t158.zero with | some z => z | none => .bool false, false⟩
noncomputable def d184 : TD := ⟨Go.Proofs.Try.t184.desc, Go.Proofs.Try.t184.size, Go.Proofs.Try.t184.bytes, match Go.Proofs.Try.t184.zero with | some z => z | none => .bool false, false⟩
noncomputable def d190 : TD := ⟨Go.Proofs.Try.t190.desc, Go.Proofs.Try.t190.size, Go.Proofs.Try.t190.bytes, match Go.Proofs.Try.t190.zero with | some z => z | none => .bool false, true⟩
noncomputable def d191 : TD := ⟨Go.Proofs.Try.t190.desc, Go.Proofs.Try.t191.size, Go.Proofs.Try.t191.bytes, match Go.Proofs.Try.t191.zero with | some z => z | none => .bool false, true⟩
noncomputable def d200 : TD := ⟨Go.Proofs.Try.t200.desc, Go.Proofs.Try.t200.size, Go.Proofs.Try.t200.bytes, match Go.Proofs.Try.t200.zero with | some z => z | none => .bool false, false⟩
noncomputable def d201 : TD := ⟨Go.Proofs.Try.t200.desc, Go.Proofs.Try.t201.size, Go.Proofs.Try.t201.bytes, match Go.Proofs.Try.t201.zero with | some z => z | none => .bool false, false⟩
noncomputable def d206 : TD := ⟨Go.Proofs.Try.t206.desc, Go.Proofs.Try.t206.size, Go.Proofs.Try.t206.bytes, match Go.Proofs.Try.t206.zero with | some z => z | none => .bool false, false⟩
noncomputable def d212 : TD := ⟨Go.Proofs.Try.t212.desc, Go.Proofs.Try.t212.size, Go.Proofs.Try.t212.bytes, match Go.Proofs.Try.t212.zero with | some z => z | none => .bool false, false⟩
noncomputable def d213 : TD := ⟨Go.Proofs.Try.t213.desc, Go.Proofs.Try.t213.size, Go.Proofs.Try.t213.bytes, match Go.Proofs.Try.t213.zero with | some z => z | none => .bool false, false⟩
noncomputable def d214 : TD := ⟨Go.Proofs.Try.t214.desc, Go.Proofs.Try.t214.size, Go.Proofs.Try.t214.bytes, match Go.Proofs.Try.t214.zero with | some z => z | none => .bool false, false⟩
noncomputable def d215 : TD := ⟨Go.Proofs.Try.t215.desc, Go.Proofs.Try.t215.size, Go.Proofs.Try.t215.bytes, match Go.Proofs.Try.t215.zero with | some z => z | none => .bool false, true⟩
noncomputable def d216 : TD := ⟨Go.Proofs.Try.t215.desc, Go.Proofs.Try.t216.size, Go.Proofs.Try.t216.bytes, match Go.Proofs.Try.t216.zero with | some z => z | none => .bool false, true⟩
noncomputable def d220 : TD := ⟨Go.Proofs.Try.t220.desc, Go.Proofs.Try.t220.size, Go.Proofs.Try.t220.bytes, match Go.Proofs.Try.t220.zero with | some z => z | none => .bool false, false⟩
noncomputable def d239 : TD := ⟨Go.Proofs.Try.t239.desc, Go.Proofs.Try.t239.size, Go.Proofs.Try.t239.bytes, match Go.Proofs.Try.t239.zero with | some z => z | none => .bool false, false⟩
noncomputable def d261 : TD := ⟨Go.Proofs.Try.t261.desc, Go.Proofs.Try.t261.size, Go.Proofs.Try.t261.bytes, match Go.Proofs.Try.t261.zero with | some z => z | none => .bool false, false⟩
noncomputable def d266 : TD := ⟨Go.Proofs.Try.t266.desc, Go.Proofs.Try.t266.size, Go.Proofs.Try.t266.bytes, match Go.Proofs.Try.t266.zero with | some z => z | none => .bool false, false⟩
noncomputable def d270 : TD := ⟨Go.Proofs.Try.t270.desc, Go.Proofs.Try.t270.size, Go.Proofs.Try.t270.bytes, match Go.Proofs.Try.t270.zero with | some z => z | none => .bool false, false⟩
noncomputable def d273 : TD := ⟨Go.Proofs.Try.t273.desc, Go.Proofs.Try.t273.size, Go.Proofs.Try.t273.bytes, match Go.Proofs.Try.t273.zero with | some z => z | none => .bool false, false⟩
noncomputable def d279 : TD := ⟨Go.Proofs.Try.t279.desc, Go.Proofs.Try.t279.size, Go.Proofs.Try.t279.bytes, match Go.Proofs.Try.t279.zero with | some z => z | none => .bool false, false⟩
noncomputable def d282 : TD := ⟨Go.Proofs.Try.t282.desc, Go.Proofs.Try.t282.size, Go.Proofs.Try.t282.bytes, match Go.Proofs.Try.t282.zero with | some z => z | none => .bool false, false⟩
noncomputable def T (t : Nat) : Option TD := match t with
  | 2 => some d2
  | 3 => some d3
  | 4 => some d4
  | 5 => some d5
  | 7 => some d7
  | 9 => some d9
  | 12 => some d12
  | 13 => some d13
  | 15 => some d15
  | 16 => some d16
  | 17 => some d17
  | 18 => some d18
  | 21 => some d21
  | 22 => some d22
  | 23 => some d23
  | 34 => some d34
  | 35 => some d35
  | 36 => some d36
  | 37 => some d37
  | 38 => some d38
  | 39 => some d39
  | 40 => some d40
  | 41 => some d41
  | 42 => some d42
  | 43 => some d43
  | 44 => some d44
  | 45 => some d45
  | 46 => some d46
  | 47 => some d47
  | 50 => some d50
  | 51 => some d51
  | 52 => some d52
  | 53 => some d53
  | 54 => some d54
  | 55 => some d55
  | 56 => some d56
  | 57 => some d57
  | 58 => some d58
  | 59 => some d59
  | 60 => some d60
  | 63 => some d63
  | 66 => some d66
  | 70 => some d70
  | 71 => some d71
  | 72 => some d72
  | 73 => some d73
  | 75 => some d75
  | 76 => some d76
  | 77 => some d77
  | 87 => some d87
  | 95 => some d95
  | 96 => some d96
  | 97 => some d97
  | 102 => some d102
  | 103 => some d103
  | 104 => some d104
  | 105 => some d105
  | 106 => some d106
  | 109 => some d109
  | 110 => some d110
  | 111 => some d111
  | 147 => some d147
  | 148 => some d148
  | 158 => some d158
  | 184 => some d184
  | 190 => some d190
  | 191 => some d191
  | 200 => some d200
  | 201 => some d201
  | 206 => some d206
  | 212 => some d212
  | 213 => some d213
  | 214 => some d214
  | 215 => some d215
  | 216 => some d216
  | 220 => some d220
  | 239 => some d239
  | 261 => some d261
  | 266 => some d266
  | 270 => some d270
  | 273 => some d273
  | 279 => some d279
  | 282 => some d282
  | _ => none
def RowOk (t : Nat) (d : TD) : Prop := Go.Proofs.Try.prog.underlying t = some d.und ∧ (∃ i, Go.Proofs.Try.prog.info? t = some i ∧ i.size = d.size ∧ i.bytes = d.bytes ∧ i.zero = some d.zero) ∧ (∀ x ∈ d.zero.cells.toList, x.oneCell' = true) ∧ (d.eqs = true → Go.Proofs.Try.prog.stoodInHeld t = false ∧ Go.Proofs.Try.prog.eqGuardType Go.Proofs.Try.prog.depth t = false ∧ (fieldsOf d.und).all (fun f => f.name != "_") = true)
theorem ok2 : RowOk 2 d2 := ⟨by kernel_rfl, ⟨Go.Proofs.Try.t2, by kernel_rfl, by kernel_rfl, by kernel_rfl, by kernel_rfl⟩, List.all_eq_true.1 (by kernel_rfl), fun h => by cases h⟩
theorem ok3 : RowOk 3 d3 := ⟨by kernel_rfl, ⟨Go.Proofs.Try.t3, by kernel_rfl, by kernel_rfl, by kernel_rfl, by kernel_rfl⟩, List.all_eq_true.1 (by kernel_rfl), fun h => by cases h⟩
theorem ok4 : RowOk 4 d4 := ⟨by kernel_rfl, ⟨Go.Proofs.Try.t4, by kernel_rfl, by kernel_rfl, by kernel_rfl, by kernel_rfl⟩, List.all_eq_true.1 (by kernel_rfl), fun h => by cases h⟩
theorem ok5 : RowOk 5 d5 := ⟨by kernel_rfl, ⟨Go.Proofs.Try.t5, by kernel_rfl, by kernel_rfl, by kernel_rfl, by kernel_rfl⟩, List.all_eq_true.1 (by kernel_rfl), fun h => by cases h⟩
theorem ok7 : RowOk 7 d7 := ⟨by kernel_rfl, ⟨Go.Proofs.Try.t7, by kernel_rfl, by kernel_rfl, by kernel_rfl, by kernel_rfl⟩, List.all_eq_true.1 (by kernel_rfl), fun h => by cases h⟩
theorem ok9 : RowOk 9 d9 := ⟨by kernel_rfl, ⟨Go.Proofs.Try.t9, by kernel_rfl, by kernel_rfl, by kernel_rfl, by kernel_rfl⟩, List.all_eq_true.1 (by kernel_rfl), fun h => by cases h⟩
theorem ok12 : RowOk 12 d12 := ⟨by kernel_rfl, ⟨Go.Proofs.Try.t12, by kernel_rfl, by kernel_rfl, by kernel_rfl, by kernel_rfl⟩, List.all_eq_true.1 (by kernel_rfl), fun h => by cases h⟩
theorem ok13 : RowOk 13 d13 := ⟨by kernel_rfl, ⟨Go.Proofs.Try.t13, by kernel_rfl, by kernel_rfl, by kernel_rfl, by kernel_rfl⟩, List.all_eq_true.1 (by kernel_rfl), fun h => by cases h⟩
theorem ok15 : RowOk 15 d15 := ⟨by kernel_rfl, ⟨Go.Proofs.Try.t15, by kernel_rfl, by kernel_rfl, by kernel_rfl, by kernel_rfl⟩, List.all_eq_true.1 (by kernel_rfl), fun h => by cases h⟩
theorem ok16 : RowOk 16 d16 := ⟨by kernel_rfl, ⟨Go.Proofs.Try.t16, by kernel_rfl, by kernel_rfl, by kernel_rfl, by kernel_rfl⟩, List.all_eq_true.1 (by kernel_rfl), fun h => by cases h⟩
theorem ok17 : RowOk 17 d17 := ⟨by kernel_rfl, ⟨Go.Proofs.Try.t17, by kernel_rfl, by kernel_rfl, by kernel_rfl, by kernel_rfl⟩, List.all_eq_true.1 (by kernel_rfl), fun h => by cases h⟩
theorem ok18 : RowOk 18 d18 := ⟨by kernel_rfl, ⟨Go.Proofs.Try.t18, by kernel_rfl, by kernel_rfl, by kernel_rfl, by kernel_rfl⟩, List.all_eq_true.1 (by kernel_rfl), fun h => by cases h⟩
theorem ok21 : RowOk 21 d21 := ⟨by kernel_rfl, ⟨Go.Proofs.Try.t21, by kernel_rfl, by kernel_rfl, by kernel_rfl, by kernel_rfl⟩, List.all_eq_true.1 (by kernel_rfl), fun h => by cases h⟩
theorem ok22 : RowOk 22 d22 := ⟨by kernel_rfl, ⟨Go.Proofs.Try.t22, by kernel_rfl, by kernel_rfl, by kernel_rfl, by kernel_rfl⟩, List.all_eq_true.1 (by kernel_rfl), fun h => by cases h⟩
theorem ok23 : RowOk 23 d23 := ⟨by kernel_rfl, ⟨Go.Proofs.Try.t23, by kernel_rfl, by kernel_rfl, by kernel_rfl, by kernel_rfl⟩, List.all_eq_true.1 (by kernel_rfl), fun h => by cases h⟩
theorem ok34 : RowOk 34 d34 := ⟨by kernel_rfl, ⟨Go.Proofs.Try.t34, by kernel_rfl, by kernel_rfl, by kernel_rfl, by kernel_rfl⟩, List.all_eq_true.1 (by kernel_rfl), fun _ => ⟨by kernel_rfl, by kernel_rfl, by kernel_rfl⟩⟩
theorem ok35 : RowOk 35 d35 := ⟨by kernel_rfl, ⟨Go.Proofs.Try.t35, by kernel_rfl, by kernel_rfl, by kernel_rfl, by kernel_rfl⟩, List.all_eq_true.1 (by kernel_rfl), fun _ => ⟨by kernel_rfl, by kernel_rfl, by kernel_rfl⟩⟩
theorem ok36 : RowOk 36 d36 := ⟨by kernel_rfl, ⟨Go.Proofs.Try.t36, by kernel_rfl, by kernel_rfl, by kernel_rfl, by kernel_rfl⟩, List.all_eq_true.1 (by kernel_rfl), fun _ => ⟨by kernel_rfl, by kernel_rfl, by kernel_rfl⟩⟩
theorem ok37 : RowOk 37 d37 := ⟨by kernel_rfl, ⟨Go.Proofs.Try.t37, by kernel_rfl, by kernel_rfl, by kernel_rfl, by kernel_rfl⟩, List.all_eq_true.1 (by kernel_rfl), fun _ => ⟨by kernel_rfl, by kernel_rfl, by kernel_rfl⟩⟩
theorem ok38 : RowOk 38 d38 := ⟨by kernel_rfl, ⟨Go.Proofs.Try.t38, by kernel_rfl, by kernel_rfl, by kernel_rfl, by kernel_rfl⟩, List.all_eq_true.1 (by kernel_rfl), fun _ => ⟨by kernel_rfl, by kernel_rfl, by kernel_rfl⟩⟩
theorem ok39 : RowOk 39 d39 := ⟨by kernel_rfl, ⟨Go.Proofs.Try.t39, by kernel_rfl, by kernel_rfl, by kernel_rfl, by kernel_rfl⟩, List.all_eq_true.1 (by kernel_rfl), fun _ => ⟨by kernel_rfl, by kernel_rfl, by kernel_rfl⟩⟩
theorem ok40 : RowOk 40 d40 := ⟨by kernel_rfl, ⟨Go.Proofs.Try.t40, by kernel_rfl, by kernel_rfl, by kernel_rfl, by kernel_rfl⟩, List.all_eq_true.1 (by kernel_rfl), fun _ => ⟨by kernel_rfl, by kernel_rfl, by kernel_rfl⟩⟩
theorem ok41 : RowOk 41 d41 := ⟨by kernel_rfl, ⟨Go.Proofs.Try.t41, by kernel_rfl, by kernel_rfl, by kernel_rfl, by kernel_rfl⟩, List.all_eq_true.1 (by kernel_rfl), fun _ => ⟨by kernel_rfl, by kernel_rfl, by kernel_rfl⟩⟩
theorem ok42 : RowOk 42 d42 := ⟨by kernel_rfl, ⟨Go.Proofs.Try.t42, by kernel_rfl, by kernel_rfl, by kernel_rfl, by kernel_rfl⟩, List.all_eq_true.1 (by kernel_rfl), fun _ => ⟨by kernel_rfl, by kernel_rfl, by kernel_rfl⟩⟩
theorem ok43 : RowOk 43 d43 := ⟨by kernel_rfl, ⟨Go.Proofs.Try.t43, by kernel_rfl, by kernel_rfl, by kernel_rfl, by kernel_rfl⟩, List.all_eq_true.1 (by kernel_rfl), fun _ => ⟨by kernel_rfl, by kernel_rfl, by kernel_rfl⟩⟩
theorem ok44 : RowOk 44 d44 := ⟨by kernel_rfl, ⟨Go.Proofs.Try.t44, by kernel_rfl, by kernel_rfl, by kernel_rfl, by kernel_rfl⟩, List.all_eq_true.1 (by kernel_rfl), fun _ => ⟨by kernel_rfl, by kernel_rfl, by kernel_rfl⟩⟩
theorem ok45 : RowOk 45 d45 := ⟨by kernel_rfl, ⟨Go.Proofs.Try.t45, by kernel_rfl, by kernel_rfl, by kernel_rfl, by kernel_rfl⟩, List.all_eq_true.1 (by kernel_rfl), fun _ => ⟨by kernel_rfl, by kernel_rfl, by kernel_rfl⟩⟩
theorem ok46 : RowOk 46 d46 := ⟨by kernel_rfl, ⟨Go.Proofs.Try.t46, by kernel_rfl, by kernel_rfl, by kernel_rfl, by kernel_rfl⟩, List.all_eq_true.1 (by kernel_rfl), fun _ => ⟨by kernel_rfl, by kernel_rfl, by kernel_rfl⟩⟩
theorem ok47 : RowOk 47 d47 := ⟨by kernel_rfl, ⟨Go.Proofs.Try.t47, by kernel_rfl, by kernel_rfl, by kernel_rfl, by kernel_rfl⟩, List.all_eq_true.1 (by kernel_rfl), fun _ => ⟨by kernel_rfl, by kernel_rfl, by kernel_rfl⟩⟩
theorem ok50 : RowOk 50 d50 := ⟨by kernel_rfl, ⟨Go.Proofs.Try.t50, by kernel_rfl, by kernel_rfl, by kernel_rfl, by kernel_rfl⟩, List.all_eq_true.1 (by kernel_rfl), fun _ => ⟨by kernel_rfl, by kernel_rfl, by kernel_rfl⟩⟩
theorem ok51 : RowOk 51 d51 := ⟨by kernel_rfl, ⟨Go.Proofs.Try.t51, by kernel_rfl, by kernel_rfl, by kernel_rfl, by kernel_rfl⟩, List.all_eq_true.1 (by kernel_rfl), fun _ => ⟨by kernel_rfl, by kernel_rfl, by kernel_rfl⟩⟩
theorem ok52 : RowOk 52 d52 := ⟨by kernel_rfl, ⟨Go.Proofs.Try.t52, by kernel_rfl, by kernel_rfl, by kernel_rfl, by kernel_rfl⟩, List.all_eq_true.1 (by kernel_rfl), fun _ => ⟨by kernel_rfl, by kernel_rfl, by kernel_rfl⟩⟩
theorem ok53 : RowOk 53 d53 := ⟨by kernel_rfl, ⟨Go.Proofs.Try.t53, by kernel_rfl, by kernel_rfl, by kernel_rfl, by kernel_rfl⟩, List.all_eq_true.1 (by kernel_rfl), fun _ => ⟨by kernel_rfl, by kernel_rfl, by kernel_rfl⟩⟩
theorem ok54 : RowOk 54 d54 := ⟨by kernel_rfl, ⟨Go.Proofs.Try.t54, by kernel_rfl, by kernel_rfl, by kernel_rfl, by kernel_rfl⟩, List.all_eq_true.1 (by kernel_rfl), fun _ => ⟨by kernel_rfl, by kernel_rfl, by kernel_rfl⟩⟩
theorem ok55 : RowOk 55 d55 := ⟨by kernel_rfl, ⟨Go.Proofs.Try.t55, by kernel_rfl, by kernel_rfl, by kernel_rfl, by kernel_rfl⟩, List.all_eq_true.1 (by kernel_rfl), fun _ => ⟨by kernel_rfl, by kernel_rfl, by kernel_rfl⟩⟩
theorem ok56 : RowOk 56 d56 := ⟨by kernel_rfl, ⟨Go.Proofs.Try.t56, by kernel_rfl, by kernel_rfl, by kernel_rfl, by kernel_rfl⟩, List.all_eq_true.1 (by kernel_rfl), fun _ => ⟨by kernel_rfl, by kernel_rfl, by kernel_rfl⟩⟩
theorem ok57 : RowOk 57 d57 := ⟨by kernel_rfl, ⟨Go.Proofs.Try.t57, by kernel_rfl, by kernel_rfl, by kernel_rfl, by kernel_rfl⟩, List.all_eq_true.1 (by kernel_rfl), fun _ => ⟨by kernel_rfl, by kernel_rfl, by kernel_rfl⟩⟩
theorem ok58 : RowOk 58 d58 := ⟨by kernel_rfl, ⟨Go.Proofs.Try.t58, by kernel_rfl, by kernel_rfl, by kernel_rfl, by kernel_rfl⟩, List.all_eq_true.1 (by kernel_rfl), fun _ => ⟨by kernel_rfl, by kernel_rfl, by kernel_rfl⟩⟩
theorem ok59 : RowOk 59 d59 := ⟨by kernel_rfl, ⟨Go.Proofs.Try.t59, by kernel_rfl, by kernel_rfl, by kernel_rfl, by kernel_rfl⟩, List.all_eq_true.1 (by kernel_rfl), fun _ => ⟨by kernel_rfl, by kernel_rfl, by kernel_rfl⟩⟩
theorem ok60 : RowOk 60 d60 := ⟨by kernel_rfl, ⟨Go.Proofs.Try.t60, by kernel_rfl, by kernel_rfl, by kernel_rfl, by kernel_rfl⟩, List.all_eq_true.1 (by kernel_rfl), fun _ => ⟨by kernel_rfl, by kernel_rfl, by kernel_rfl⟩⟩
theorem ok63 : RowOk 63 d63 := ⟨by kernel_rfl, ⟨Go.Proofs.Try.t63, by kernel_rfl, by kernel_rfl, by kernel_rfl, by kernel_rfl⟩, List.all_eq_true.1 (by kernel_rfl), fun h => by cases h⟩
theorem ok66 : RowOk 66 d66 := ⟨by kernel_rfl, ⟨Go.Proofs.Try.t66, by kernel_rfl, by kernel_rfl, by kernel_rfl, by kernel_rfl⟩, List.all_eq_true.1 (by kernel_rfl), fun h => by cases h⟩
theorem ok70 : RowOk 70 d70 := ⟨by kernel_rfl, ⟨Go.Proofs.Try.t70, by kernel_rfl, by kernel_rfl, by kernel_rfl, by kernel_rfl⟩, List.all_eq_true.1 (by kernel_rfl), fun h => by cases h⟩
theorem ok71 : RowOk 71 d71 := ⟨by kernel_rfl, ⟨Go.Proofs.Try.t71, by kernel_rfl, by kernel_rfl, by kernel_rfl, by kernel_rfl⟩, List.all_eq_true.1 (by kernel_rfl), fun h => by cases h⟩
theorem ok72 : RowOk 72 d72 := ⟨by kernel_rfl, ⟨Go.Proofs.Try.t72, by kernel_rfl, by kernel_rfl, by kernel_rfl, by kernel_rfl⟩, List.all_eq_true.1 (by kernel_rfl), fun _ => ⟨by kernel_rfl, by kernel_rfl, by kernel_rfl⟩⟩
theorem ok73 : RowOk 73 d73 := ⟨by kernel_rfl, ⟨Go.Proofs.Try.t73, by kernel_rfl, by kernel_rfl, by kernel_rfl, by kernel_rfl⟩, List.all_eq_true.1 (by kernel_rfl), fun _ => ⟨by kernel_rfl, by kernel_rfl, by kernel_rfl⟩⟩
theorem ok75 : RowOk 75 d75 := ⟨by kernel_rfl, ⟨Go.Proofs.Try.t75, by kernel_rfl, by kernel_rfl, by kernel_rfl, by kernel_rfl⟩, List.all_eq_true.1 (by kernel_rfl), fun h => by cases h⟩
theorem ok76 : RowOk 76 d76 := ⟨by kernel_rfl, ⟨Go.Proofs.Try.t76, by kernel_rfl, by kernel_rfl, by kernel_rfl, by kernel_rfl⟩, List.all_eq_true.1 (by kernel_rfl), fun _ => ⟨by kernel_rfl, by kernel_rfl, by kernel_rfl⟩⟩
theorem ok77 : RowOk 77 d77 := ⟨by kernel_rfl, ⟨Go.Proofs.Try.t77, by kernel_rfl, by kernel_rfl, by kernel_rfl, by kernel_rfl⟩, List.all_eq_true.1 (by kernel_rfl), fun _ => ⟨by kernel_rfl, by kernel_rfl, by kernel_rfl⟩⟩
theorem ok87 : RowOk 87 d87 := ⟨by kernel_rfl, ⟨Go.Proofs.Try.t87, by kernel_rfl, by kernel_rfl, by kernel_rfl, by kernel_rfl⟩, List.all_eq_true.1 (by kernel_rfl), fun h => by cases h⟩
theorem ok95 : RowOk 95 d95 := ⟨by kernel_rfl, ⟨Go.Proofs.Try.t95, by kernel_rfl, by kernel_rfl, by kernel_rfl, by kernel_rfl⟩, List.all_eq_true.1 (by kernel_rfl), fun h => by cases h⟩
theorem ok96 : RowOk 96 d96 := ⟨by kernel_rfl, ⟨Go.Proofs.Try.t96, by kernel_rfl, by kernel_rfl, by kernel_rfl, by kernel_rfl⟩, List.all_eq_true.1 (by kernel_rfl), fun _ => ⟨by kernel_rfl, by kernel_rfl, by kernel_rfl⟩⟩
theorem ok97 : RowOk 97 d97 := ⟨by kernel_rfl, ⟨Go.Proofs.Try.t97, by kernel_rfl, by kernel_rfl, by kernel_rfl, by kernel_rfl⟩, List.all_eq_true.1 (by kernel_rfl), fun _ => ⟨by kernel_rfl, by kernel_rfl, by kernel_rfl⟩⟩
theorem ok102 : RowOk 102 d102 := ⟨by kernel_rfl, ⟨Go.Proofs.Try.t102, by kernel_rfl, by kernel_rfl, by kernel_rfl, by kernel_rfl⟩, List.all_eq_true.1 (by kernel_rfl), fun h => by cases h⟩
theorem ok103 : RowOk 103 d103 := ⟨by kernel_rfl, ⟨Go.Proofs.Try.t103, by kernel_rfl, by kernel_rfl, by kernel_rfl, by kernel_rfl⟩, List.all_eq_true.1 (by kernel_rfl), fun h => by cases h⟩
theorem ok104 : RowOk 104 d104 := ⟨by kernel_rfl, ⟨Go.Proofs.Try.t104, by kernel_rfl, by kernel_rfl, by kernel_rfl, by kernel_rfl⟩, List.all_eq_true.1 (by kernel_rfl), fun h => by cases h⟩
theorem ok105 : RowOk 105 d105 := ⟨by kernel_rfl, ⟨Go.Proofs.Try.t105, by kernel_rfl, by kernel_rfl, by kernel_rfl, by kernel_rfl⟩, List.all_eq_true.1 (by kernel_rfl), fun _ => ⟨by kernel_rfl, by kernel_rfl, by kernel_rfl⟩⟩
theorem ok106 : RowOk 106 d106 := ⟨by kernel_rfl, ⟨Go.Proofs.Try.t106, by kernel_rfl, by kernel_rfl, by kernel_rfl, by kernel_rfl⟩, List.all_eq_true.1 (by kernel_rfl), fun _ => ⟨by kernel_rfl, by kernel_rfl, by kernel_rfl⟩⟩
theorem ok109 : RowOk 109 d109 := ⟨by kernel_rfl, ⟨Go.Proofs.Try.t109, by kernel_rfl, by kernel_rfl, by kernel_rfl, by kernel_rfl⟩, List.all_eq_true.1 (by kernel_rfl), fun h => by cases h⟩
theorem ok110 : RowOk 110 d110 := ⟨by kernel_rfl, ⟨Go.Proofs.Try.t110, by kernel_rfl, by kernel_rfl, by kernel_rfl, by kernel_rfl⟩, List.all_eq_true.1 (by kernel_rfl), fun _ => ⟨by kernel_rfl, by kernel_rfl, by kernel_rfl⟩⟩
theorem ok111 : RowOk 111 d111 := ⟨by kernel_rfl, ⟨Go.Proofs.Try.t111, by kernel_rfl, by kernel_rfl, by kernel_rfl, by kernel_rfl⟩, List.all_eq_true.1 (by kernel_rfl), fun _ => ⟨by kernel_rfl, by kernel_rfl, by kernel_rfl⟩⟩
theorem ok147 : RowOk 147 d147 := ⟨by kernel_rfl, ⟨Go.Proofs.Try.t147, by kernel_rfl, by kernel_rfl, by kernel_rfl, by kernel_rfl⟩, List.all_eq_true.1 (by kernel_rfl), fun _ => ⟨by kernel_rfl, by kernel_rfl, by kernel_rfl⟩⟩
theorem ok148 : RowOk 148 d148 := ⟨by kernel_rfl, ⟨Go.Proofs.Try.t148, by kernel_rfl, by kernel_rfl, by kernel_rfl, by kernel_rfl⟩, List.all_eq_true.1 (by kernel_rfl), fun _ => ⟨by kernel_rfl, by kernel_rfl, by kernel_rfl⟩⟩
theorem ok158 : RowOk 158 d158 := ⟨by kernel_rfl, ⟨Go.Proofs.Try.t158, by kernel_rfl, by kernel_rfl, by kernel_rfl, by kernel_rfl⟩, List.all_eq_true.1 (by kernel_rfl), fun h => by cases h⟩
theorem ok184 : RowOk 184 d184 := ⟨by kernel_rfl, ⟨Go.Proofs.Try.t184, by kernel_rfl, by kernel_rfl, by kernel_rfl, by kernel_rfl⟩, List.all_eq_true.1 (by kernel_rfl), fun h => by cases h⟩
theorem ok190 : RowOk 190 d190 := ⟨by kernel_rfl, ⟨Go.Proofs.Try.t190, by kernel_rfl, by kernel_rfl, by kernel_rfl, by kernel_rfl⟩, List.all_eq_true.1 (by kernel_rfl), fun _ => ⟨by kernel_rfl, by kernel_rfl, by kernel_rfl⟩⟩
theorem ok191 : RowOk 191 d191 := ⟨by kernel_rfl, ⟨Go.Proofs.Try.t191, by kernel_rfl, by kernel_rfl, by kernel_rfl, by kernel_rfl⟩, List.all_eq_true.1 (by kernel_rfl), fun _ => ⟨by kernel_rfl, by kernel_rfl, by kernel_rfl⟩⟩
theorem ok200 : RowOk 200 d200 := ⟨by kernel_rfl, ⟨Go.Proofs.Try.t200, by kernel_rfl, by kernel_rfl, by kernel_rfl, by kernel_rfl⟩, List.all_eq_true.1 (by kernel_rfl), fun h => by cases h⟩
theorem ok201 : RowOk 201 d201 := ⟨by kernel_rfl, ⟨Go.Proofs.Try.t201, by kernel_rfl, by kernel_rfl, by kernel_rfl, by kernel_rfl⟩, List.all_eq_true.1 (by kernel_rfl), fun h => by cases h⟩
theorem ok206 : RowOk 206 d206 := ⟨by kernel_rfl, ⟨Go.Proofs.Try.t206, by kernel_rfl, by kernel_rfl, by kernel_rfl, by kernel_rfl⟩, List.all_eq_true.1 (by kernel_rfl), fun h => by cases h⟩
theorem ok212 : RowOk 212 d212 := ⟨by kernel_rfl, ⟨Go.Proofs.Try.t212, by kernel_rfl, by kernel_rfl, by kernel_rfl, by kernel_rfl⟩, List.all_eq_true.1 (by kernel_rfl), fun h => by cases h⟩
theorem ok213 : RowOk 213 d213 := ⟨by kernel_rfl, ⟨Go.Proofs.Try.t213, by kernel_rfl, by kernel_rfl, by kernel_rfl, by kernel_rfl⟩, List.all_eq_true.1 (by kernel_rfl), fun h => by cases h⟩
theorem ok214 : RowOk 214 d214 := ⟨by kernel_rfl, ⟨Go.Proofs.Try.t214, by kernel_rfl, by kernel_rfl, by kernel_rfl, by kernel_rfl⟩, List.all_eq_true.1 (by kernel_rfl), fun h => by cases h⟩
theorem ok215 : RowOk 215 d215 := ⟨by kernel_rfl, ⟨Go.Proofs.Try.t215, by kernel_rfl, by kernel_rfl, by kernel_rfl, by kernel_rfl⟩, List.all_eq_true.1 (by kernel_rfl), fun _ => ⟨by kernel_rfl, by kernel_rfl, by kernel_rfl⟩⟩
theorem ok216 : RowOk 216 d216 := ⟨by kernel_rfl, ⟨Go.Proofs.Try.t216, by kernel_rfl, by kernel_rfl, by kernel_rfl, by kernel_rfl⟩, List.all_eq_true.1 (by kernel_rfl), fun _ => ⟨by kernel_rfl, by kernel_rfl, by kernel_rfl⟩⟩
theorem ok220 : RowOk 220 d220 := ⟨by kernel_rfl, ⟨Go.Proofs.Try.t220, by kernel_rfl, by kernel_rfl, by kernel_rfl, by kernel_rfl⟩, List.all_eq_true.1 (by kernel_rfl), fun h => by cases h⟩
theorem ok239 : RowOk 239 d239 := ⟨by kernel_rfl, ⟨Go.Proofs.Try.t239, by kernel_rfl, by kernel_rfl, by kernel_rfl, by kernel_rfl⟩, List.all_eq_true.1 (by kernel_rfl), fun h => by cases h⟩
theorem ok261 : RowOk 261 d261 := ⟨by kernel_rfl, ⟨Go.Proofs.Try.t261, by kernel_rfl, by kernel_rfl, by kernel_rfl, by kernel_rfl⟩, List.all_eq_true.1 (by kernel_rfl), fun h => by cases h⟩
theorem ok266 : RowOk 266 d266 := ⟨by kernel_rfl, ⟨Go.Proofs.Try.t266, by kernel_rfl, by kernel_rfl, by kernel_rfl, by kernel_rfl⟩, List.all_eq_true.1 (by kernel_rfl), fun h => by cases h⟩
theorem ok270 : RowOk 270 d270 := ⟨by kernel_rfl, ⟨Go.Proofs.Try.t270, by kernel_rfl, by kernel_rfl, by kernel_rfl, by kernel_rfl⟩, List.all_eq_true.1 (by kernel_rfl), fun h => by cases h⟩
theorem ok273 : RowOk 273 d273 := ⟨by kernel_rfl, ⟨Go.Proofs.Try.t273, by kernel_rfl, by kernel_rfl, by kernel_rfl, by kernel_rfl⟩, List.all_eq_true.1 (by kernel_rfl), fun h => by cases h⟩
theorem ok279 : RowOk 279 d279 := ⟨by kernel_rfl, ⟨Go.Proofs.Try.t279, by kernel_rfl, by kernel_rfl, by kernel_rfl, by kernel_rfl⟩, List.all_eq_true.1 (by kernel_rfl), fun h => by cases h⟩
theorem ok282 : RowOk 282 d282 := ⟨by kernel_rfl, ⟨Go.Proofs.Try.t282, by kernel_rfl, by kernel_rfl, by kernel_rfl, by kernel_rfl⟩, List.all_eq_true.1 (by kernel_rfl), fun h => by cases h⟩
theorem tok : TOk Go.Proofs.Try.prog T := by
  intro t d h
  unfold T at h
  split at h <;> first | (cases h; done) | (injection h with h; subst h; first | exact ok2 | exact ok3 | exact ok4 | exact ok5 | exact ok7 | exact ok9 | exact ok12 | exact ok13 | exact ok15 | exact ok16 | exact ok17 | exact ok18 | exact ok21 | exact ok22 | exact ok23 | exact ok34 | exact ok35 | exact ok36 | exact ok37 | exact ok38 | exact ok39 | exact ok40 | exact ok41 | exact ok42 | exact ok43 | exact ok44 | exact ok45 | exact ok46 | exact ok47 | exact ok50 | exact ok51 | exact ok52 | exact ok53 | exact ok54 | exact ok55 | exact ok56 | exact ok57 | exact ok58 | exact ok59 | exact ok60 | exact ok63 | exact ok66 | exact ok70 | exact ok71 | exact ok72 | exact ok73 | exact ok75 | exact ok76 | exact ok77 | exact ok87 | exact ok95 | exact ok96 | exact ok97 | exact ok102 | exact ok103 | exact ok104 | exact ok105 | exact ok106 | exact ok109 | exact ok110 | exact ok111 | exact ok147 | exact ok148 | exact ok158 | exact ok184 | exact ok190 | exact ok191 | exact ok200 | exact ok201 | exact ok206 | exact ok212 | exact ok213 | exact ok214 | exact ok215 | exact ok216 | exact ok220 | exact ok239 | exact ok261 | exact ok266 | exact ok270 | exact ok273 | exact ok279 | exact ok282)
end Go.Proofs.Ytnmfighfidaglaa.AM
