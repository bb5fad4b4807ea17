/-
  THE TABLE OF TYPES of the seat. No condition.
-/
import Derived.Test.YtpobpihakgegbaaGreatAmE
import Derived.Test.YtpobpihakgegbaaGreatProg
import Derived.KernelRfl
namespace Go.Proofs.YtpobpihakgegbaaGreat.AM
open Go Go.Proofs Go.RowKit
set_option linter.unusedVariables false
set_option linter.unusedSimpArgs false
set_option maxRecDepth 100000

theorem ex60 : ∃ z, Go.Proofs.Tryz.t60.zero = some z := ⟨_, rfl⟩
noncomputable def z60 : Value := Classical.choose ex60
theorem zq60 : Go.Proofs.Tryz.t60.zero = some z60 := Classical.choose_spec ex60
theorem zf60 : z60.cells = Array.replicate 80 (.bool false) := by
  have h : Go.Proofs.Tryz.t60.zero.map Value.cells = some (Array.replicate 80 (.bool false)) := by kernel_rfl
  rw [zq60, Option.map_some] at h
  exact Option.some.inj h
theorem zo60 : ∀ x ∈ z60.cells.toList, x.oneCell' = true := by
  rw [zf60, Array.toList_replicate]
  intro x hx
  rw [List.eq_of_mem_replicate hx]; rfl
noncomputable def d60 : TD := ⟨Go.Proofs.Tryz.t60.desc, Go.Proofs.Tryz.t60.size, Go.Proofs.Tryz.t60.bytes, z60, true⟩
theorem ex61 : ∃ z, Go.Proofs.Tryz.t61.zero = some z := ⟨_, rfl⟩
noncomputable def z61 : Value := Classical.choose ex61
theorem zq61 : Go.Proofs.Tryz.t61.zero = some z61 := Classical.choose_spec ex61
theorem zf61 : z61.cells = Array.replicate 6400 (.bool false) := by
  have h : Go.Proofs.Tryz.t61.zero.map Value.cells = some (Array.replicate 6400 (.bool false)) := by kernel_rfl
  rw [zq61, Option.map_some] at h
  exact Option.some.inj h
theorem zo61 : ∀ x ∈ z61.cells.toList, x.oneCell' = true := by
  rw [zf61, Array.toList_replicate]
  intro x hx
  rw [List.eq_of_mem_replicate hx]; rfl
noncomputable def d61 : TD := ⟨Go.Proofs.Tryz.t61.desc, Go.Proofs.Tryz.t61.size, Go.Proofs.Tryz.t61.bytes, z61, true⟩
theorem ex62 : ∃ z, Go.Proofs.Tryz.t62.zero = some z := ⟨_, rfl⟩
noncomputable def z62 : Value := Classical.choose ex62
theorem zq62 : Go.Proofs.Tryz.t62.zero = some z62 := Classical.choose_spec ex62
theorem zf62 : z62.cells = Array.replicate 6400 (.bool false) := by
  have h : Go.Proofs.Tryz.t62.zero.map Value.cells = some (Array.replicate 6400 (.bool false)) := by kernel_rfl
  rw [zq62, Option.map_some] at h
  exact Option.some.inj h
theorem zo62 : ∀ x ∈ z62.cells.toList, x.oneCell' = true := by
  rw [zf62, Array.toList_replicate]
  intro x hx
  rw [List.eq_of_mem_replicate hx]; rfl
noncomputable def d62 : TD := ⟨Go.Proofs.Tryz.t61.desc, Go.Proofs.Tryz.t62.size, Go.Proofs.Tryz.t62.bytes, z62, true⟩
noncomputable def d2 : TD := ⟨Go.Proofs.Tryz.t2.desc, Go.Proofs.Tryz.t2.size, Go.Proofs.Tryz.t2.bytes, match Go.Proofs.Tryz.t2.zero with | some z => z | none => .bool false, false⟩
noncomputable def d3 : TD := ⟨Go.Proofs.Tryz.t3.desc, Go.Proofs.Tryz.t3.size, Go.Proofs.Tryz.t3.bytes, match Go.Proofs.Tryz.t3.zero with | some z => z | none => .bool false, false⟩
noncomputable def d4 : TD := ⟨Go.Proofs.Tryz.t4.desc, Go.Proofs.Tryz.t4.size, Go.Proofs.Tryz.t4.bytes, match Go.Proofs.Tryz.t4.zero with | some z => z | none => .bool false, false⟩
noncomputable def d5 : TD := ⟨Go.Proofs.Tryz.t5.desc, Go.Proofs.Tryz.t5.size, Go.Proofs.Tryz.t5.bytes, match Go.Proofs.Tryz.t5.zero with | some z => z | none => .bool false, false⟩
noncomputable def d7 : TD := ⟨Go.Proofs.Tryz.t7.desc, Go.Proofs.Tryz.t7.size, Go.Proofs.Tryz.t7.bytes, match Go.Proofs.Tryz.t7.zero with | some z => z | none => .bool false, false⟩
noncomputable def d9 : TD := ⟨Go.Proofs.Tryz.t9.desc, Go.Proofs.Tryz.t9.size, Go.Proofs.Tryz.t9.bytes, match Go.Proofs.Tryz.t9.zero with | some z => z | none => .bool false, false⟩
noncomputable def d12 : TD := ⟨Go.Proofs.Tryz.t12.desc, Go.Proofs.Tryz.t12.size, Go.Proofs.Tryz.t12.bytes, match Go.Proofs.Tryz.t12.zero with | some z => z | none => .bool false, false⟩
noncomputable def d13 : TD := ⟨Go.Proofs.Tryz.t13.desc, Go.Proofs.Tryz.t13.size, Go.Proofs.Tryz.t13.bytes, match Go.Proofs.Tryz.t13.zero with | some z => z | none => .bool false, false⟩
noncomputable def d15 : TD := ⟨Go.Proofs.Tryz.t15.desc, Go.Proofs.Tryz.t15.size, Go.Proofs.Tryz.t15.bytes, match Go.Proofs.Tryz.t15.zero with | some z => z | none => .bool false, false⟩
noncomputable def d16 : TD := ⟨Go.Proofs.Tryz.t16.desc, Go.Proofs.Tryz.t16.size, Go.Proofs.Tryz.t16.bytes, match Go.Proofs.Tryz.t16.zero with | some z => z | none => .bool false, false⟩
noncomputable def d17 : TD := ⟨Go.Proofs.Tryz.t17.desc, Go.Proofs.Tryz.t17.size, Go.Proofs.Tryz.t17.bytes, match Go.Proofs.Tryz.t17.zero with | some z => z | none => .bool false, false⟩
noncomputable def d18 : TD := ⟨Go.Proofs.Tryz.t18.desc, Go.Proofs.Tryz.t18.size, Go.Proofs.Tryz.t18.bytes, match Go.Proofs.Tryz.t18.zero with | some z => z | none => .bool false, false⟩
noncomputable def d21 : TD := ⟨Go.Proofs.Tryz.t21.desc, Go.Proofs.Tryz.t21.size, Go.Proofs.Tryz.t21.bytes, match Go.Proofs.Tryz.t21.zero with | some z => z | none => .bool false, false⟩
noncomputable def d22 : TD := ⟨Go.Proofs.Tryz.t22.desc, Go.Proofs.Tryz.t22.size, Go.Proofs.Tryz.t22.bytes, match Go.Proofs.Tryz.t22.zero with | some z => z | none => .bool false, false⟩
noncomputable def d23 : TD := ⟨Go.Proofs.Tryz.t23.desc, Go.Proofs.Tryz.t23.size, Go.Proofs.Tryz.t23.bytes, match Go.Proofs.Tryz.t23.zero with | some z => z | none => .bool false, true⟩
noncomputable def d24 : TD := ⟨Go.Proofs.Tryz.t23.desc, Go.Proofs.Tryz.t24.size, Go.Proofs.Tryz.t24.bytes, match Go.Proofs.Tryz.t24.zero with | some z => z | none => .bool false, true⟩
noncomputable def d25 : TD := ⟨Go.Proofs.Tryz.t25.desc, Go.Proofs.Tryz.t25.size, Go.Proofs.Tryz.t25.bytes, match Go.Proofs.Tryz.t25.zero with | some z => z | none => .bool false, true⟩
noncomputable def d26 : TD := ⟨Go.Proofs.Tryz.t25.desc, Go.Proofs.Tryz.t26.size, Go.Proofs.Tryz.t26.bytes, match Go.Proofs.Tryz.t26.zero with | some z => z | none => .bool false, true⟩
noncomputable def d28 : TD := ⟨Go.Proofs.Tryz.t28.desc, Go.Proofs.Tryz.t28.size, Go.Proofs.Tryz.t28.bytes, match Go.Proofs.Tryz.t28.zero with | some z => z | none => .bool false, false⟩
noncomputable def d31 : TD := ⟨Go.Proofs.Tryz.t31.desc, Go.Proofs.Tryz.t31.size, Go.Proofs.Tryz.t31.bytes, match Go.Proofs.Tryz.t31.zero with | some z => z | none => .bool false, false⟩
noncomputable def d32 : TD := ⟨Go.Proofs.Tryz.t32.desc, Go.Proofs.Tryz.t32.size, Go.Proofs.Tryz.t32.bytes, match Go.Proofs.Tryz.t32.zero with | some z => z | none => .bool false, true⟩
noncomputable def d33 : TD := ⟨Go.Proofs.Tryz.t32.desc, Go.Proofs.Tryz.t33.size, Go.Proofs.Tryz.t33.bytes, match Go.Proofs.Tryz.t33.zero with | some z => z | none => .bool false, true⟩
noncomputable def d35 : TD := ⟨Go.Proofs.Tryz.t25.desc, Go.Proofs.Tryz.t35.size, Go.Proofs.Tryz.t35.bytes, match Go.Proofs.Tryz.t35.zero with | some z => z | none => .bool false, true⟩
noncomputable def d43 : TD := ⟨Go.Proofs.Tryz.t43.desc, Go.Proofs.Tryz.t43.size, Go.Proofs.Tryz.t43.bytes, match Go.Proofs.Tryz.t43.zero with | some z => z | none => .bool false, false⟩
noncomputable def d44 : TD := ⟨Go.Proofs.Tryz.t44.desc, Go.Proofs.Tryz.t44.size, Go.Proofs.Tryz.t44.bytes, match Go.Proofs.Tryz.t44.zero with | some z => z | none => .bool false, false⟩
noncomputable def d48 : TD := ⟨Go.Proofs.Tryz.t48.desc, Go.Proofs.Tryz.t48.size, Go.Proofs.Tryz.t48.bytes, match Go.Proofs.Tryz.t48.zero with | some z => z | none => .bool false, false⟩
noncomputable def d49 : TD := ⟨Go.Proofs.Tryz.t49.desc, Go.Proofs.Tryz.t49.size, Go.Proofs.Tryz.t49.bytes, match Go.Proofs.Tryz.t49.zero with | some z => z | none => .bool false, true⟩
noncomputable def d50 : TD := ⟨Go.Proofs.Tryz.t49.desc, Go.Proofs.Tryz.t50.size, Go.Proofs.Tryz.t50.bytes, match Go.Proofs.Tryz.t50.zero with | some z => z | none => .bool false, true⟩
noncomputable def d51 : TD := ⟨Go.Proofs.Tryz.t51.desc, Go.Proofs.Tryz.t51.size, Go.Proofs.Tryz.t51.bytes, match Go.Proofs.Tryz.t51.zero with | some z => z | none => .bool false, true⟩
noncomputable def d52 : TD := ⟨Go.Proofs.Tryz.t51.desc, Go.Proofs.Tryz.t52.size, Go.Proofs.Tryz.t52.bytes, match Go.Proofs.Tryz.t52.zero with | some z => z | none => .bool false, true⟩
noncomputable def d56 : TD := ⟨Go.Proofs.Tryz.t56.desc, Go.Proofs.Tryz.t56.size, Go.Proofs.Tryz.t56.bytes, match Go.Proofs.Tryz.t56.zero with | some z => z | none => .bool false, false⟩
noncomputable def d59 : TD := ⟨Go.Proofs.Tryz.t59.desc, Go.Proofs.Tryz.t59.size, Go.Proofs.Tryz.t59.bytes, match Go.Proofs.Tryz.t59.zero with | some z => z | none => .bool false, false⟩
noncomputable def d64 : TD := ⟨Go.Proofs.Tryz.t64.desc, Go.Proofs.Tryz.t64.size, Go.Proofs.Tryz.t64.bytes, match Go.Proofs.Tryz.t64.zero with | some z => z | none => .bool false, false⟩
noncomputable def d71 : TD := ⟨Go.Proofs.Tryz.t71.desc, Go.Proofs.Tryz.t71.size, Go.Proofs.Tryz.t71.bytes, match Go.Proofs.Tryz.t71.zero with | some z => z | none => .bool false, false⟩
noncomputable def d72 : TD := ⟨Go.Proofs.Tryz.t72.desc, Go.Proofs.Tryz.t72.size, Go.Proofs.Tryz.t72.bytes, match Go.Proofs.Tryz.t72.zero with | some z => z | none => .bool false, false⟩
noncomputable def d73 : TD := ⟨Go.Proofs.Tryz.t73.desc, Go.Proofs.Tryz.t73.size, Go.Proofs.Tryz.t73.bytes, match Go.Proofs.Tryz.t73.zero with | some z => z | none => .bool false, false⟩
noncomputable def d74 : TD := ⟨Go.Proofs.Tryz.t74.desc, Go.Proofs.Tryz.t74.size, Go.Proofs.Tryz.t74.bytes, match Go.Proofs.Tryz.t74.zero with | some z => z | none => .bool false, true⟩
noncomputable def d75 : TD := ⟨Go.Proofs.Tryz.t74.desc, Go.Proofs.Tryz.t75.size, Go.Proofs.Tryz.t75.bytes, match Go.Proofs.Tryz.t75.zero with | some z => z | none => .bool false, true⟩
noncomputable def d82 : TD := ⟨Go.Proofs.Tryz.t82.desc, Go.Proofs.Tryz.t82.size, Go.Proofs.Tryz.t82.bytes, match Go.Proofs.Tryz.t82.zero with | some z => z | none => .bool false, false⟩
noncomputable def d85 : TD := ⟨Go.Proofs.Tryz.t85.desc, Go.Proofs.Tryz.t85.size, Go.Proofs.Tryz.t85.bytes, match Go.Proofs.Tryz.t85.zero with | some z => z | none => .bool false, false⟩
noncomputable def d86 : TD := ⟨Go.Proofs.Tryz.t86.desc, Go.Proofs.Tryz.t86.size, Go.Proofs.Tryz.t86.bytes, match Go.Proofs.Tryz.t86.zero with | some z => z | none => .bool false, false⟩
noncomputable def d87 : TD := ⟨Go.Proofs.Tryz.t87.desc, Go.Proofs.Tryz.t87.size, Go.Proofs.Tryz.t87.bytes, match Go.Proofs.Tryz.t87.zero with | some z => z | none => .bool false, true⟩
noncomputable def d88 : TD := ⟨Go.Proofs.Tryz.t87.desc, Go.Proofs.Tryz.t88.size, Go.Proofs.Tryz.t88.bytes, match Go.Proofs.Tryz.t88.zero with | some z => z | none => .bool false, true⟩
noncomputable def d93 : TD := ⟨Go.Proofs.Tryz.t93.desc, Go.Proofs.Tryz.t93.size, Go.Proofs.Tryz.t93.bytes, match Go.Proofs.Tryz.t93.zero with | some z => z | none => .bool false, true⟩
noncomputable def d94 : TD := ⟨Go.Proofs.Tryz.t93.desc, Go.Proofs.Tryz.t94.size, Go.Proofs.Tryz.t94.bytes, match Go.Proofs.Tryz.t94.zero with | some z => z | none => .bool false, true⟩
noncomputable def d95 : TD := ⟨Go.Proofs.Tryz.t95.desc, Go.Proofs.Tryz.t95.size, Go.Proofs.Tryz.t95.bytes, match Go.Proofs.Tryz.t95.zero with | some z => z | none => .bool false, true⟩
noncomputable def d96 : TD := ⟨Go.Proofs.Tryz.t95.desc, Go.Proofs.Tryz.t96.size, Go.Proofs.Tryz.t96.bytes, match Go.Proofs.Tryz.t96.zero with | some z => z | none => .bool false, true⟩
noncomputable def d109 : TD := ⟨Go.Proofs.Tryz.t109.desc, Go.Proofs.Tryz.t109.size, Go.Proofs.Tryz.t109.bytes, match Go.Proofs.Tryz.t109.zero with | some z => z | none => .bool false, true⟩
noncomputable def d110 : TD := ⟨Go.Proofs.Tryz.t109.desc, Go.Proofs.Tryz.t110.size, Go.Proofs.Tryz.t110.bytes, match Go.Proofs.Tryz.t110.zero with | some z => z | none => .bool false, true⟩
noncomputable def d118 : TD := ⟨Go.Proofs.Tryz.t118.desc, Go.Proofs.Tryz.t118.size, Go.Proofs.Tryz.t118.bytes, match Go.Proofs.Tryz.t118.zero with | some z => z | none => .bool false, false⟩
noncomputable def d120 : TD := ⟨Go.Proofs.Tryz.t120.desc, Go.Proofs.Tryz.t120.size, Go.Proofs.Tryz.t120.bytes, match Go.Proofs.Tryz.t120.zero with | some z => z | none => .bool false, false⟩
noncomputable def d121 : TD := ⟨Go.Proofs.Tryz.t120.desc, Go.Proofs.Tryz.t121.size, Go.Proofs.Tryz.t121.bytes, match Go.Proofs.Tryz.t121.zero with | some z => z | none => .bool false, false⟩
noncomputable def d123 : TD := ⟨Go.Proofs.Tryz.t123.desc, Go.Proofs.Tryz.t123.size, Go.Proofs.Tryz.t123.bytes, match Go.Proofs.Tryz.t123.zero with | some z => z | none => .bool false, true⟩
noncomputable def d124 : TD := ⟨Go.Proofs.Tryz.t123.desc, Go.Proofs.Tryz.t124.size, Go.Proofs.Tryz.t124.bytes, match Go.Proofs.Tryz.t124.zero with | some z => z | none => .bool false, true⟩
noncomputable def d125 : TD := ⟨Go.Proofs.Tryz.t125.desc, Go.Proofs.Tryz.t125.size, Go.Proofs.Tryz.t125.bytes, match Go.Proofs.Tryz.t125.zero with | some z => z | none => .bool false, true⟩
noncomputable def d126 : TD := ⟨Go.Proofs.Tryz.t125.desc, Go.Proofs.Tryz.t126.size, Go.Proofs.Tryz.t126.bytes, match Go.Proofs.Tryz.t126.zero with | some z => z | none => .bool false, true⟩
noncomputable def d133 : TD := ⟨Go.Proofs.Tryz.t133.desc, Go.Proofs.Tryz.t133.size, Go.Proofs.Tryz.t133.bytes, match Go.Proofs.Tryz.t133.zero with | some z => z | none => .bool false, false⟩
noncomputable def d135 : TD := ⟨Go.Proofs.Tryz.t123.desc, Go.Proofs.Tryz.t135.size, Go.Proofs.Tryz.t135.bytes, match Go.Proofs.Tryz.t135.zero with | some z => z | none => .bool false, true⟩
noncomputable def d136 : TD := ⟨Go.Proofs.Tryz.t136.desc, Go.Proofs.Tryz.t136.size, Go.Proofs.Tryz.t136.bytes, match Go.Proofs.Tryz.t136.zero with | some z => z | none => .bool false, true⟩
noncomputable def d137 : TD := ⟨Go.Proofs.Tryz.t136.desc, Go.Proofs.Tryz.t137.size, Go.Proofs.Tryz.t137.bytes, match Go.Proofs.Tryz.t137.zero with | some z => z | none => .bool false, true⟩
noncomputable def d145 : TD := ⟨Go.Proofs.Tryz.t145.desc, Go.Proofs.Tryz.t145.size, Go.Proofs.Tryz.t145.bytes, match Go.Proofs.Tryz.t145.zero with | some z => z | none => .bool false, true⟩
noncomputable def d146 : TD := ⟨Go.Proofs.Tryz.t145.desc, Go.Proofs.Tryz.t146.size, Go.Proofs.Tryz.t146.bytes, match Go.Proofs.Tryz.t146.zero with | some z => z | none => .bool false, true⟩
noncomputable def d149 : TD := ⟨Go.Proofs.Tryz.t93.desc, Go.Proofs.Tryz.t149.size, Go.Proofs.Tryz.t149.bytes, match Go.Proofs.Tryz.t149.zero with | some z => z | none => .bool false, true⟩
noncomputable def d150 : TD := ⟨Go.Proofs.Tryz.t150.desc, Go.Proofs.Tryz.t150.size, Go.Proofs.Tryz.t150.bytes, match Go.Proofs.Tryz.t150.zero with | some z => z | none => .bool false, true⟩
noncomputable def d151 : TD := ⟨Go.Proofs.Tryz.t150.desc, Go.Proofs.Tryz.t151.size, Go.Proofs.Tryz.t151.bytes, match Go.Proofs.Tryz.t151.zero with | some z => z | none => .bool false, true⟩
noncomputable def d177 : TD := ⟨Go.Proofs.Tryz.t177.desc, Go.Proofs.Tryz.t177.size, Go.Proofs.Tryz.t177.bytes, match Go.Proofs.Tryz.t177.zero with | some z => z | none => .bool false, false⟩
noncomputable def d180 : TD := ⟨Go.Proofs.Tryz.t180.desc, Go.Proofs.Tryz.t180.size, Go.Proofs.Tryz.t180.bytes, match Go.Proofs.Tryz.t180.zero with | some z => z | none => .bool false, false⟩
noncomputable def d183 : TD := ⟨Go.Proofs.Tryz.t183.desc, Go.Proofs.Tryz.t183.size, Go.Proofs.Tryz.t183.bytes, match Go.Proofs.Tryz.t183.zero with | some z => z | none => .bool false, false⟩
noncomputable def d187 : TD := ⟨Go.Proofs.Tryz.t187.desc, Go.Proofs.Tryz.t187.size, Go.Proofs.Tryz.t187.bytes, match Go.Proofs.Tryz.t187.zero with | some z => z | none => .bool false, false⟩
noncomputable def d190 : TD := ⟨Go.Proofs.Tryz.t190.desc, Go.Proofs.Tryz.t190.size, Go.Proofs.Tryz.t190.bytes, match Go.Proofs.Tryz.t190.zero with | some z => z | none => .bool false, false⟩
noncomputable def T (t : Nat) : Option TD := match t with
  | 2 => some d2
  | 3 => some d3
  | 4 => some d4
  | 5 => some d5
  | 7 => some d7
  | 9 => some d9
  | 12 => some d12
  | 13 => some d13
  | 15 => some d15
  | 16 => some d16
  | 17 => some d17
  | 18 => some d18
  | 21 => some d21
  | 22 => some d22
  | 23 => some d23
  | 24 => some d24
  | 25 => some d25
  | 26 => some d26
  | 28 => some d28
  | 31 => some d31
  | 32 => some d32
  | 33 => some d33
  | 35 => some d35
  | 43 => some d43
  | 44 => some d44
  | 48 => some d48
  | 49 => some d49
  | 50 => some d50
  | 51 => some d51
  | 52 => some d52
  | 56 => some d56
  | 59 => some d59
  | 64 => some d64
  | 71 => some d71
  | 72 => some d72
  | 73 => some d73
  | 74 => some d74
  | 75 => some d75
  | 82 => some d82
  | 85 => some d85
  | 86 => some d86
  | 87 => some d87
  | 88 => some d88
  | 93 => some d93
  | 94 => some d94
  | 95 => some d95
  | 96 => some d96
  | 109 => some d109
  | 110 => some d110
  | 118 => some d118
  | 120 => some d120
  | 121 => some d121
  | 123 => some d123
  | 124 => some d124
  | 125 => some d125
  | 126 => some d126
  | 133 => some d133
  | 135 => some d135
  | 136 => some d136
  | 137 => some d137
  | 145 => some d145
  | 146 => some d146
  | 149 => some d149
  | 150 => some d150
  | 151 => some d151
  | 177 => some d177
  | 180 => some d180
  | 183 => some d183
  | 187 => some d187
  | 190 => some d190
  | 60 => some d60
  | 61 => some d61
  | 62 => some d62
  | _ => none
def RowOk (t : Nat) (d : TD) : Prop := Go.Proofs.Tryz.prog.underlying t = some d.und ∧ (∃ i, Go.Proofs.Tryz.prog.info? t = some i ∧ i.size = d.size ∧ i.bytes = d.bytes ∧ i.zero = some d.zero) ∧ (∀ x ∈ d.zero.cells.toList, x.oneCell' = true) ∧ (d.eqs = true → Go.Proofs.Tryz.prog.stoodInHeld t = false ∧ Go.Proofs.Tryz.prog.eqGuardType Go.Proofs.Tryz.prog.depth t = false ∧ (fieldsOf d.und).all (fun f => f.name != "_") = true)
theorem ok60 : RowOk 60 d60 := ⟨by kernel_rfl, ⟨Go.Proofs.Tryz.t60, by kernel_rfl, by kernel_rfl, by kernel_rfl, zq60⟩, zo60, fun _ => ⟨by kernel_rfl, by kernel_rfl, by kernel_rfl⟩⟩
theorem ok61 : RowOk 61 d61 := ⟨by kernel_rfl, ⟨Go.Proofs.Tryz.t61, by kernel_rfl, by kernel_rfl, by kernel_rfl, zq61⟩, zo61, fun _ => ⟨by kernel_rfl, by kernel_rfl, by kernel_rfl⟩⟩
theorem ok62 : RowOk 62 d62 := ⟨by kernel_rfl, ⟨Go.Proofs.Tryz.t62, by kernel_rfl, by kernel_rfl, by kernel_rfl, zq62⟩, zo62, fun _ => ⟨by kernel_rfl, by kernel_rfl, by kernel_rfl⟩⟩
theorem ok2 : RowOk 2 d2 := ⟨by kernel_rfl, ⟨Go.Proofs.Tryz.t2, by kernel_rfl, by kernel_rfl, by kernel_rfl, by kernel_rfl⟩, List.all_eq_true.1 (by kernel_rfl), fun h => by cases h⟩
theorem ok3 : RowOk 3 d3 := ⟨by kernel_rfl, ⟨Go.Proofs.Tryz.t3, by kernel_rfl, by kernel_rfl, by kernel_rfl, by kernel_rfl⟩, List.all_eq_true.1 (by kernel_rfl), fun h => by cases h⟩
theorem ok4 : RowOk 4 d4 := ⟨by kernel_rfl, ⟨Go.Proofs.Tryz.t4, by kernel_rfl, by kernel_rfl, by kernel_rfl, by kernel_rfl⟩, List.all_eq_true.1 (by kernel_rfl), fun h => by cases h⟩
theorem ok5 : RowOk 5 d5 := ⟨by kernel_rfl, ⟨Go.Proofs.Tryz.t5, by kernel_rfl, by kernel_rfl, by kernel_rfl, by kernel_rfl⟩, List.all_eq_true.1 (by kernel_rfl), fun h => by cases h⟩
theorem ok7 : RowOk 7 d7 := ⟨by kernel_rfl, ⟨Go.Proofs.Tryz.t7, by kernel_rfl, by kernel_rfl, by kernel_rfl, by kernel_rfl⟩, List.all_eq_true.1 (by kernel_rfl), fun h => by cases h⟩
theorem ok9 : RowOk 9 d9 := ⟨by kernel_rfl, ⟨Go.Proofs.Tryz.t9, by kernel_rfl, by kernel_rfl, by kernel_rfl, by kernel_rfl⟩, List.all_eq_true.1 (by kernel_rfl), fun h => by cases h⟩
theorem ok12 : RowOk 12 d12 := ⟨by kernel_rfl, ⟨Go.Proofs.Tryz.t12, by kernel_rfl, by kernel_rfl, by kernel_rfl, by kernel_rfl⟩, List.all_eq_true.1 (by kernel_rfl), fun h => by cases h⟩
theorem ok13 : RowOk 13 d13 := ⟨by kernel_rfl, ⟨Go.Proofs.Tryz.t13, by kernel_rfl, by kernel_rfl, by kernel_rfl, by kernel_rfl⟩, List.all_eq_true.1 (by kernel_rfl), fun h => by cases h⟩
theorem ok15 : RowOk 15 d15 := ⟨by kernel_rfl, ⟨Go.Proofs.Tryz.t15, by kernel_rfl, by kernel_rfl, by kernel_rfl, by kernel_rfl⟩, List.all_eq_true.1 (by kernel_rfl), fun h => by cases h⟩
theorem ok16 : RowOk 16 d16 := ⟨by kernel_rfl, ⟨Go.Proofs.Tryz.t16, by kernel_rfl, by kernel_rfl, by kernel_rfl, by kernel_rfl⟩, List.all_eq_true.1 (by kernel_rfl), fun h => by cases h⟩
theorem ok17 : RowOk 17 d17 := ⟨by kernel_rfl, ⟨Go.Proofs.Tryz.t17, by kernel_rfl, by kernel_rfl, by kernel_rfl, by kernel_rfl⟩, List.all_eq_true.1 (by kernel_rfl), fun h => by cases h⟩
theorem ok18 : RowOk 18 d18 := ⟨by kernel_rfl, ⟨Go.Proofs.Tryz.t18, by kernel_rfl, by kernel_rfl, by kernel_rfl, by kernel_rfl⟩, List.all_eq_true.1 (by kernel_rfl), fun h => by cases h⟩
theorem ok21 : RowOk 21 d21 := ⟨by kernel_rfl, ⟨Go.Proofs.Tryz.t21, by kernel_rfl, by kernel_rfl, by kernel_rfl, by kernel_rfl⟩, List.all_eq_true.1 (by kernel_rfl), fun h => by cases h⟩
theorem ok22 : RowOk 22 d22 := ⟨by kernel_rfl, ⟨Go.Proofs.Tryz.t22, by kernel_rfl, by kernel_rfl, by kernel_rfl, by kernel_rfl⟩, List.all_eq_true.1 (by kernel_rfl), fun h => by cases h⟩
theorem ok23 : RowOk 23 d23 := ⟨by kernel_rfl, ⟨Go.Proofs.Tryz.t23, by kernel_rfl, by kernel_rfl, by kernel_rfl, by kernel_rfl⟩, List.all_eq_true.1 (by kernel_rfl), fun _ => ⟨by kernel_rfl, by kernel_rfl, by kernel_rfl⟩⟩
theorem ok24 : RowOk 24 d24 := ⟨by kernel_rfl, ⟨Go.Proofs.Tryz.t24, by kernel_rfl, by kernel_rfl, by kernel_rfl, by kernel_rfl⟩, List.all_eq_true.1 (by kernel_rfl), fun _ => ⟨by kernel_rfl, by kernel_rfl, by kernel_rfl⟩⟩
theorem ok25 : RowOk 25 d25 := ⟨by kernel_rfl, ⟨Go.Proofs.Tryz.t25, by kernel_rfl, by kernel_rfl, by kernel_rfl, by kernel_rfl⟩, List.all_eq_true.1 (by kernel_rfl), fun _ => ⟨by kernel_rfl, by kernel_rfl, by kernel_rfl⟩⟩
theorem ok26 : RowOk 26 d26 := ⟨by kernel_rfl, ⟨Go.Proofs.Tryz.t26, by kernel_rfl, by kernel_rfl, by kernel_rfl, by kernel_rfl⟩, List.all_eq_true.1 (by kernel_rfl), fun _ => ⟨by kernel_rfl, by kernel_rfl, by kernel_rfl⟩⟩
theorem ok28 : RowOk 28 d28 := ⟨by kernel_rfl, ⟨Go.Proofs.Tryz.t28, by kernel_rfl, by kernel_rfl, by kernel_rfl, by kernel_rfl⟩, List.all_eq_true.1 (by kernel_rfl), fun h => by cases h⟩
theorem ok31 : RowOk 31 d31 := ⟨by kernel_rfl, ⟨Go.Proofs.Tryz.t31, by kernel_rfl, by kernel_rfl, by kernel_rfl, by kernel_rfl⟩, List.all_eq_true.1 (by kernel_rfl), fun h => by cases h⟩
theorem ok32 : RowOk 32 d32 := ⟨by kernel_rfl, ⟨Go.Proofs.Tryz.t32, by kernel_rfl, by kernel_rfl, by kernel_rfl, by kernel_rfl⟩, List.all_eq_true.1 (by kernel_rfl), fun _ => ⟨by kernel_rfl, by kernel_rfl, by kernel_rfl⟩⟩
theorem ok33 : RowOk 33 d33 := ⟨by kernel_rfl, ⟨Go.Proofs.Tryz.t33, by kernel_rfl, by kernel_rfl, by kernel_rfl, by kernel_rfl⟩, List.all_eq_true.1 (by kernel_rfl), fun _ => ⟨by kernel_rfl, by kernel_rfl, by kernel_rfl⟩⟩
theorem ok35 : RowOk 35 d35 := ⟨by kernel_rfl, ⟨Go.Proofs.Tryz.t35, by kernel_rfl, by kernel_rfl, by kernel_rfl, by kernel_rfl⟩, List.all_eq_true.1 (by kernel_rfl), fun _ => ⟨by kernel_rfl, by kernel_rfl, by kernel_rfl⟩⟩
theorem ok43 : RowOk 43 d43 := ⟨by kernel_rfl, ⟨Go.Proofs.Tryz.t43, by kernel_rfl, by kernel_rfl, by kernel_rfl, by kernel_rfl⟩, List.all_eq_true.1 (by kernel_rfl), fun h => by cases h⟩
theorem ok44 : RowOk 44 d44 := ⟨by kernel_rfl, ⟨Go.Proofs.Tryz.t44, by kernel_rfl, by kernel_rfl, by kernel_rfl, by kernel_rfl⟩, List.all_eq_true.1 (by kernel_rfl), fun h => by cases h⟩
theorem ok48 : RowOk 48 d48 := ⟨by kernel_rfl, ⟨Go.Proofs.Tryz.t48, by kernel_rfl, by kernel_rfl, by kernel_rfl, by kernel_rfl⟩, List.all_eq_true.1 (by kernel_rfl), fun h => by cases h⟩
theorem ok49 : RowOk 49 d49 := ⟨by kernel_rfl, ⟨Go.Proofs.Tryz.t49, by kernel_rfl, by kernel_rfl, by kernel_rfl, by kernel_rfl⟩, List.all_eq_true.1 (by kernel_rfl), fun _ => ⟨by kernel_rfl, by kernel_rfl, by kernel_rfl⟩⟩
theorem ok50 : RowOk 50 d50 := ⟨by kernel_rfl, ⟨Go.Proofs.Tryz.t50, by kernel_rfl, by kernel_rfl, by kernel_rfl, by kernel_rfl⟩, List.all_eq_true.1 (by kernel_rfl), fun _ => ⟨by kernel_rfl, by kernel_rfl, by kernel_rfl⟩⟩
theorem ok51 : RowOk 51 d51 := ⟨by kernel_rfl, ⟨Go.Proofs.Tryz.t51, by kernel_rfl, by kernel_rfl, by kernel_rfl, by kernel_rfl⟩, List.all_eq_true.1 (by kernel_rfl), fun _ => ⟨by kernel_rfl, by kernel_rfl, by kernel_rfl⟩⟩
theorem ok52 : RowOk 52 d52 := ⟨by kernel_rfl, ⟨Go.Proofs.Tryz.t52, by kernel_rfl, by kernel_rfl, by kernel_rfl, by kernel_rfl⟩, List.all_eq_true.1 (by kernel_rfl), fun _ => ⟨by kernel_rfl, by kernel_rfl, by kernel_rfl⟩⟩
theorem ok56 : RowOk 56 d56 := ⟨by kernel_rfl, ⟨Go.Proofs.Tryz.t56, by kernel_rfl, by kernel_rfl, by kernel_rfl, by kernel_rfl⟩, List.all_eq_true.1 (by kernel_rfl), fun h => by cases h⟩
theorem ok59 : RowOk 59 d59 := ⟨by kernel_rfl, ⟨Go.Proofs.Tryz.t59, by kernel_rfl, by kernel_rfl, by kernel_rfl, by kernel_rfl⟩, List.all_eq_true.1 (by kernel_rfl), fun h => by cases h⟩
theorem ok64 : RowOk 64 d64 := ⟨by kernel_rfl, ⟨Go.Proofs.Tryz.t64, by kernel_rfl, by kernel_rfl, by kernel_rfl, by kernel_rfl⟩, List.all_eq_true.1 (by kernel_rfl), fun h => by cases h⟩
theorem ok71 : RowOk 71 d71 := ⟨by kernel_rfl, ⟨Go.Proofs.Tryz.t71, by kernel_rfl, by kernel_rfl, by kernel_rfl, by kernel_rfl⟩, List.all_eq_true.1 (by kernel_rfl), fun h => by cases h⟩
theorem ok72 : RowOk 72 d72 := ⟨by kernel_rfl, ⟨Go.Proofs.Tryz.t72, by kernel_rfl, by kernel_rfl, by kernel_rfl, by kernel_rfl⟩, List.all_eq_true.1 (by kernel_rfl), fun h => by cases h⟩
theorem ok73 : RowOk 73 d73 := ⟨by kernel_rfl, ⟨Go.Proofs.Tryz.t73, by kernel_rfl, by kernel_rfl, by kernel_rfl, by kernel_rfl⟩, List.all_eq_true.1 (by kernel_rfl), fun h => by cases h⟩
theorem ok74 : RowOk 74 d74 := ⟨by kernel_rfl, ⟨Go.Proofs.Tryz.t74, by kernel_rfl, by kernel_rfl, by kernel_rfl, by kernel_rfl⟩, List.all_eq_true.1 (by kernel_rfl), fun _ => ⟨by kernel_rfl, by kernel_rfl, by kernel_rfl⟩⟩
theorem ok75 : RowOk 75 d75 := ⟨by kernel_rfl, ⟨Go.Proofs.Tryz.t75, by kernel_rfl, by kernel_rfl, by kernel_rfl, by kernel_rfl⟩, List.all_eq_true.1 (by kernel_rfl), fun _ => ⟨by kernel_rfl, by kernel_rfl, by kernel_rfl⟩⟩
theorem ok82 : RowOk 82 d82 := ⟨by kernel_rfl, ⟨Go.Proofs.Tryz.t82, by kernel_rfl, by kernel_rfl, by kernel_rfl, by kernel_rfl⟩, List.all_eq_true.1 (by kernel_rfl), fun h => by cases h⟩
theorem ok85 : RowOk 85 d85 := ⟨by kernel_rfl, ⟨Go.Proofs.Tryz.t85, by kernel_rfl, by kernel_rfl, by kernel_rfl, by kernel_rfl⟩, List.all_eq_true.1 (by kernel_rfl), fun h => by cases h⟩
theorem ok86 : RowOk 86 d86 := ⟨by kernel_rfl, ⟨Go.Proofs.Tryz.t86, by kernel_rfl, by kernel_rfl, by kernel_rfl, by kernel_rfl⟩, List.all_eq_true.1 (by kernel_rfl), fun h => by cases h⟩
theorem ok87 : RowOk 87 d87 := ⟨by kernel_rfl, ⟨Go.Proofs.Tryz.t87, by kernel_rfl, by kernel_rfl, by kernel_rfl, by kernel_rfl⟩, List.all_eq_true.1 (by kernel_rfl), fun _ => ⟨by kernel_rfl, by kernel_rfl, by kernel_rfl⟩⟩
theorem ok88 : RowOk 88 d88 := ⟨by kernel_rfl, ⟨Go.Proofs.Tryz.t88, by kernel_rfl, by kernel_rfl, by kernel_rfl, by kernel_rfl⟩, List.all_eq_true.1 (by kernel_rfl), fun _ => ⟨by kernel_rfl, by kernel_rfl, by kernel_rfl⟩⟩
theorem ok93 : RowOk 93 d93 := ⟨by kernel_rfl, ⟨Go.Proofs.Tryz.t93, by kernel_rfl, by kernel_rfl, by kernel_rfl, by kernel_rfl⟩, List.all_eq_true.1 (by kernel_rfl), fun _ => ⟨by kernel_rfl, by kernel_rfl, by kernel_rfl⟩⟩
theorem ok94 : RowOk 94 d94 := ⟨by kernel_rfl, ⟨Go.Proofs.Tryz.t94, by kernel_rfl, by kernel_rfl, by kernel_rfl, by kernel_rfl⟩, List.all_eq_true.1 (by kernel_rfl), fun _ => ⟨by kernel_rfl, by kernel_rfl, by kernel_rfl⟩⟩
theorem ok95 : RowOk 95 d95 := ⟨by kernel_rfl, ⟨Go.Proofs.Tryz.t95, by kernel_rfl, by kernel_rfl, by kernel_rfl, by kernel_rfl⟩, List.all_eq_true.1 (by kernel_rfl), fun _ => ⟨by kernel_rfl, by kernel_rfl, by kernel_rfl⟩⟩
theorem ok96 : RowOk 96 d96 := ⟨by kernel_rfl, ⟨Go.Proofs.Tryz.t96, by kernel_rfl, by kernel_rfl, by kernel_rfl, by kernel_rfl⟩, List.all_eq_true.1 (by kernel_rfl), fun _ => ⟨by kernel_rfl, by kernel_rfl, by kernel_rfl⟩⟩
theorem ok109 : RowOk 109 d109 := ⟨by kernel_rfl, ⟨Go.Proofs.Tryz.t109, by kernel_rfl, by kernel_rfl, by kernel_rfl, by kernel_rfl⟩, List.all_eq_true.1 (by kernel_rfl), fun _ => ⟨by kernel_rfl, by kernel_rfl, by kernel_rfl⟩⟩
theorem ok110 : RowOk 110 d110 := ⟨by kernel_rfl, ⟨Go.Proofs.Tryz.t110, by kernel_rfl, by kernel_rfl, by kernel_rfl, by kernel_rfl⟩, List.all_eq_true.1 (by kernel_rfl), fun _ => ⟨by kernel_rfl, by kernel_rfl, by kernel_rfl⟩⟩
theorem ok118 : RowOk 118 d118 := ⟨by kernel_rfl, ⟨Go.Proofs.Tryz.t118, by kernel_rfl, by kernel_rfl, by kernel_rfl, by kernel_rfl⟩, List.all_eq_true.1 (by kernel_rfl), fun h => by cases h⟩
theorem ok120 : RowOk 120 d120 := ⟨by kernel_rfl, ⟨Go.Proofs.Tryz.t120, by kernel_rfl, by kernel_rfl, by kernel_rfl, by kernel_rfl⟩, List.all_eq_true.1 (by kernel_rfl), fun h => by cases h⟩
theorem ok121 : RowOk 121 d121 := ⟨by kernel_rfl, ⟨Go.Proofs.Tryz.t121, by kernel_rfl, by kernel_rfl, by kernel_rfl, by kernel_rfl⟩, List.all_eq_true.1 (by kernel_rfl), fun h => by cases h⟩
theorem ok123 : RowOk 123 d123 := ⟨by kernel_rfl, ⟨Go.Proofs.Tryz.t123, by kernel_rfl, by kernel_rfl, by kernel_rfl, by kernel_rfl⟩, List.all_eq_true.1 (by kernel_rfl), fun _ => ⟨by kernel_rfl, by kernel_rfl, by kernel_rfl⟩⟩
theorem ok124 : RowOk 124 d124 := ⟨by kernel_rfl, ⟨Go.Proofs.Tryz.t124, by kernel_rfl, by kernel_rfl, by kernel_rfl, by kernel_rfl⟩, List.all_eq_true.1 (by kernel_rfl), fun _ => ⟨by kernel_rfl, by kernel_rfl, by kernel_rfl⟩⟩
theorem ok125 : RowOk 125 d125 := ⟨by kernel_rfl, ⟨Go.Proofs.Tryz.t125, by kernel_rfl, by kernel_rfl, by kernel_rfl, by kernel_rfl⟩, List.all_eq_true.1 (by kernel_rfl), fun _ => ⟨by kernel_rfl, by kernel_rfl, by kernel_rfl⟩⟩
theorem ok126 : RowOk 126 d126 := ⟨by kernel_rfl, ⟨Go.Proofs.Tryz.t126, by kernel_rfl, by kernel_rfl, by kernel_rfl, by kernel_rfl⟩, List.all_eq_true.1 (by kernel_rfl), fun _ => ⟨by kernel_rfl, by kernel_rfl, by kernel_rfl⟩⟩
theorem ok133 : RowOk 133 d133 := ⟨by kernel_rfl, ⟨Go.Proofs.Tryz.t133, by kernel_rfl, by kernel_rfl, by kernel_rfl, by kernel_rfl⟩, List.all_eq_true.1 (by kernel_rfl), fun h => by cases h⟩
theorem ok135 : RowOk 135 d135 := ⟨by kernel_rfl, ⟨Go.Proofs.Tryz.t135, by kernel_rfl, by kernel_rfl, by kernel_rfl, by kernel_rfl⟩, List.all_eq_true.1 (by kernel_rfl), fun _ => ⟨by kernel_rfl, by kernel_rfl, by kernel_rfl⟩⟩
theorem ok136 : RowOk 136 d136 := ⟨by kernel_rfl, ⟨Go.Proofs.Tryz.t136, by kernel_rfl, by kernel_rfl, by kernel_rfl, by kernel_rfl⟩, List.all_eq_true.1 (by kernel_rfl), fun _ => ⟨by kernel_rfl, by kernel_rfl, by kernel_rfl⟩⟩
theorem ok137 : RowOk 137 d137 := ⟨by kernel_rfl, ⟨Go.Proofs.Tryz.t137, by kernel_rfl, by kernel_rfl, by kernel_rfl, by kernel_rfl⟩, List.all_eq_true.1 (by kernel_rfl), fun _ => ⟨by kernel_rfl, by kernel_rfl, by kernel_rfl⟩⟩
theorem ok145 : RowOk 145 d145 := ⟨by kernel_rfl, ⟨Go.Proofs.Tryz.t145, by kernel_rfl, by kernel_rfl, by kernel_rfl, by kernel_rfl⟩, List.all_eq_true.1 (by kernel_rfl), fun _ => ⟨by kernel_rfl, by kernel_rfl, by kernel_rfl⟩⟩
theorem ok146 : RowOk 146 d146 := ⟨by kernel_rfl, ⟨Go.Proofs.Tryz.t146, by kernel_rfl, by kernel_rfl, by kernel_rfl, by kernel_rfl⟩, List.all_eq_true.1 (by kernel_rfl), fun _ => ⟨by kernel_rfl, by kernel_rfl, by kernel_rfl⟩⟩
theorem ok149 : RowOk 149 d149 := ⟨by kernel_rfl, ⟨Go.Proofs.Tryz.t149, by kernel_rfl, by kernel_rfl, by kernel_rfl, by kernel_rfl⟩, List.all_eq_true.1 (by kernel_rfl), fun _ => ⟨by kernel_rfl, by kernel_rfl, by kernel_rfl⟩⟩
theorem ok150 : RowOk 150 d150 := ⟨by kernel_rfl, ⟨Go.Proofs.Tryz.t150, by kernel_rfl, by kernel_rfl, by kernel_rfl, by kernel_rfl⟩, List.all_eq_true.1 (by kernel_rfl), fun _ => ⟨by kernel_rfl, by kernel_rfl, by kernel_rfl⟩⟩
theorem ok151 : RowOk 151 d151 := ⟨by kernel_rfl, ⟨Go.Proofs.Tryz.t151, by kernel_rfl, by kernel_rfl, by kernel_rfl, by kernel_rfl⟩, List.all_eq_true.1 (by kernel_rfl), fun _ => ⟨by kernel_rfl, by kernel_rfl, by kernel_rfl⟩⟩
theorem ok177 : RowOk 177 d177 := ⟨by kernel_rfl, ⟨Go.Proofs.Tryz.t177, by kernel_rfl, by kernel_rfl, by kernel_rfl, by kernel_rfl⟩, List.all_eq_true.1 (by kernel_rfl), fun h => by cases h⟩
theorem ok180 : RowOk 180 d180 := ⟨by kernel_rfl, ⟨Go.Proofs.Tryz.t180, by kernel_rfl, by kernel_rfl, by kernel_rfl, by kernel_rfl⟩, List.all_eq_true.1 (by kernel_rfl), fun h => by cases h⟩
theorem ok183 : RowOk 183 d183 := ⟨by kernel_rfl, ⟨Go.Proofs.Tryz.t183, by kernel_rfl, by kernel_rfl, by kernel_rfl, by kernel_rfl⟩, List.all_eq_true.1 (by kernel_rfl), fun h => by cases h⟩
theorem ok187 : RowOk 187 d187 := ⟨by kernel_rfl, ⟨Go.Proofs.Tryz.t187, by kernel_rfl, by kernel_rfl, by kernel_rfl, by kernel_rfl⟩, List.all_eq_true.1 (by kernel_rfl), fun h => by cases h⟩
theorem ok190 : RowOk 190 d190 := ⟨by kernel_rfl, ⟨Go.Proofs.Tryz.t190, by kernel_rfl, by kernel_rfl, by kernel_rfl, by kernel_rfl⟩, List.all_eq_true.1 (by kernel_rfl), fun h => by cases h⟩
theorem tok : TOk Go.Proofs.Tryz.prog T := by
  intro t d h
  unfold T at h
  split at h
  · injection h with h; subst h; exact ok2
  · injection h with h; subst h; exact ok3
  · injection h with h; subst h; exact ok4
  · injection h with h; subst h; exact ok5
  · injection h with h; subst h; exact ok7
  · injection h with h; subst h; exact ok9
  · injection h with h; subst h; exact ok12
  · injection h with h; subst h; exact ok13
  · injection h with h; subst h; exact ok15
  · injection h with h; subst h; exact ok16
  · injection h with h; subst h; exact ok17
  · injection h with h; subst h; exact ok18
  · injection h with h; subst h; exact ok21
  · injection h with h; subst h; exact ok22
  · injection h with h; subst h; exact ok23
  · injection h with h; subst h; exact ok24
  · injection h with h; subst h; exact ok25
  · injection h with h; subst h; exact ok26
  · injection h with h; subst h; exact ok28
  · injection h with h; subst h; exact ok31
  · injection h with h; subst h; exact ok32
  · injection h with h; subst h; exact ok33
  · injection h with h; subst h; exact ok35
  · injection h with h; subst h; exact ok43
  · injection h with h; subst h; exact ok44
  · injection h with h; subst h; exact ok48
  · injection h with h; subst h; exact ok49
  · injection h with h; subst h; exact ok50
  · injection h with h; subst h; exact ok51
  · injection h with h; subst h; exact ok52
  · injection h with h; subst h; exact ok56
  · injection h with h; subst h; exact ok59
  · injection h with h; subst h; exact ok64
  · injection h with h; subst h; exact ok71
  · injection h with h; subst h; exact ok72
  · injection h with h; subst h; exact ok73
  · injection h with h; subst h; exact ok74
  · injection h with h; subst h; exact ok75
  · injection h with h; subst h; exact ok82
  · injection h with h; subst h; exact ok85
  · injection h with h; subst h; exact ok86
  · injection h with h; subst h; exact ok87
  · injection h with h; subst h; exact ok88
  · injection h with h; subst h; exact ok93
  · injection h with h; subst h; exact ok94
  · injection h with h; subst h; exact ok95
  · injection h with h; subst h; exact ok96
  · injection h with h; subst h; exact ok109
  · injection h with h; subst h; exact ok110
  · injection h with h; subst h; exact ok118
  · injection h with h; subst h; exact ok120
  · injection h with h; subst h; exact ok121
  · injection h with h; subst h; exact ok123
  · injection h with h; subst h; exact ok124
  · injection h with h; subst h; exact ok125
  · injection h with h; subst h; exact ok126
  · injection h with h; subst h; exact ok133
  · injection h with h; subst h; exact ok135
  · injection h with h; subst h; exact ok136
  · injection h with h; subst h; exact ok137
  · injection h with h; subst h; exact ok145
  · injection h with h; subst h; exact ok146
  · injection h with h; subst h; exact ok149
  · injection h with h; subst h; exact ok150
  · injection h with h; subst h; exact ok151
  · injection h with h; subst h; exact ok177
  · injection h with h; subst h; exact ok180
  · injection h with h; subst h; exact ok183
  · injection h with h; subst h; exact ok187
  · injection h with h; subst h; exact ok190
  · injection h with h; subst h; exact ok60
  · injection h with h; subst h; exact ok61
  · injection h with h; subst h; exact ok62
  · cases h
end Go.Proofs.YtpobpihakgegbaaGreat.AM
