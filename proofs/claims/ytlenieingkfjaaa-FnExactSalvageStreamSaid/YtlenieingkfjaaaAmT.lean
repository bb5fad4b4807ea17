/-
  THE TABLE OF TYPES of the seat. No condition.
-/
import Derived.Test.YtlenieingkfjaaaAmE
import Derived.Test.YtlenieingkfjaaaProg
import Derived.KernelRfl
namespace Go.Proofs.Ytlenieingkfjaaa.AM
open Go Go.Proofs Go.RowKit
set_option linter.unusedVariables false
set_option linter.unusedSimpArgs false
set_option maxRecDepth 100000

noncomputable def d2 : TD := ⟨Go.Proofs.Try.t2.desc, Go.Proofs.Try.t2.size, Go.Proofs.Try.t2.bytes, match Go.Proofs.Try.t2.zero with | some z => z | none => .bool false, false⟩
noncomputable def d3 : TD := ⟨Go.Proofs.Try.t3.desc, Go.Proofs.Try.t3.size, Go.Proofs.Try.t3.bytes, match Go.Proofs.Try.t3.zero with | some z => z | none => .bool false, false⟩
noncomputable def d4 : TD := ⟨Go.Proofs.Try.t4.desc, Go.Proofs.Try.t4.size, Go.Proofs.Try.t4.bytes, match Go.Proofs.Try.t4.zero with | some z => z | none => .bool false, false⟩
noncomputable def d5 : TD := ⟨Go.Proofs.Try.t5.desc, Go.Proofs.Try.t5.size, Go.Proofs.Try.t5.bytes, match Go.Proofs.Try.t5.zero with | some z => z | none => .bool false, false⟩
noncomputable def d7 : TD := ⟨Go.Proofs.Try.t7.desc, Go.Proofs.Try.t7.size, Go.Proofs.Try.t7.bytes, match Go.Proofs.Try.t7.zero with | some z => z | none => .bool false, false⟩
noncomputable def d9 : TD := ⟨Go.Proofs.Try.t9.desc, Go.Proofs.Try.t9.size, Go.Proofs.Try.t9.bytes, match Go.Proofs.Try.t9.zero with | some z => z | none => .bool false, false⟩
noncomputable def d12 : TD := ⟨Go.Proofs.Try.t12.desc, Go.Proofs.Try.t12.size, Go.Proofs.Try.t12.bytes, match Go.Proofs.Try.t12.zero with | some z => z | none => .bool false, false⟩
noncomputable def d13 : TD := ⟨Go.Proofs.Try.t13.desc, Go.Proofs.Try.t13.size, Go.Proofs.Try.t13.bytes, match Go.Proofs.Try.t13.zero with | some z => z | none => .bool false, false⟩
noncomputable def d15 : TD := ⟨Go.Proofs.Try.t15.desc, Go.Proofs.Try.t15.size, Go.Proofs.Try.t15.bytes, match Go.Proofs.Try.t15.zero with | some z => z | none => .bool false, false⟩
noncomputable def d16 : TD := ⟨Go.Proofs.Try.t16.desc, Go.Proofs.Try.t16.size, Go.Proofs.Try.t16.bytes, match Go.Proofs.Try.t16.zero with | some z => z | none => .bool false, false⟩
noncomputable def d17 : TD := ⟨Go.Proofs.Try.t17.desc, Go.Proofs.Try.t17.size, Go.Proofs.Try.t17.bytes, match Go.Proofs.Try.t17.zero with | some z => z | none => .bool false, false⟩
noncomputable def d18 : TD := ⟨Go.Proofs.Try.t18.desc, Go.Proofs.Try.t18.size, Go.Proofs.Try.t18.bytes, match Go.Proofs.Try.t18.zero with | some z => z | none => .bool false, false⟩
noncomputable def d21 : TD := ⟨Go.Proofs.Try.t21.desc, Go.Proofs.Try.t21.size, Go.Proofs.Try.t21.bytes, match Go.Proofs.Try.t21.zero with | some z => z | none => .bool false, false⟩
noncomputable def d22 : TD := ⟨Go.Proofs.Try.t22.desc, Go.Proofs.Try.t22.size, Go.Proofs.Try.t22.bytes, match Go.Proofs.Try.t22.zero with | some z => z | none => .bool false, false⟩
noncomputable def d24 : TD := ⟨Go.Proofs.Try.t24.desc, Go.Proofs.Try.t24.size, Go.Proofs.Try.t24.bytes, match Go.Proofs.Try.t24.zero with | some z => z | none => .bool false, false⟩
noncomputable def d25 : TD := ⟨Go.Proofs.Try.t25.desc, Go.Proofs.Try.t25.size, Go.Proofs.Try.t25.bytes, match Go.Proofs.Try.t25.zero with | some z => z | none => .bool false, true⟩
noncomputable def d26 : TD := ⟨Go.Proofs.Try.t25.desc, Go.Proofs.Try.t26.size, Go.Proofs.Try.t26.bytes, match Go.Proofs.Try.t26.zero with | some z => z | none => .bool false, true⟩
noncomputable def d27 : TD := ⟨Go.Proofs.Try.t27.desc, Go.Proofs.Try.t27.size, Go.Proofs.Try.t27.bytes, match Go.Proofs.Try.t27.zero with | some z => z | none => .bool false, true⟩
noncomputable def d28 : TD := ⟨Go.Proofs.Try.t27.desc, Go.Proofs.Try.t28.size, Go.Proofs.Try.t28.bytes, match Go.Proofs.Try.t28.zero with | some z => z | none => .bool false, true⟩
noncomputable def d31 : TD := ⟨Go.Proofs.Try.t31.desc, Go.Proofs.Try.t31.size, Go.Proofs.Try.t31.bytes, match Go.Proofs.Try.t31.zero with | some z => z | none => .bool false, false⟩
noncomputable def d34 : TD := ⟨Go.Proofs.Try.t34.desc, Go.Proofs.Try.t34.size, Go.Proofs.Try.t34.bytes, match Go.Proofs.Try.t34.zero with | some z => z | none => .bool false, true⟩
noncomputable def d35 : TD := ⟨Go.Proofs.Try.t34.desc, Go.Proofs.Try.t35.size, Go.Proofs.Try.t35.bytes, match Go.Proofs.Try.t35.zero with | some z => z | none => .bool false, true⟩
noncomputable def d36 : TD := ⟨Go.Proofs.Try.t36.desc, Go.Proofs.Try.t36.size, Go.Proofs.Try.t36.bytes, match Go.Proofs.Try.t36.zero with | some z => z | none => .bool false, false⟩
noncomputable def d37 : TD := ⟨Go.Proofs.Try.t37.desc, Go.Proofs.Try.t37.size, Go.Proofs.Try.t37.bytes, match Go.Proofs.Try.t37.zero with | some z => z | none => .bool false, true⟩
noncomputable def d38 : TD := ⟨Go.Proofs.Try.t37.desc, Go.Proofs.Try.t38.size, Go.Proofs.Try.t38.bytes, match Go.Proofs.Try.t38.zero with | some z => z | none => .bool false, true⟩
noncomputable def d41 : TD := ⟨Go.Proofs.Try.t41.desc, Go.Proofs.Try.t41.size, Go.Proofs.Try.t41.bytes, match Go.Proofs.Try.t41.zero with | some z => z | none => .bool false, true⟩
noncomputable def d42 : TD := ⟨Go.Proofs.Try.t41.desc, Go.Proofs.Try.t42.size, Go.Proofs.Try.t42.bytes, match Go.Proofs.Try.t42.zero with | some z => z | none => .bool false, true⟩
noncomputable def d43 : TD := ⟨Go.Proofs.Try.t43.desc, Go.Proofs.Try.t43.size, Go.Proofs.Try.t43.bytes, match Go.Proofs.Try.t43.zero with | some z => z | none => .bool false, true⟩
noncomputable def d44 : TD := ⟨Go.Proofs.Try.t43.desc, Go.Proofs.Try.t44.size, Go.Proofs.Try.t44.bytes, match Go.Proofs.Try.t44.zero with | some z => z | none => .bool false, true⟩
noncomputable def d45 : TD := ⟨Go.Proofs.Try.t45.desc, Go.Proofs.Try.t45.size, Go.Proofs.Try.t45.bytes, match Go.Proofs.Try.t45.zero with | some z => z | none => .bool false, false⟩
noncomputable def d46 : TD := ⟨Go.Proofs.Try.t46.desc, Go.Proofs.Try.t46.size, Go.Proofs.Try.t46.bytes, match Go.Proofs.Try.t46.zero with | some z => z | none => .bool false, false⟩
noncomputable def d47 : TD := ⟨Go.Proofs.Try.t47.desc, Go.Proofs.Try.t47.size, Go.Proofs.Try.t47.bytes, match Go.Proofs.Try.t47.zero with | some z => z | none => .bool false, false⟩
noncomputable def d48 : TD := ⟨Go.Proofs.Try.t48.desc, Go.Proofs.Try.t48.size, Go.Proofs.Try.t48.bytes, match Go.Proofs.Try.t48.zero with | some z => z | none => .bool false, true⟩
noncomputable def d49 : TD := ⟨Go.Proofs.Try.t48.desc, Go.Proofs.Try.t49.size, Go.Proofs.Try.t49.bytes, match Go.Proofs.Try.t49.zero with | some z => z | none => .bool false, true⟩
noncomputable def d50 : TD := ⟨Go.Proofs.Try.t50.desc, Go.Proofs.Try.t50.size, Go.Proofs.Try.t50.bytes, match Go.Proofs.Try.t50.zero with | some z => z | none => .bool false, true⟩
noncomputable def d51 : TD := ⟨Go.Proofs.Try.t50.desc, Go.Proofs.Try.t51.size, Go.Proofs.Try.t51.bytes, match Go.Proofs.Try.t51.zero with | some z => z | none => .bool false, true⟩
noncomputable def d61 : TD := ⟨Go.Proofs.Try.t61.desc, Go.Proofs.Try.t61.size, Go.Proofs.Try.t61.bytes, match Go.Proofs.Try.t61.zero with | some z => z | none => .bool false, false⟩
noncomputable def d66 : TD := ⟨Go.Proofs.Try.t66.desc, Go.Proofs.Try.t66.size, Go.Proofs.Try.t66.bytes, match Go.Proofs.Try.t66.zero with | some z => z | none => .bool false, false⟩
noncomputable def d82 : TD := ⟨Go.Proofs.Try.t82.desc, Go.Proofs.Try.t82.size, Go.Proofs.Try.t82.bytes, match Go.Proofs.Try.t82.zero with | some z => z | none => .bool false, false⟩
noncomputable def d84 : TD := ⟨Go.Proofs.Try.t84.desc, Go.Proofs.Try.t84.size, Go.Proofs.Try.t84.bytes, match Go.Proofs.Try.t84.zero with | some z => z | none => .bool false, false⟩
noncomputable def d90 : TD := ⟨Go.Proofs.Try.t90.desc, Go.Proofs.Try.t90.size, Go.Proofs.Try.t90.bytes, match Go.Proofs.Try.t90.zero with | some z => z | none => .bool false, false⟩
noncomputable def d91 : TD := ⟨Go.Proofs.Try.t91.desc, Go.Proofs.Try.t91.size, Go.Proofs.Try.t91.bytes, match Go.Proofs.Try.t91.zero with | some z => z | none => .bool false, false⟩
noncomputable def d92 : TD := ⟨Go.Proofs.Try.t92.desc, Go.Proofs.Try.t92.size, Go.Proofs.Try.t92.bytes, match Go.Proofs.Try.t92.zero with | some z => z | none => .bool false, true⟩
noncomputable def d93 : TD := ⟨Go.Proofs.Try.t92.desc, Go.Proofs.Try.t93.size, Go.Proofs.Try.t93.bytes, match Go.Proofs.Try.t93.zero with | some z => z | none => .bool false, true⟩
noncomputable def d99 : TD := ⟨Go.Proofs.Try.t99.desc, Go.Proofs.Try.t99.size, Go.Proofs.Try.t99.bytes, match Go.Proofs.Try.t99.zero with | some z => z | none => .bool false, false⟩
noncomputable def d100 : TD := ⟨Go.Proofs.Try.t100.desc, Go.Proofs.Try.t100.size, Go.Proofs.Try.t100.bytes, match Go.Proofs.Try.t100.zero with | some z => z | none => .bool false, true⟩
noncomputable def d101 : TD := ⟨Go.Proofs.Try.t100.desc, Go.Proofs.Try.t101.size, Go.Proofs.Try.t101.bytes, match Go.Proofs.Try.t101.zero with | some z => z | none => .bool false, true⟩
noncomputable def d102 : TD := ⟨Go.Proofs.Try.t41.desc, Go.Proofs.Try.t102.size, Go.Proofs.Try.t102.bytes, match Go.Proofs.Try.t102.zero with | some z => z | none => .bool false, true⟩
noncomputable def d108 : TD := ⟨Go.Proofs.Try.t108.desc, Go.Proofs.Try.t108.size, Go.Proofs.Try.t108.bytes, match Go.Proofs.Try.t108.zero with | some z => z | none => .bool false, false⟩
noncomputable def d115 : TD := ⟨Go.Proofs.Try.t115.desc, Go.Proofs.Try.t115.size, Go.Proofs.Try.t115.bytes, match Go.Proofs.Try.t115.zero with | some z => z | none => .bool false, false⟩
noncomputable def d120 : TD := ⟨Go.Proofs.Try.t120.desc, Go.Proofs.Try.t120.size, Go.Proofs.Try.t120.bytes, match Go.Proofs.Try.t120.zero with | some z => z | none => .bool false, false⟩
noncomputable def d123 : TD := ⟨Go.Proofs.Try.t123.desc, Go.Proofs.Try.t123.size, Go.Proofs.Try.t123.bytes, match Go.Proofs.Try.t123.zero with | some z => z | none => .bool false, false⟩
noncomputable def d124 : TD := ⟨Go.Proofs.Try.t123.desc, Go.Proofs.Try.t124.size, Go.Proofs.Try.t124.bytes, match Go.Proofs.Try.t124.zero with | some z => z | none => .bool false, false⟩
noncomputable def d134 : TD := ⟨Go.Proofs.Try.t134.desc, Go.Proofs.Try.t134.size, Go.Proofs.Try.t134.bytes, match Go.Proofs.Try.t134.zero with | some z => z | none => .bool false, false⟩
noncomputable def d151 : TD := ⟨Go.Proofs.Try.t151.desc, Go.Proofs.Try.t151.size, Go.Proofs.Try.t151.bytes, match Go.Proofs.Try.t151.zero with | some z => z | none => .bool false, false⟩
noncomputable def d152 : TD := ⟨Go.Proofs.Try.t151.desc, Go.Proofs.Try.t152.size, Go.Proofs.Try.t152.bytes, match Go.Proofs.Try.t152.zero with | some z => z | none => .bool false, false⟩
noncomputable def d153 : TD := ⟨Go.Proofs.Try.t153.desc, Go.Proofs.Try.t153.size, Go.Proofs.Try.t153.bytes, match Go.Proofs.Try.t153.zero with | some z => z | none => .bool false, false⟩
noncomputable def d154 : TD := ⟨Go.Proofs.Try.t154.desc, Go.Proofs.Try.t154.size, Go.Proofs.Try.t154.bytes, match Go.Proofs.Try.t154.zero with | some z => z | none => .bool false, false⟩
noncomputable def d157 : TD := ⟨Go.Proofs.Try.t157.desc, Go.Proofs.Try.t157.size, Go.Proofs.Try.t157.bytes, match Go.Proofs.Try.t157.zero with | some z => z | none => .bool false, false⟩
noncomputable def d158 : TD := ⟨Go.Proofs.Try.t157.desc, Go.Proofs.Try.t158.size, Go.Proofs.Try.t158.bytes, match Go.Proofs.Try.t158.zero with | some z => z | none => .bool false, false⟩
noncomputable def d163 : TD := ⟨Go.Proofs.Try.t163.desc, Go.Proofs.Try.t163.size, Go.Proofs.Try.t163.bytes, match Go.Proofs.Try.t163.zero with | some z => z | none => .bool false, true⟩
noncomputable def d164 : TD := ⟨Go.Proofs.Try.t163.desc, Go.Proofs.Try.t164.size, Go.Proofs.Try.t164.bytes, match Go.Proofs.Try.t164.zero with | some z => z | none => .bool false, true⟩
noncomputable def d173 : TD := ⟨Go.Proofs.Try.t173.desc, Go.Proofs.Try.t173.size, Go.Proofs.Try.t173.bytes, match Go.Proofs.Try.t173.zero with | some z => z | none => .bool false, false⟩
noncomputable def d174 : TD := ⟨Go.Proofs.Try.t173.desc, Go.Proofs.Try.t174.size, Go.Proofs.Try.t174.bytes, match Go.Proofs.Try.t174.zero with | some z => z | none => .bool false, false⟩
noncomputable def d177 : TD := ⟨Go.Proofs.Try.t177.desc, Go.Proofs.Try.t177.size, Go.Proofs.Try.t177.bytes, match Go.Proofs.Try.t177.zero with | some z => z | none => .bool false, true⟩
noncomputable def d178 : TD := ⟨Go.Proofs.Try.t177.desc, Go.Proofs.Try.t178.size, Go.Proofs.Try.t178.bytes, match Go.Proofs.Try.t178.zero with | some z => z | none => .bool false, true⟩
noncomputable def d185 : TD := ⟨Go.Proofs.Try.t185.desc, Go.Proofs.Try.t185.size, Go.Proofs.Try.t185.bytes, match Go.Proofs.Try.t185.zero with | some z => z | none => .bool false, false⟩
noncomputable def d186 : TD := ⟨Go.Proofs.Try.t186.desc, Go.Proofs.Try.t186.size, Go.Proofs.Try.t186.bytes, match Go.Proofs.Try.t186.zero with | some z => z | none => .bool false, false⟩
noncomputable def d189 : TD := ⟨Go.Proofs.Try.t189.desc, Go.Proofs.Try.t189.size, Go.Proofs.Try.t189.bytes, match Go.Proofs.Try.t189.zero with | some z => z | none => .bool false, true⟩
noncomputable def d190 : TD := ⟨Go.Proofs.Try.t189.desc, Go.Proofs.Try.t190.size, Go.Proofs.Try.t190.bytes, match Go.Proofs.Try.t190.zero with | some z => z | none => .bool false, true⟩
noncomputable def d200 : TD := ⟨Go.Proofs.Try.t200.desc, Go.Proofs.Try.t200.size, Go.Proofs.Try.t200.bytes, match Go.Proofs.Try.t200.zero with | some z => z | none => .bool false, false⟩
noncomputable def d201 : TD := ⟨Go.Proofs.Try.t201.desc, Go.Proofs.Try.t201.size, Go.Proofs.Try.t201.bytes, match Go.Proofs.Try.t201.zero with | some z => z | none => .bool false, false⟩
noncomputable def d202 : TD := ⟨Go.Proofs.Try.t201.desc, Go.Proofs.Try.t202.size, Go.Proofs.Try.t202.bytes, match Go.Proofs.Try.t202.zero with | some z => z | none => .bool false, false⟩
noncomputable def d225 : TD := ⟨Go.Proofs.Try.t225.desc, Go.Proofs.Try.t225.size, Go.Proofs.Try.t225.bytes, match Go.Proofs.Try.t225.zero with | some z => z | none => .bool false, true⟩
noncomputable def d226 : TD := ⟨Go.Proofs.Try.t225.desc, Go.Proofs.Try.t226.size, Go.Proofs.Try.t226.bytes, match Go.Proofs.Try.t226.zero with | some z => z | none => .bool false, true⟩
noncomputable def d241 : TD := ⟨Go.Proofs.Try.t241.desc, Go.Proofs.Try.t241.size, Go.Proofs.Try.t241.bytes, match Go.Proofs.Try.t241.zero with | some z => z | none => .bool false, false⟩
noncomputable def d242 : TD := ⟨Go.Proofs.Try.t242.desc, Go.Proofs.Try.t242.size, Go.Proofs.Try.t242.bytes, match Go.Proofs.Try.t242.zero with | some z => z | none => .bool false, false⟩
noncomputable def d243 : TD := ⟨Go.Proofs.Try.t242.desc, Go.Proofs.Try.t243.size, Go.Proofs.Try.t243.bytes, match Go.Proofs.Try.t243.zero with | some z => z | none => .bool false, false⟩
noncomputable def d252 : TD := ⟨Go.Proofs.Try.t252.desc, Go.Proofs.Try.t252.size, Go.Proofs.Try.t252.bytes, match Go.Proofs.Try.t252.zero with | some z => z | none => .bool false, false⟩
noncomputable def d253 : TD := ⟨Go.Proofs.Try.t253.desc, Go.Proofs.Try.t253.size, Go.Proofs.Try.t253.bytes, match Go.Proofs.Try.t253.zero with | some z => z | none => .bool false, false⟩
noncomputable def d254 : TD := ⟨Go.Proofs.Try.t253.desc, Go.Proofs.Try.t254.size, Go.Proofs.Try.t254.bytes, match Go.Proofs.Try.t254.zero with | some z => z | none => .bool false, false⟩
noncomputable def d271 : TD := ⟨Go.Proofs.Try.t271.desc, Go.Proofs.Try.t271.size, Go.Proofs.Try.t271.bytes, match Go.Proofs.Try.t271.zero with | some z => z | none => .bool false, false⟩
noncomputable def d273 : TD := ⟨Go.Proofs.Try.t273.desc, Go.Proofs.Try.t273.size, Go.Proofs.Try.t273.bytes, match Go.Proofs.Try.t273.zero with | some z => z | none => .bool false, false⟩
noncomputable def d287 : TD := ⟨Go.Proofs.Try.t287.desc, Go.Proofs.Try.t287.size, Go.Proofs.Try.t287.bytes, match Go.Proofs.Try.t287.zero with | some z => z | none => .bool false, false⟩
noncomputable def d291 : TD := ⟨Go.Proofs.Try.t291.desc, Go.Proofs.Try.t291.size, Go.Proofs.Try.t291.bytes, match Go.Proofs.Try.t291.zero with | some z => z | none => .bool false, false⟩
noncomputable def d294 : TD := ⟨Go.Proofs.Try.t294.desc, Go.Proofs.Try.t294.size, Go.Proofs.Try.t294.bytes, match Go.Proofs.Try.t294.zero with | some z => z | none => .bool false, false⟩
noncomputable def d297 : TD := ⟨Go.Proofs.Try.t297.desc, Go.Proofs.Try.t297.size, Go.Proofs.Try.t297.bytes, match Go.Proofs.Try.t297.zero with | some z => z | none => .bool false, false⟩
noncomputable def d303 : TD := ⟨Go.Proofs.Try.t303.desc, Go.Proofs.Try.t303.size, Go.Proofs.Try.t303.bytes, match Go.Proofs.Try.t303.zero with | some z => z | none => .bool false, false⟩
noncomputable def d306 : TD := ⟨Go.Proofs.Try.t306.desc, Go.Proofs.Try.t306.size, Go.Proofs.Try.t306.bytes, match Go.Proofs.Try.t306.zero with | some z => z | none => .bool false, false⟩
noncomputable def T (t : Nat) : Option TD := match t with
  | 2 => some d2
  | 3 => some d3
  | 4 => some d4
  | 5 => some d5
  | 7 => some d7
  | 9 => some d9
  | 12 => some d12
  | 13 => some d13
  | 15 => some d15
  | 16 => some d16
  | 17 => some d17
  | 18 => some d18
  | 21 => some d21
  | 22 => some d22
  | 24 => some d24
  | 25 => some d25
  | 26 => some d26
  | 27 => some d27
  | 28 => some d28
  | 31 => some d31
  | 34 => some d34
  | 35 => some d35
  | 36 => some d36
  | 37 => some d37
  | 38 => some d38
  | 41 => some d41
  | 42 => some d42
  | 43 => some d43
  | 44 => some d44
  | 45 => some d45
  | 46 => some d46
  | 47 => some d47
  | 48 => some d48
  | 49 => some d49
  | 50 => some d50
  | 51 => some d51
  | 61 => some d61
  | 66 => some d66
  | 82 => some d82
  | 84 => some d84
  | 90 => some d90
  | 91 => some d91
  | 92 => some d92
  | 93 => some d93
  | 99 => some d99
  | 100 => some d100
  | 101 => some d101
  | 102 => some d102
  | 108 => some d108
  | 115 => some d115
  | 120 => some d120
  | 123 => some d123
  | 124 => some d124
  | 134 => some d134
  | 151 => some d151
  | 152 => some d152
  | 153 => some d153
  | 154 => some d154
  | 157 => some d157
  | 158 => some d158
  | 163 => some d163
  | 164 => some d164
  | 173 => some d173
  | 174 => some d174
  | 177 => some d177
  | 178 => some d178
  | 185 => some d185
  | 186 => some d186
  | 189 => some d189
  | 190 => some d190
  | 200 => some d200
  | 201 => some d201
  | 202 => some d202
  | 225 => some d225
  | 226 => some d226
  | 241 => some d241
  | 242 => some d242
  | 243 => some d243
  | 252 => some d252
  | 253 => some d253
  | 254 => some d254
  | 271 => some d271
  | 273 => some d273
  | 287 => some d287
  | 291 => some d291
  | 294 => some d294
  | 297 => some d297
  | 303 => some d303
  | 306 => some d306
  | _ => none
def RowOk (t : Nat) (d : TD) : Prop := Go.Proofs.Try.prog.underlying t = some d.und ∧ (∃ i, Go.Proofs.Try.prog.info? t = some i ∧ i.size = d.size ∧ i.bytes = d.bytes ∧ i.zero = some d.zero) ∧ (∀ x ∈ d.zero.cells.toList, x.oneCell' = true) ∧ (d.eqs = true → Go.Proofs.Try.prog.stoodInHeld t = false ∧ Go.Proofs.Try.prog.eqGuardType Go.Proofs.Try.prog.depth t = false ∧ (fieldsOf d.und).all (fun f => f.name != "_") = true)
theorem ok2 : RowOk 2 d2 := ⟨by kernel_rfl, ⟨Go.Proofs.Try.t2, by kernel_rfl, by kernel_rfl, by kernel_rfl, by kernel_rfl⟩, List.all_eq_true.1 (by kernel_rfl), fun h => by cases h⟩
theorem ok3 : RowOk 3 d3 := ⟨by kernel_rfl, ⟨Go.Proofs.Try.t3, by kernel_rfl, by kernel_rfl, by kernel_rfl, by kernel_rfl⟩, List.all_eq_true.1 (by kernel_rfl), fun h => by cases h⟩
theorem ok4 : RowOk 4 d4 := ⟨by kernel_rfl, ⟨Go.Proofs.Try.t4, by kernel_rfl, by kernel_rfl, by kernel_rfl, by kernel_rfl⟩, List.all_eq_true.1 (by kernel_rfl), fun h => by cases h⟩
theorem ok5 : RowOk 5 d5 := ⟨by kernel_rfl, ⟨Go.Proofs.Try.t5, by kernel_rfl, by kernel_rfl, by kernel_rfl, by kernel_rfl⟩, List.all_eq_true.1 (by kernel_rfl), fun h => by cases h⟩
theorem ok7 : RowOk 7 d7 := ⟨by kernel_rfl, ⟨Go.Proofs.Try.t7, by kernel_rfl, by kernel_rfl, by kernel_rfl, by kernel_rfl⟩, List.all_eq_true.1 (by kernel_rfl), fun h => by cases h⟩
theorem ok9 : RowOk 9 d9 := ⟨by kernel_rfl, ⟨Go.Proofs.Try.t9, by kernel_rfl, by kernel_rfl, by kernel_rfl, by kernel_rfl⟩, List.all_eq_true.1 (by kernel_rfl), fun h => by cases h⟩
theorem ok12 : RowOk 12 d12 := ⟨by kernel_rfl, ⟨Go.Proofs.Try.t12, by kernel_rfl, by kernel_rfl, by kernel_rfl, by kernel_rfl⟩, List.all_eq_true.1 (by kernel_rfl), fun h => by cases h⟩
theorem ok13 : RowOk 13 d13 := ⟨by kernel_rfl, ⟨Go.Proofs.Try.t13, by kernel_rfl, by kernel_rfl, by kernel_rfl, by kernel_rfl⟩, List.all_eq_true.1 (by kernel_rfl), fun h => by cases h⟩
theorem ok15 : RowOk 15 d15 := ⟨by kernel_rfl, ⟨Go.Proofs.Try.t15, by kernel_rfl, by kernel_rfl, by kernel_rfl, by kernel_rfl⟩, List.all_eq_true.1 (by kernel_rfl), fun h => by cases h⟩
theorem ok16 : RowOk 16 d16 := ⟨by kernel_rfl, ⟨Go.Proofs.Try.t16, by kernel_rfl, by kernel_rfl, by kernel_rfl, by kernel_rfl⟩, List.all_eq_true.1 (by kernel_rfl), fun h => by cases h⟩
theorem ok17 : RowOk 17 d17 := ⟨by kernel_rfl, ⟨Go.Proofs.Try.t17, by kernel_rfl, by kernel_rfl, by kernel_rfl, by kernel_rfl⟩, List.all_eq_true.1 (by kernel_rfl), fun h => by cases h⟩
theorem ok18 : RowOk 18 d18 := ⟨by kernel_rfl, ⟨Go.Proofs.Try.t18, by kernel_rfl, by kernel_rfl, by kernel_rfl, by kernel_rfl⟩, List.all_eq_true.1 (by kernel_rfl), fun h => by cases h⟩
theorem ok21 : RowOk 21 d21 := ⟨by kernel_rfl, ⟨Go.Proofs.Try.t21, by kernel_rfl, by kernel_rfl, by kernel_rfl, by kernel_rfl⟩, List.all_eq_true.1 (by kernel_rfl), fun h => by cases h⟩
theorem ok22 : RowOk 22 d22 := ⟨by kernel_rfl, ⟨Go.Proofs.Try.t22, by kernel_rfl, by kernel_rfl, by kernel_rfl, by kernel_rfl⟩, List.all_eq_true.1 (by kernel_rfl), fun h => by cases h⟩
theorem ok24 : RowOk 24 d24 := ⟨by kernel_rfl, ⟨Go.Proofs.Try.t24, by kernel_rfl, by kernel_rfl, by kernel_rfl, by kernel_rfl⟩, List.all_eq_true.1 (by kernel_rfl), fun h => by cases h⟩
theorem ok25 : RowOk 25 d25 := ⟨by kernel_rfl, ⟨Go.Proofs.Try.t25, by kernel_rfl, by kernel_rfl, by kernel_rfl, by kernel_rfl⟩, List.all_eq_true.1 (by kernel_rfl), fun _ => ⟨by kernel_rfl, by kernel_rfl, by kernel_rfl⟩⟩
theorem ok26 : RowOk 26 d26 := ⟨by kernel_rfl, ⟨Go.Proofs.Try.t26, by kernel_rfl, by kernel_rfl, by kernel_rfl, by kernel_rfl⟩, List.all_eq_true.1 (by kernel_rfl), fun _ => ⟨by kernel_rfl, by kernel_rfl, by kernel_rfl⟩⟩
theorem ok27 : RowOk 27 d27 := ⟨by kernel_rfl, ⟨Go.Proofs.Try.t27, by kernel_rfl, by kernel_rfl, by kernel_rfl, by kernel_rfl⟩, List.all_eq_true.1 (by kernel_rfl), fun _ => ⟨by kernel_rfl, by kernel_rfl, by kernel_rfl⟩⟩
theorem ok28 : RowOk 28 d28 := ⟨by kernel_rfl, ⟨Go.Proofs.Try.t28, by kernel_rfl, by kernel_rfl, by kernel_rfl, by kernel_rfl⟩, List.all_eq_true.1 (by kernel_rfl), fun _ => ⟨by kernel_rfl, by kernel_rfl, by kernel_rfl⟩⟩
theorem ok31 : RowOk 31 d31 := ⟨by kernel_rfl, ⟨Go.Proofs.Try.t31, by kernel_rfl, by kernel_rfl, by kernel_rfl, by kernel_rfl⟩, List.all_eq_true.1 (by kernel_rfl), fun h => by cases h⟩
theorem ok34 : RowOk 34 d34 := ⟨by kernel_rfl, ⟨Go.Proofs.Try.t34, by kernel_rfl, by kernel_rfl, by kernel_rfl, by kernel_rfl⟩, List.all_eq_true.1 (by kernel_rfl), fun _ => ⟨by kernel_rfl, by kernel_rfl, by kernel_rfl⟩⟩
theorem ok35 : RowOk 35 d35 := ⟨by kernel_rfl, ⟨Go.Proofs.Try.t35, by kernel_rfl, by kernel_rfl, by kernel_rfl, by kernel_rfl⟩, List.all_eq_true.1 (by kernel_rfl), fun _ => ⟨by kernel_rfl, by kernel_rfl, by kernel_rfl⟩⟩
theorem ok36 : RowOk 36 d36 := ⟨by kernel_rfl, ⟨Go.Proofs.Try.t36, by kernel_rfl, by kernel_rfl, by kernel_rfl, by kernel_rfl⟩, List.all_eq_true.1 (by kernel_rfl), fun h => by cases h⟩
theorem ok37 : RowOk 37 d37 := ⟨by kernel_rfl, ⟨Go.Proofs.Try.t37, by kernel_rfl, by kernel_rfl, by kernel_rfl, by kernel_rfl⟩, List.all_eq_true.1 (by kernel_rfl), fun _ => ⟨by kernel_rfl, by kernel_rfl, by kernel_rfl⟩⟩
theorem ok38 : RowOk 38 d38 := ⟨by kernel_rfl, ⟨Go.Proofs.Try.t38, by kernel_rfl, by kernel_rfl, by kernel_rfl, by kernel_rfl⟩, List.all_eq_true.1 (by kernel_rfl), fun _ => ⟨by kernel_rfl, by kernel_rfl, by kernel_rfl⟩⟩
theorem ok41 : RowOk 41 d41 := ⟨by kernel_rfl, ⟨Go.Proofs.Try.t41, by kernel_rfl, by kernel_rfl, by kernel_rfl, by kernel_rfl⟩, List.all_eq_true.1 (by kernel_rfl), fun _ => ⟨by kernel_rfl, by kernel_rfl, by kernel_rfl⟩⟩
theorem ok42 : RowOk 42 d42 := ⟨by kernel_rfl, ⟨Go.Proofs.Try.t42, by kernel_rfl, by kernel_rfl, by kernel_rfl, by kernel_rfl⟩, List.all_eq_true.1 (by kernel_rfl), fun _ => ⟨by kernel_rfl, by kernel_rfl, by kernel_rfl⟩⟩
theorem ok43 : RowOk 43 d43 := ⟨by kernel_rfl, ⟨Go.Proofs.Try.t43, by kernel_rfl, by kernel_rfl, by kernel_rfl, by kernel_rfl⟩, List.all_eq_true.1 (by kernel_rfl), fun _ => ⟨by kernel_rfl, by kernel_rfl, by kernel_rfl⟩⟩
theorem ok44 : RowOk 44 d44 := ⟨by kernel_rfl, ⟨Go.Proofs.Try.t44, by kernel_rfl, by kernel_rfl, by kernel_rfl, by kernel_rfl⟩, List.all_eq_true.1 (by kernel_rfl), fun _ => ⟨by kernel_rfl, by kernel_rfl, by kernel_rfl⟩⟩
theorem ok45 : RowOk 45 d45 := ⟨by kernel_rfl, ⟨Go.Proofs.Try.t45, by kernel_rfl, by kernel_rfl, by kernel_rfl, by kernel_rfl⟩, List.all_eq_true.1 (by kernel_rfl), fun h => by cases h⟩
theorem ok46 : RowOk 46 d46 := ⟨by kernel_rfl, ⟨Go.Proofs.Try.t46, by kernel_rfl, by kernel_rfl, by kernel_rfl, by kernel_rfl⟩, List.all_eq_true.1 (by kernel_rfl), fun h => by cases h⟩
theorem ok47 : RowOk 47 d47 := ⟨by kernel_rfl, ⟨Go.Proofs.Try.t47, by kernel_rfl, by kernel_rfl, by kernel_rfl, by kernel_rfl⟩, List.all_eq_true.1 (by kernel_rfl), fun h => by cases h⟩
theorem ok48 : RowOk 48 d48 := ⟨by kernel_rfl, ⟨Go.Proofs.Try.t48, by kernel_rfl, by kernel_rfl, by kernel_rfl, by kernel_rfl⟩, List.all_eq_true.1 (by kernel_rfl), fun _ => ⟨by kernel_rfl, by kernel_rfl, by kernel_rfl⟩⟩
theorem ok49 : RowOk 49 d49 := ⟨by kernel_rfl, ⟨Go.Proofs.Try.t49, by kernel_rfl, by kernel_rfl, by kernel_rfl, by kernel_rfl⟩, List.all_eq_true.1 (by kernel_rfl), fun _ => ⟨by kernel_rfl, by kernel_rfl, by kernel_rfl⟩⟩
theorem ok50 : RowOk 50 d50 := ⟨by kernel_rfl, ⟨Go.Proofs.Try.t50, by kernel_rfl, by kernel_rfl, by kernel_rfl, by kernel_rfl⟩, List.all_eq_true.1 (by kernel_rfl), fun _ => ⟨by kernel_rfl, by kernel_rfl, by kernel_rfl⟩⟩
theorem ok51 : RowOk 51 d51 := ⟨by kernel_rfl, ⟨Go.Proofs.Try.t51, by kernel_rfl, by kernel_rfl, by kernel_rfl, by kernel_rfl⟩, List.all_eq_true.1 (by kernel_rfl), fun _ => ⟨by kernel_rfl, by kernel_rfl, by kernel_rfl⟩⟩
theorem ok61 : RowOk 61 d61 := ⟨by kernel_rfl, ⟨Go.Proofs.Try.t61, by kernel_rfl, by kernel_rfl, by kernel_rfl, by kernel_rfl⟩, List.all_eq_true.1 (by kernel_rfl), fun h => by cases h⟩
theorem ok66 : RowOk 66 d66 := ⟨by kernel_rfl, ⟨Go.Proofs.Try.t66, by kernel_rfl, by kernel_rfl, by kernel_rfl, by kernel_rfl⟩, List.all_eq_true.1 (by kernel_rfl), fun h => by cases h⟩
theorem ok82 : RowOk 82 d82 := ⟨by kernel_rfl, ⟨Go.Proofs.Try.t82, by kernel_rfl, by kernel_rfl, by kernel_rfl, by kernel_rfl⟩, List.all_eq_true.1 (by kernel_rfl), fun h => by cases h⟩
theorem ok84 : RowOk 84 d84 := ⟨by kernel_rfl, ⟨Go.Proofs.Try.t84, by kernel_rfl, by kernel_rfl, by kernel_rfl, by kernel_rfl⟩, List.all_eq_true.1 (by kernel_rfl), fun h => by cases h⟩
theorem ok90 : RowOk 90 d90 := ⟨by kernel_rfl, ⟨Go.Proofs.Try.t90, by kernel_rfl, by kernel_rfl, by kernel_rfl, by kernel_rfl⟩, List.all_eq_true.1 (by kernel_rfl), fun h => by cases h⟩
theorem ok91 : RowOk 91 d91 := ⟨by kernel_rfl, ⟨Go.Proofs.Try.t91, by kernel_rfl, by kernel_rfl, by kernel_rfl, by kernel_rfl⟩, List.all_eq_true.1 (by kernel_rfl), fun h => by cases h⟩
theorem ok92 : RowOk 92 d92 := ⟨by kernel_rfl, ⟨Go.Proofs.Try.t92, by kernel_rfl, by kernel_rfl, by kernel_rfl, by kernel_rfl⟩, List.all_eq_true.1 (by kernel_rfl), fun _ => ⟨by kernel_rfl, by kernel_rfl, by kernel_rfl⟩⟩
theorem ok93 : RowOk 93 d93 := ⟨by kernel_rfl, ⟨Go.Proofs.Try.t93, by kernel_rfl, by kernel_rfl, by kernel_rfl, by kernel_rfl⟩, List.all_eq_true.1 (by kernel_rfl), fun _ => ⟨by kernel_rfl, by kernel_rfl, by kernel_rfl⟩⟩
theorem ok99 : RowOk 99 d99 := ⟨by kernel_rfl, ⟨Go.Proofs.Try.t99, by kernel_rfl, by kernel_rfl, by kernel_rfl, by kernel_rfl⟩, List.all_eq_true.1 (by kernel_rfl), fun h => by cases h⟩
theorem ok100 : RowOk 100 d100 := ⟨by kernel_rfl, ⟨Go.Proofs.Try.t100, by kernel_rfl, by kernel_rfl, by kernel_rfl, by kernel_rfl⟩, List.all_eq_true.1 (by kernel_rfl), fun _ => ⟨by kernel_rfl, by kernel_rfl, by kernel_rfl⟩⟩
theorem ok101 : RowOk 101 d101 := ⟨by kernel_rfl, ⟨Go.Proofs.Try.t101, by kernel_rfl, by kernel_rfl, by kernel_rfl, by kernel_rfl⟩, List.all_eq_true.1 (by kernel_rfl), fun _ => ⟨by kernel_rfl, by kernel_rfl, by kernel_rfl⟩⟩
theorem ok102 : RowOk 102 d102 := ⟨by kernel_rfl, ⟨Go.Proofs.Try.t102, by kernel_rfl, by kernel_rfl, by kernel_rfl, by kernel_rfl⟩, List.all_eq_true.1 (by kernel_rfl), fun _ => ⟨by kernel_rfl, by kernel_rfl, by kernel_rfl⟩⟩
theorem ok108 : RowOk 108 d108 := ⟨by kernel_rfl, ⟨Go.Proofs.Try.t108, by kernel_rfl, by kernel_rfl, by kernel_rfl, by kernel_rfl⟩, List.all_eq_true.1 (by kernel_rfl), fun h => by cases h⟩
theorem ok115 : RowOk 115 d115 := ⟨by kernel_rfl, ⟨Go.Proofs.Try.t115, by kernel_rfl, by kernel_rfl, by kernel_rfl, by kernel_rfl⟩, List.all_eq_true.1 (by kernel_rfl), fun h => by cases h⟩
theorem ok120 : RowOk 120 d120 := ⟨by kernel_rfl, ⟨Go.Proofs.Try.t120, by kernel_rfl, by kernel_rfl, by kernel_rfl, by kernel_rfl⟩, List.all_eq_true.1 (by kernel_rfl), fun h => by cases h⟩
theorem ok123 : RowOk 123 d123 := ⟨by kernel_rfl, ⟨Go.Proofs.Try.t123, by kernel_rfl, by kernel_rfl, by kernel_rfl, by kernel_rfl⟩, List.all_eq_true.1 (by kernel_rfl), fun h => by cases h⟩
theorem ok124 : RowOk 124 d124 := ⟨by kernel_rfl, ⟨Go.Proofs.Try.t124, by kernel_rfl, by kernel_rfl, by kernel_rfl, by kernel_rfl⟩, List.all_eq_true.1 (by kernel_rfl), fun h => by cases h⟩
theorem ok134 : RowOk 134 d134 := ⟨by kernel_rfl, ⟨Go.Proofs.Try.t134, by kernel_rfl, by kernel_rfl, by kernel_rfl, by kernel_rfl⟩, List.all_eq_true.1 (by kernel_rfl), fun h => by cases h⟩
theorem ok151 : RowOk 151 d151 := ⟨by kernel_rfl, ⟨Go.Proofs.Try.t151, by kernel_rfl, by kernel_rfl, by kernel_rfl, by kernel_rfl⟩, List.all_eq_true.1 (by kernel_rfl), fun h => by cases h⟩
theorem ok152 : RowOk 152 d152 := ⟨by kernel_rfl, ⟨Go.Proofs.Try.t152, by kernel_rfl, by kernel_rfl, by kernel_rfl, by kernel_rfl⟩, List.all_eq_true.1 (by kernel_rfl), fun h => by cases h⟩
theorem ok153 : RowOk 153 d153 := ⟨by kernel_rfl, ⟨Go.Proofs.Try.t153, by kernel_rfl, by kernel_rfl, by kernel_rfl, by kernel_rfl⟩, List.all_eq_true.1 (by kernel_rfl), fun h => by cases h⟩
theorem ok154 : RowOk 154 d154 := ⟨by kernel_rfl, ⟨Go.Proofs.Try.t154, by kernel_rfl, by kernel_rfl, by kernel_rfl, by kernel_rfl⟩, List.all_eq_true.1 (by kernel_rfl), fun h => by cases h⟩
theorem ok157 : RowOk 157 d157 := ⟨by kernel_rfl, ⟨Go.Proofs.Try.t157, by kernel_rfl, by kernel_rfl, by kernel_rfl, by kernel_rfl⟩, List.all_eq_true.1 (by kernel_rfl), fun h => by cases h⟩
theorem ok158 : RowOk 158 d158 := ⟨by kernel_rfl, ⟨Go.Proofs.Try.t158, by kernel_rfl, by kernel_rfl, by kernel_rfl, by kernel_rfl⟩, List.all_eq_true.1 (by kernel_rfl), fun h => by cases h⟩
theorem ok163 : RowOk 163 d163 := ⟨by kernel_rfl, ⟨Go.Proofs.Try.t163, by kernel_rfl, by kernel_rfl, by kernel_rfl, by kernel_rfl⟩, List.all_eq_true.1 (by kernel_rfl), fun _ => ⟨by kernel_rfl, by kernel_rfl, by kernel_rfl⟩⟩
theorem ok164 : RowOk 164 d164 := ⟨by kernel_rfl, ⟨Go.Proofs.Try.t164, by kernel_rfl, by kernel_rfl, by kernel_rfl, by kernel_rfl⟩, List.all_eq_true.1 (by kernel_rfl), fun _ => ⟨by kernel_rfl, by kernel_rfl, by kernel_rfl⟩⟩
theorem ok173 : RowOk 173 d173 := ⟨by kernel_rfl, ⟨Go.Proofs.Try.t173, by kernel_rfl, by kernel_rfl, by kernel_rfl, by kernel_rfl⟩, List.all_eq_true.1 (by kernel_rfl), fun h => by cases h⟩
theorem ok174 : RowOk 174 d174 := ⟨by kernel_rfl, ⟨Go.Proofs.Try.t174, by kernel_rfl, by kernel_rfl, by kernel_rfl, by kernel_rfl⟩, List.all_eq_true.1 (by kernel_rfl), fun h => by cases h⟩
theorem ok177 : RowOk 177 d177 := ⟨by kernel_rfl, ⟨Go.Proofs.Try.t177, by kernel_rfl, by kernel_rfl, by kernel_rfl, by kernel_rfl⟩, List.all_eq_true.1 (by kernel_rfl), fun _ => ⟨by kernel_rfl, by kernel_rfl, by kernel_rfl⟩⟩
theorem ok178 : RowOk 178 d178 := ⟨by kernel_rfl, ⟨Go.Proofs.Try.t178, by kernel_rfl, by kernel_rfl, by kernel_rfl, by kernel_rfl⟩, List.all_eq_true.1 (by kernel_rfl), fun _ => ⟨by kernel_rfl, by kernel_rfl, by kernel_rfl⟩⟩
theorem ok185 : RowOk 185 d185 := ⟨by kernel_rfl, ⟨Go.Proofs.Try.t185, by kernel_rfl, by kernel_rfl, by kernel_rfl, by kernel_rfl⟩, List.all_eq_true.1 (by kernel_rfl), fun h => by cases h⟩
theorem ok186 : RowOk 186 d186 := ⟨by kernel_rfl, ⟨Go.Proofs.Try.t186, by kernel_rfl, by kernel_rfl, by kernel_rfl, by kernel_rfl⟩, List.all_eq_true.1 (by kernel_rfl), fun h => by cases h⟩
theorem ok189 : RowOk 189 d189 := ⟨by kernel_rfl, ⟨Go.Proofs.Try.t189, by kernel_rfl, by kernel_rfl, by kernel_rfl, by kernel_rfl⟩, List.all_eq_true.1 (by kernel_rfl), fun _ => ⟨by kernel_rfl, by kernel_rfl, by kernel_rfl⟩⟩
theorem ok190 : RowOk 190 d190 := ⟨by kernel_rfl, ⟨Go.Proofs.Try.t190, by kernel_rfl, by kernel_rfl, by kernel_rfl, by kernel_rfl⟩, List.all_eq_true.1 (by kernel_rfl), fun _ => ⟨by kernel_rfl, by kernel_rfl, by kernel_rfl⟩⟩
theorem ok200 : RowOk 200 d200 := ⟨by kernel_rfl, ⟨Go.Proofs.Try.t200, by kernel_rfl, by kernel_rfl, by kernel_rfl, by kernel_rfl⟩, List.all_eq_true.1 (by kernel_rfl), fun h => by cases h⟩
theorem ok201 : RowOk 201 d201 := ⟨by kernel_rfl, ⟨Go.Proofs.Try.t201, by kernel_rfl, by kernel_rfl, by kernel_rfl, by kernel_rfl⟩, List.all_eq_true.1 (by kernel_rfl), fun h => by cases h⟩
theorem ok202 : RowOk 202 d202 := ⟨by kernel_rfl, ⟨Go.Proofs.Try.t202, by kernel_rfl, by kernel_rfl, by kernel_rfl, by kernel_rfl⟩, List.all_eq_true.1 (by kernel_rfl), fun h => by cases h⟩
theorem ok225 : RowOk 225 d225 := ⟨by kernel_rfl, ⟨Go.Proofs.Try.t225, by kernel_rfl, by kernel_rfl, by kernel_rfl, by kernel_rfl⟩, List.all_eq_true.1 (by kernel_rfl), fun _ => ⟨by kernel_rfl, by kernel_rfl, by kernel_rfl⟩⟩
theorem ok226 : RowOk 226 d226 := ⟨by kernel_rfl, ⟨Go.Proofs.Try.t226, by kernel_rfl, by kernel_rfl, by kernel_rfl, by kernel_rfl⟩, List.all_eq_true.1 (by kernel_rfl), fun _ => ⟨by kernel_rfl, by kernel_rfl, by kernel_rfl⟩⟩
theorem ok241 : RowOk 241 d241 := ⟨by kernel_rfl, ⟨Go.Proofs.Try.t241, by kernel_rfl, by kernel_rfl, by kernel_rfl, by kernel_rfl⟩, List.all_eq_true.1 (by kernel_rfl), fun h => by cases h⟩
theorem ok242 : RowOk 242 d242 := ⟨by kernel_rfl, ⟨Go.Proofs.Try.t242, by kernel_rfl, by kernel_rfl, by kernel_rfl, by kernel_rfl⟩, List.all_eq_true.1 (by kernel_rfl), fun h => by cases h⟩
theorem ok243 : RowOk 243 d243 := ⟨by kernel_rfl, ⟨Go.Proofs.Try.t243, by kernel_rfl, by kernel_rfl, by kernel_rfl, by kernel_rfl⟩, List.all_eq_true.1 (by kernel_rfl), fun h => by cases h⟩
theorem ok252 : RowOk 252 d252 := ⟨by kernel_rfl, ⟨Go.Proofs.Try.t252, by kernel_rfl, by kernel_rfl, by kernel_rfl, by kernel_rfl⟩, List.all_eq_true.1 (by kernel_rfl), fun h => by cases h⟩
theorem ok253 : RowOk 253 d253 := ⟨by kernel_rfl, ⟨Go.Proofs.Try.t253, by kernel_rfl, by kernel_rfl, by kernel_rfl, by kernel_rfl⟩, List.all_eq_true.1 (by kernel_rfl), fun h => by cases h⟩
theorem ok254 : RowOk 254 d254 := ⟨by kernel_rfl, ⟨Go.Proofs.Try.t254, by kernel_rfl, by kernel_rfl, by kernel_rfl, by kernel_rfl⟩, List.all_eq_true.1 (by kernel_rfl), fun h => by cases h⟩
theorem ok271 : RowOk 271 d271 := ⟨by kernel_rfl, ⟨Go.Proofs.Try.t271, by kernel_rfl, by kernel_rfl, by kernel_rfl, by kernel_rfl⟩, List.all_eq_true.1 (by kernel_rfl), fun h => by cases h⟩
theorem ok273 : RowOk 273 d273 := ⟨by kernel_rfl, ⟨Go.Proofs.Try.t273, by kernel_rfl, by kernel_rfl, by kernel_rfl, by kernel_rfl⟩, List.all_eq_true.1 (by kernel_rfl), fun h => by cases h⟩
theorem ok287 : RowOk 287 d287 := ⟨by kernel_rfl, ⟨Go.Proofs.Try.t287, by kernel_rfl, by kernel_rfl, by kernel_rfl, by kernel_rfl⟩, List.all_eq_true.1 (by kernel_rfl), fun h => by cases h⟩
theorem ok291 : RowOk 291 d291 := ⟨by kernel_rfl, ⟨Go.Proofs.Try.t291, by kernel_rfl, by kernel_rfl, by kernel_rfl, by kernel_rfl⟩, List.all_eq_true.1 (by kernel_rfl), fun h => by cases h⟩
theorem ok294 : RowOk 294 d294 := ⟨by kernel_rfl, ⟨Go.Proofs.Try.t294, by kernel_rfl, by kernel_rfl, by kernel_rfl, by kernel_rfl⟩, List.all_eq_true.1 (by kernel_rfl), fun h => by cases h⟩
theorem ok297 : RowOk 297 d297 := ⟨by kernel_rfl, ⟨Go.Proofs.Try.t297, by kernel_rfl, by kernel_rfl, by kernel_rfl, by kernel_rfl⟩, List.all_eq_true.1 (by kernel_rfl), fun h => by cases h⟩
theorem ok303 : RowOk 303 d303 := ⟨by kernel_rfl, ⟨Go.Proofs.Try.t303, by kernel_rfl, by kernel_rfl, by kernel_rfl, by kernel_rfl⟩, List.all_eq_true.1 (by kernel_rfl), fun h => by cases h⟩
theorem ok306 : RowOk 306 d306 := ⟨by kernel_rfl, ⟨Go.Proofs.Try.t306, by kernel_rfl, by kernel_rfl, by kernel_rfl, by kernel_rfl⟩, List.all_eq_true.1 (by kernel_rfl), fun h => by cases h⟩
theorem tok : TOk Go.Proofs.Try.prog T := by
  intro t d h
  unfold T at h
  split at h
  · injection h with h; subst h; exact ok2
  · injection h with h; subst h; exact ok3
  · injection h with h; subst h; exact ok4
  · injection h with h; subst h; exact ok5
  · injection h with h; subst h; exact ok7
  · injection h with h; subst h; exact ok9
  · injection h with h; subst h; exact ok12
  · injection h with h; subst h; exact ok13
  · injection h with h; subst h; exact ok15
  · injection h with h; subst h; exact ok16
  · injection h with h; subst h; exact ok17
  · injection h with h; subst h; exact ok18
  · injection h with h; subst h; exact ok21
  · injection h with h; subst h; exact ok22
  · injection h with h; subst h; exact ok24
  · injection h with h; subst h; exact ok25
  · injection h with h; subst h; exact ok26
  · injection h with h; subst h; exact ok27
  · injection h with h; subst h; exact ok28
  · injection h with h; subst h; exact ok31
  · injection h with h; subst h; exact ok34
  · injection h with h; subst h; exact ok35
  · injection h with h; subst h; exact ok36
  · injection h with h; subst h; exact ok37
  · injection h with h; subst h; exact ok38
  · injection h with h; subst h; exact ok41
  · injection h with h; subst h; exact ok42
  · injection h with h; subst h; exact ok43
  · injection h with h; subst h; exact ok44
  · injection h with h; subst h; exact ok45
  · injection h with h; subst h; exact ok46
  · injection h with h; subst h; exact ok47
  · injection h with h; subst h; exact ok48
  · injection h with h; subst h; exact ok49
  · injection h with h; subst h; exact ok50
  · injection h with h; subst h; exact ok51
  · injection h with h; subst h; exact ok61
  · injection h with h; subst h; exact ok66
  · injection h with h; subst h; exact ok82
  · injection h with h; subst h; exact ok84
  · injection h with h; subst h; exact ok90
  · injection h with h; subst h; exact ok91
  · injection h with h; subst h; exact ok92
  · injection h with h; subst h; exact ok93
  · injection h with h; subst h; exact ok99
  · injection h with h; subst h; exact ok100
  · injection h with h; subst h; exact ok101
  · injection h with h; subst h; exact ok102
  · injection h with h; subst h; exact ok108
  · injection h with h; subst h; exact ok115
  · injection h with h; subst h; exact ok120
  · injection h with h; subst h; exact ok123
  · injection h with h; subst h; exact ok124
  · injection h with h; subst h; exact ok134
  · injection h with h; subst h; exact ok151
  · injection h with h; subst h; exact ok152
  · injection h with h; subst h; exact ok153
  · injection h with h; subst h; exact ok154
  · injection h with h; subst h; exact ok157
  · injection h with h; subst h; exact ok158
  · injection h with h; subst h; exact ok163
  · injection h with h; subst h; exact ok164
  · injection h with h; subst h; exact ok173
  · injection h with h; subst h; exact ok174
  · injection h with h; subst h; exact ok177
  · injection h with h; subst h; exact ok178
  · injection h with h; subst h; exact ok185
  · injection h with h; subst h; exact ok186
  · injection h with h; subst h; exact ok189
  · injection h with h; subst h; exact ok190
  · injection h with h; subst h; exact ok200
  · injection h with h; subst h; exact ok201
  · injection h with h; subst h; exact ok202
  · injection h with h; subst h; exact ok225
  · injection h with h; subst h; exact ok226
  · injection h with h; subst h; exact ok241
  · injection h with h; subst h; exact ok242
  · injection h with h; subst h; exact ok243
  · injection h with h; subst h; exact ok252
  · injection h with h; subst h; exact ok253
  · injection h with h; subst h; exact ok254
  · injection h with h; subst h; exact ok271
  · injection h with h; subst h; exact ok273
  · injection h with h; subst h; exact ok287
  · injection h with h; subst h; exact ok291
  · injection h with h; subst h; exact ok294
  · injection h with h; subst h; exact ok297
  · injection h with h; subst h; exact ok303
  · injection h with h; subst h; exact ok306
  · cases h
end Go.Proofs.Ytlenieingkfjaaa.AM
