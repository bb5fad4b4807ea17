/-
  THE TABLE OF TYPES of the seat. No condition.
-/
import Derived.Test.YtmdlnjeppemipaaAmE
import Derived.Test.YtmdlnjeppemipaaProg
import Derived.KernelRfl
namespace Go.Proofs.Ytmdlnjeppemipaa.AM
open Go Go.Proofs Go.RowKit
set_option linter.unusedVariables false
set_option linter.unusedSimpArgs false
set_option maxRecDepth 100000

noncomputable def d2 : TD := ⟨Go.Proofs.Try.t2.desc, Go.Proofs.Try.t2.size, Go.Proofs.Try.t2.bytes, match Go.Proofs.Try.t2.zero with | some z => z | none => .bool false, false⟩
noncomputable def d3 : TD := ⟨Go.Proofs.Try.t3.desc, Go.Proofs.Try.t3.size, Go.Proofs.Try.t3.bytes, match Go.Proofs.Try.t3.zero with | some z => z | none => .bool false, false⟩
noncomputable def d4 : TD := ⟨Go.Proofs.Try.t4.desc, Go.Proofs.Try.t4.size, Go.Proofs.Try.t4.bytes, match Go.Proofs.Try.t4.zero with | some z => z | none => .bool false, false⟩
noncomputable def d5 : TD := ⟨Go.Proofs.Try.t5.desc, Go.Proofs.Try.t5.size, Go.Proofs.Try.t5.bytes, match Go.Proofs.Try.t5.zero with | some z => z | none => .bool false, false⟩
noncomputable def d7 : TD := ⟨Go.Proofs.Try.t7.desc, Go.Proofs.Try.t7.size, Go.Proofs.Try.t7.bytes, match Go.Proofs.Try.t7.zero with | some z => z | none => .bool false, false⟩
noncomputable def d9 : TD := ⟨Go.Proofs.Try.t9.desc, Go.Proofs.Try.t9.size, Go.Proofs.Try.t9.bytes, match Go.Proofs.Try.t9.zero with | some z => z | none => .bool false, false⟩
noncomputable def d12 : TD := ⟨Go.Proofs.Try.t12.desc, Go.Proofs.Try.t12.size, Go.Proofs.Try.t12.bytes, match Go.Proofs.Try.t12.zero with | some z => z | none => .bool false, false⟩
noncomputable def d13 : TD := ⟨Go.Proofs.Try.t13.desc, Go.Proofs.Try.t13.size, Go.Proofs.Try.t13.bytes, match Go.Proofs.Try.t13.zero with | some z => z | none => .bool false, false⟩
noncomputable def d15 : TD := ⟨Go.Proofs.Try.t15.desc, Go.Proofs.Try.t15.size, Go.Proofs.Try.t15.bytes, match Go.Proofs.Try.t15.zero with | some z => z | none => .bool false, false⟩
noncomputable def d16 : TD := ⟨Go.Proofs.Try.t16.desc, Go.Proofs.Try.t16.size, Go.Proofs.Try.t16.bytes, match Go.Proofs.Try.t16.zero with | some z => z | none => .bool false, false⟩
noncomputable def d17 : TD := ⟨Go.Proofs.Try.t17.desc, Go.Proofs.Try.t17.size, Go.Proofs.Try.t17.bytes, match Go.Proofs.Try.t17.zero with | some z => z | none => .bool false, false⟩
noncomputable def d18 : TD := ⟨Go.Proofs.Try.t18.desc, Go.Proofs.Try.t18.size, Go.Proofs.Try.t18.bytes, match Go.Proofs.Try.t18.zero with | some z => z | none => .bool false, false⟩
noncomputable def d21 : TD := ⟨Go.Proofs.Try.t21.desc, Go.Proofs.Try.t21.size, Go.Proofs.Try.t21.bytes, match Go.Proofs.Try.t21.zero with | some z => z | none => .bool false, false⟩
noncomputable def d22 : TD := ⟨Go.Proofs.Try.t22.desc, Go.Proofs.Try.t22.size, Go.Proofs.Try.t22.bytes, match Go.Proofs.Try.t22.zero with | some z => z | none => .bool false, false⟩
noncomputable def d24 : TD := ⟨Go.Proofs.Try.t24.desc, Go.Proofs.Try.t24.size, Go.Proofs.Try.t24.bytes, match Go.Proofs.Try.t24.zero with | some z => z | none => .bool false, false⟩
noncomputable def d25 : TD := ⟨Go.Proofs.Try.t25.desc, Go.Proofs.Try.t25.size, Go.Proofs.Try.t25.bytes, match Go.Proofs.Try.t25.zero with | some z => z | none => .bool false, true⟩
noncomputable def d26 : TD := ⟨Go.Proofs.Try.t25.desc, Go.Proofs.Try.t26.size, Go.Proofs.Try.t26.bytes, match Go.Proofs.Try.t26.zero with | some z => z | none => .bool false, true⟩
noncomputable def d27 : TD := ⟨Go.Proofs.Try.t27.desc, Go.Proofs.Try.t27.size, Go.Proofs.Try.t27.bytes, match Go.Proofs.Try.t27.zero with | some z => z | none => .bool false, true⟩
noncomputable def d28 : TD := ⟨Go.Proofs.Try.t27.desc, Go.Proofs.Try.t28.size, Go.Proofs.Try.t28.bytes, match Go.Proofs.Try.t28.zero with | some z => z | none => .bool false, true⟩
noncomputable def d34 : TD := ⟨Go.Proofs.Try.t34.desc, Go.Proofs.Try.t34.size, Go.Proofs.Try.t34.bytes, match Go.Proofs.Try.t34.zero with | some z => z | none => .bool false, false⟩
noncomputable def d35 : TD := ⟨Go.Proofs.Try.t35.desc, Go.Proofs.Try.t35.size, Go.Proofs.Try.t35.bytes, match Go.Proofs.Try.t35.zero with | some z => z | none => .bool false, true⟩
noncomputable def d36 : TD := ⟨Go.Proofs.Try.t35.desc, Go.Proofs.Try.t36.size, Go.Proofs.Try.t36.bytes, match Go.Proofs.Try.t36.zero with | some z => z | none => .bool false, true⟩
noncomputable def d46 : TD := ⟨Go.Proofs.Try.t27.desc, Go.Proofs.Try.t46.size, Go.Proofs.Try.t46.bytes, match Go.Proofs.Try.t46.zero with | some z => z | none => .bool false, true⟩
noncomputable def d49 : TD := ⟨Go.Proofs.Try.t49.desc, Go.Proofs.Try.t49.size, Go.Proofs.Try.t49.bytes, match Go.Proofs.Try.t49.zero with | some z => z | none => .bool false, false⟩
noncomputable def d54 : TD := ⟨Go.Proofs.Try.t54.desc, Go.Proofs.Try.t54.size, Go.Proofs.Try.t54.bytes, match Go.Proofs.Try.t54.zero with | some z => z | none => .bool false, true⟩
noncomputable def d55 : TD := ⟨Go.Proofs.Try.t54.desc, Go.Proofs.Try.t55.size, Go.Proofs.Try.t55.bytes, match Go.Proofs.Try.t55.zero with | some z => z | none => .bool false, true⟩
noncomputable def d56 : TD := ⟨Go.Proofs.Try.t56.desc, Go.Proofs.Try.t56.size, Go.Proofs.Try.t56.bytes, match Go.Proofs.Try.t56.zero with | some z => z | none => .bool false, true⟩
noncomputable def d57 : TD := ⟨Go.Proofs.Try.t56.desc, Go.Proofs.Try.t57.size, Go.Proofs.Try.t57.bytes, match Go.Proofs.Try.t57.zero with | some z => z | none => .bool false, true⟩
noncomputable def d58 : TD := ⟨Go.Proofs.Try.t58.desc, Go.Proofs.Try.t58.size, Go.Proofs.Try.t58.bytes, match Go.Proofs.Try.t58.zero with | some z => z | none => .bool false, true⟩
noncomputable def d59 : TD := ⟨Go.Proofs.Try.t58.desc, Go.Proofs.Try.t59.size, Go.Proofs.Try.t59.bytes, match Go.Proofs.Try.t59.zero with | some z => z | none => .bool false, true⟩
noncomputable def d60 : TD := ⟨Go.Proofs.Try.t60.desc, Go.Proofs.Try.t60.size, Go.Proofs.Try.t60.bytes, match Go.Proofs.Try.t60.zero with | some z => z | none => .bool false, true⟩
noncomputable def d61 : TD := ⟨Go.Proofs.Try.t60.desc, Go.Proofs.Try.t61.size, Go.Proofs.Try.t61.bytes, match Go.Proofs.Try.t61.zero with | some z => z | none => .bool false, true⟩
noncomputable def d62 : TD := ⟨Go.Proofs.Try.t62.desc, Go.Proofs.Try.t62.size, Go.Proofs.Try.t62.bytes, match Go.Proofs.Try.t62.zero with | some z => z | none => .bool false, true⟩
noncomputable def d63 : TD := ⟨Go.Proofs.Try.t62.desc, Go.Proofs.Try.t63.size, Go.Proofs.Try.t63.bytes, match Go.Proofs.Try.t63.zero with | some z => z | none => .bool false, true⟩
noncomputable def d64 : TD := ⟨Go.Proofs.Try.t64.desc, Go.Proofs.Try.t64.size, Go.Proofs.Try.t64.bytes, match Go.Proofs.Try.t64.zero with | some z => z | none => .bool false, true⟩
noncomputable def d65 : TD := ⟨Go.Proofs.Try.t64.desc, Go.Proofs.Try.t65.size, Go.Proofs.Try.t65.bytes, match Go.Proofs.Try.t65.zero with | some z => z | none => .bool false, true⟩
noncomputable def d67 : TD := ⟨Go.Proofs.Try.t67.desc, Go.Proofs.Try.t67.size, Go.Proofs.Try.t67.bytes, match Go.Proofs.Try.t67.zero with | some z => z | none => .bool false, true⟩
noncomputable def d68 : TD := ⟨Go.Proofs.Try.t67.desc, Go.Proofs.Try.t68.size, Go.Proofs.Try.t68.bytes, match Go.Proofs.Try.t68.zero with | some z => z | none => .bool false, true⟩
noncomputable def d69 : TD := ⟨Go.Proofs.Try.t56.desc, Go.Proofs.Try.t69.size, Go.Proofs.Try.t69.bytes, match Go.Proofs.Try.t69.zero with | some z => z | none => .bool false, true⟩
noncomputable def d70 : TD := ⟨Go.Proofs.Try.t70.desc, Go.Proofs.Try.t70.size, Go.Proofs.Try.t70.bytes, match Go.Proofs.Try.t70.zero with | some z => z | none => .bool false, true⟩
noncomputable def d71 : TD := ⟨Go.Proofs.Try.t70.desc, Go.Proofs.Try.t71.size, Go.Proofs.Try.t71.bytes, match Go.Proofs.Try.t71.zero with | some z => z | none => .bool false, true⟩
noncomputable def d72 : TD := ⟨Go.Proofs.Try.t60.desc, Go.Proofs.Try.t72.size, Go.Proofs.Try.t72.bytes, match Go.Proofs.Try.t72.zero with | some z => z | none => .bool false, true⟩
noncomputable def d73 : TD := ⟨Go.Proofs.Try.t73.desc, Go.Proofs.Try.t73.size, Go.Proofs.Try.t73.bytes, match Go.Proofs.Try.t73.zero with | some z => z | none => .bool false, true⟩
noncomputable def d74 : TD := ⟨Go.Proofs.Try.t73.desc, Go.Proofs.Try.t74.size, Go.Proofs.Try.t74.bytes, match Go.Proofs.Try.t74.zero with | some z => z | none => .bool false, true⟩
noncomputable def d75 : TD := ⟨Go.Proofs.Try.t75.desc, Go.Proofs.Try.t75.size, Go.Proofs.Try.t75.bytes, match Go.Proofs.Try.t75.zero with | some z => z | none => .bool false, true⟩
noncomputable def d76 : TD := ⟨Go.Proofs.Try.t75.desc, Go.Proofs.Try.t76.size, Go.Proofs.Try.t76.bytes, match Go.Proofs.Try.t76.zero with | some z => z | none => .bool false, true⟩
noncomputable def d87 : TD := ⟨Go.Proofs.Try.t87.desc, Go.Proofs.Try.t87.size, Go.Proofs.Try.t87.bytes, match Go.Proofs.Try.t87.zero with | some z => z | none => .bool false, false⟩
noncomputable def d88 : TD := ⟨Go.Proofs.Try.t88.desc, Go.Proofs.Try.t88.size, Go.Proofs.Try.t88.bytes, match Go.Proofs.Try.t88.zero with | some z => z | none => .bool false, true⟩
noncomputable def d89 : TD := ⟨Go.Proofs.Try.t88.desc, Go.Proofs.Try.t89.size, Go.Proofs.Try.t89.bytes, match Go.Proofs.Try.t89.zero with | some z => z | none => .bool false, true⟩
noncomputable def d96 : TD := ⟨Go.Proofs.Try.t96.desc, Go.Proofs.Try.t96.size, Go.Proofs.Try.t96.bytes, match Go.Proofs.Try.t96.zero with | some z => z | none => .bool false, false⟩
noncomputable def d100 : TD := ⟨Go.Proofs.Try.t100.desc, Go.Proofs.Try.t100.size, Go.Proofs.Try.t100.bytes, match Go.Proofs.Try.t100.zero with | some z => z | none => .bool false, false⟩
noncomputable def d101 : TD := ⟨Go.Proofs.Try.t101.desc, Go.Proofs.Try.t101.size, Go.Proofs.Try.t101.bytes, match Go.Proofs.Try.t101.zero with | some z => z | none => .bool false, false⟩
noncomputable def d105 : TD := ⟨Go.Proofs.Try.t105.desc, Go.Proofs.Try.t105.size, Go.Proofs.Try.t105.bytes, match Go.Proofs.Try.t105.zero with | some z => z | none => .bool false, false⟩
noncomputable def d106 : TD := ⟨Go.Proofs.Try.t106.desc, Go.Proofs.Try.t106.size, Go.Proofs.Try.t106.bytes, match Go.Proofs.Try.t106.zero with | some z => z | none => .bool false, false⟩
noncomputable def d107 : TD := ⟨Go.Proofs.Try.t107.desc, Go.Proofs.Try.t107.size, Go.Proofs.Try.t107.bytes, match Go.Proofs.Try.t107.zero with | some z => z | none => .bool false, false⟩
noncomputable def d108 : TD := ⟨Go.Proofs.Try.t108.desc, Go.Proofs.Try.t108.size, Go.Proofs.Try.t108.bytes, match Go.Proofs.Try.t108.zero with | some z => z | none => .bool false, true⟩
noncomputable def d109 : TD := ⟨Go.Proofs.Try.t108.desc, Go.Proofs.Try.t109.size, Go.Proofs.Try.t109.bytes, match Go.Proofs.Try.t109.zero with | some z => z | none => .bool false, true⟩
noncomputable def d121 : TD := ⟨Go.Proofs.Try.t121.desc, Go.Proofs.Try.t121.size, Go.Proofs.Try.t121.bytes, match Go.Proofs.Try.t121.zero with | some z => z | none => .bool false, false⟩
noncomputable def d124 : TD := ⟨Go.Proofs.Try.t124.desc, Go.Proofs.Try.t124.size, Go.Proofs.Try.t124.bytes, match Go.Proofs.Try.t124.zero with | some z => z | none => .bool false, false⟩
noncomputable def d125 : TD := ⟨Go.Proofs.Try.t124.desc, Go.Proofs.Try.t125.size, Go.Proofs.Try.t125.bytes, match Go.Proofs.Try.t125.zero with | some z => z | none => .bool false, false⟩
noncomputable def d130 : TD := ⟨Go.Proofs.Try.t130.desc, Go.Proofs.Try.t130.size, Go.Proofs.Try.t130.bytes, match Go.Proofs.Try.t130.zero with | some z => z | none => .bool false, false⟩
noncomputable def d135 : TD := ⟨Go.Proofs.Try.t135.desc, Go.Proofs.Try.t135.size, Go.Proofs.Try.t135.bytes, match Go.Proofs.Try.t135.zero with | some z => z | none => .bool false, true⟩
noncomputable def d136 : TD := ⟨Go.Proofs.Try.t135.desc, Go.Proofs.Try.t136.size, Go.Proofs.Try.t136.bytes, match Go.Proofs.Try.t136.zero with | some z => z | none => .bool false, true⟩
noncomputable def d138 : TD := ⟨Go.Proofs.Try.t138.desc, Go.Proofs.Try.t138.size, Go.Proofs.Try.t138.bytes, match Go.Proofs.Try.t138.zero with | some z => z | none => .bool false, false⟩
noncomputable def d139 : TD := ⟨Go.Proofs.Try.t139.desc, Go.Proofs.Try.t139.size, Go.Proofs.Try.t139.bytes, match Go.Proofs.Try.t139.zero with | some z => z | none => .bool false, false⟩
noncomputable def d140 : TD := ⟨Go.Proofs.Try.t140.desc, Go.Proofs.Try.t140.size, Go.Proofs.Try.t140.bytes, match Go.Proofs.Try.t140.zero with | some z => z | none => .bool false, false⟩
noncomputable def d141 : TD := ⟨Go.Proofs.Try.t141.desc, Go.Proofs.Try.t141.size, Go.Proofs.Try.t141.bytes, match Go.Proofs.Try.t141.zero with | some z => z | none => .bool false, true⟩
noncomputable def d142 : TD := ⟨Go.Proofs.Try.t141.desc, Go.Proofs.Try.t142.size, Go.Proofs.Try.t142.bytes, match Go.Proofs.Try.t142.zero with | some z => z | none => .bool false, true⟩
noncomputable def d143 : TD := ⟨Go.Proofs.Try.t143.desc, Go.Proofs.Try.t143.size, Go.Proofs.Try.t143.bytes, match Go.Proofs.Try.t143.zero with | some z => z | none => .bool false, false⟩
noncomputable def d148 : TD := ⟨Go.Proofs.Try.t148.desc, Go.Proofs.Try.t148.size, Go.Proofs.Try.t148.bytes, match Go.Proofs.Try.t148.zero with | some z => z | none => .bool false, false⟩
noncomputable def d150 : TD := ⟨Go.Proofs.Try.t150.desc, Go.Proofs.Try.t150.size, Go.Proofs.Try.t150.bytes, match Go.Proofs.Try.t150.zero with | some z => z | none => .bool false, false⟩
noncomputable def d151 : TD := ⟨Go.Proofs.Try.t150.desc, Go.Proofs.Try.t151.size, Go.Proofs.Try.t151.bytes, match Go.Proofs.Try.t151.zero with | some z => z | none => .bool false, false⟩
noncomputable def d175 : TD := ⟨Go.Proofs.Try.t175.desc, Go.Proofs.Try.t175.size, Go.Proofs.Try.t175.bytes, match Go.Proofs.Try.t175.zero with | some z => z | none => .bool false, false⟩
noncomputable def d176 : TD := ⟨Go.Proofs.Try.t176.desc, Go.Proofs.Try.t176.size, Go.Proofs.Try.t176.bytes, match Go.Proofs.Try.t176.zero with | some z => z | none => .bool false, false⟩
noncomputable def d177 : TD := ⟨Go.Proofs.Try.t176.desc, Go.Proofs.Try.t177.size, Go.Proofs.Try.t177.bytes, match Go.Proofs.Try.t177.zero with | some z => z | none => .bool false, false⟩
noncomputable def d182 : TD := ⟨Go.Proofs.Try.t182.desc, Go.Proofs.Try.t182.size, Go.Proofs.Try.t182.bytes, match Go.Proofs.Try.t182.zero with | some z => z | none => .bool false, false⟩
noncomputable def d184 : TD := ⟨Go.Proofs.Try.t184.desc, Go.Proofs.Try.t184.size, Go.Proofs.Try.t184.bytes, match Go.Proofs.Try.t184.zero with | some z => z | none => .bool false, false⟩
noncomputable def d185 : TD := ⟨Go.Proofs.Try.t184.desc, Go.Proofs.Try.t185.size, Go.Proofs.Try.t185.bytes, match Go.Proofs.Try.t185.zero with | some z => z | none => .bool false, false⟩
noncomputable def d211 : TD := ⟨Go.Proofs.Try.t211.desc, Go.Proofs.Try.t211.size, Go.Proofs.Try.t211.bytes, match Go.Proofs.Try.t211.zero with | some z => z | none => .bool false, false⟩
noncomputable def d212 : TD := ⟨Go.Proofs.Try.t212.desc, Go.Proofs.Try.t212.size, Go.Proofs.Try.t212.bytes, match Go.Proofs.Try.t212.zero with | some z => z | none => .bool false, false⟩
noncomputable def d213 : TD := ⟨Go.Proofs.Try.t212.desc, Go.Proofs.Try.t213.size, Go.Proofs.Try.t213.bytes, match Go.Proofs.Try.t213.zero with | some z => z | none => .bool false, false⟩
noncomputable def d219 : TD := ⟨Go.Proofs.Try.t219.desc, Go.Proofs.Try.t219.size, Go.Proofs.Try.t219.bytes, match Go.Proofs.Try.t219.zero with | some z => z | none => .bool false, false⟩
noncomputable def d221 : TD := ⟨Go.Proofs.Try.t221.desc, Go.Proofs.Try.t221.size, Go.Proofs.Try.t221.bytes, match Go.Proofs.Try.t221.zero with | some z => z | none => .bool false, false⟩
noncomputable def d222 : TD := ⟨Go.Proofs.Try.t222.desc, Go.Proofs.Try.t222.size, Go.Proofs.Try.t222.bytes, match Go.Proofs.Try.t222.zero with | some z => z | none => .bool false, false⟩
noncomputable def d223 : TD := ⟨Go.Proofs.Try.t222.desc, Go.Proofs.Try.t223.size, Go.Proofs.Try.t223.bytes, match Go.Proofs.Try.t223.zero with | some z => z | none => .bool false, false⟩
noncomputable def d245 : TD := ⟨Go.Proofs.Try.t245.desc, Go.Proofs.Try.t245.size, Go.Proofs.Try.t245.bytes, match Go.Proofs.Try.t245.zero with | some z => z | none => .bool false, false⟩
noncomputable def d246 : TD := ⟨Go.Proofs.Try.t246.desc, Go.Proofs.Try.t246.size, Go.Proofs.Try.t246.bytes, match Go.Proofs.Try.t246.zero with | some z => z | none => .bool false, false⟩
noncomputable def d249 : TD := ⟨Go.Proofs.Try.t249.desc, Go.Proofs.Try.t249.size, Go.Proofs.Try.t249.bytes, match Go.Proofs.Try.t249.zero with | some z => z | none => .bool false, false⟩
noncomputable def d252 : TD := ⟨Go.Proofs.Try.t252.desc, Go.Proofs.Try.t252.size, Go.Proofs.Try.t252.bytes, match Go.Proofs.Try.t252.zero with | some z => z | none => .bool false, false⟩
noncomputable def d255 : TD := ⟨Go.Proofs.Try.t255.desc, Go.Proofs.Try.t255.size, Go.Proofs.Try.t255.bytes, match Go.Proofs.Try.t255.zero with | some z => z | none => .bool false, false⟩
noncomputable def d259 : TD := ⟨Go.Proofs.Try.t259.desc, Go.Proofs.Try.t259.size, Go.Proofs.Try.t259.bytes, match Go.Proofs.Try.t259.zero with | some z => z | none => .bool false, false⟩
noncomputable def d262 : TD := ⟨Go.Proofs.Try.t262.desc, Go.Proofs.Try.t262.size, Go.Proofs.Try.t262.bytes, match Go.Proofs.Try.t262.zero with | some z => z | none => .bool false, false⟩
noncomputable def T (t : Nat) : Option TD := match t with
  | 2 => some d2
  | 3 => some d3
  | 4 => some d4
  | 5 => some d5
  | 7 => some d7
  | 9 => some d9
  | 12 => some d12
  | 13 => some d13
  | 15 => some d15
  | 16 => some d16
  | 17 => some d17
  | 18 => some d18
  | 21 => some d21
  | 22 => some d22
  | 24 => some d24
  | 25 => some d25
  | 26 => some d26
  | 27 => some d27
  | 28 => some d28
  | 34 => some d34
  | 35 => some d35
  | 36 => some d36
  | 46 => some d46
  | 49 => some d49
  | 54 => some d54
  | 55 => some d55
  | 56 => some d56
  | 57 => some d57
  | 58 => some d58
  | 59 => some d59
  | 60 => some d60
  | 61 => some d61
  | 62 => some d62
  | 63 => some d63
  | 64 => some d64
  | 65 => some d65
  | 67 => some d67
  | 68 => some d68
  | 69 => some d69
  | 70 => some d70
  | 71 => some d71
  | 72 => some d72
  | 73 => some d73
  | 74 => some d74
  | 75 => some d75
  | 76 => some d76
  | 87 => some d87
  | 88 => some d88
  | 89 => some d89
  | 96 => some d96
  | 100 => some d100
  | 101 => some d101
  | 105 => some d105
  | 106 => some d106
  | 107 => some d107
  | 108 => some d108
  | 109 => some d109
  | 121 => some d121
  | 124 => some d124
  | 125 => some d125
  | 130 => some d130
  | 135 => some d135
  | 136 => some d136
  | 138 => some d138
  | 139 => some d139
  | 140 => some d140
  | 141 => some d141
  | 142 => some d142
  | 143 => some d143
  | 148 => some d148
  | 150 => some d150
  | 151 => some d151
  | 175 => some d175
  | 176 => some d176
  | 177 => some d177
  | 182 => some d182
  | 184 => some d184
  | 185 => some d185
  | 211 => some d211
  | 212 => some d212
  | 213 => some d213
  | 219 => some d219
  | 221 => some d221
  | 222 => some d222
  | 223 => some d223
  | 245 => some d245
  | 246 => some d246
  | 249 => some d249
  | 252 => some d252
  | 255 => some d255
  | 259 => some d259
  | 262 => some d262
  | _ => none
def RowOk (t : Nat) (d : TD) : Prop := Go.Proofs.Try.prog.underlying t = some d.und ∧ (∃ i, Go.Proofs.Try.prog.info? t = some i ∧ i.size = d.size ∧ i.bytes = d.bytes ∧ i.zero = some d.zero) ∧ (∀ x ∈ d.zero.cells.toList, x.oneCell' = true) ∧ (d.eqs = true → Go.Proofs.Try.prog.stoodInHeld t = false ∧ Go.Proofs.Try.prog.eqGuardType Go.Proofs.Try.prog.depth t = false ∧ (fieldsOf d.und).all (fun f => f.name != "_") = true)
theorem ok2 : RowOk 2 d2 := ⟨by kernel_rfl, ⟨Go.Proofs.Try.t2, by kernel_rfl, by kernel_rfl, by kernel_rfl, by kernel_rfl⟩, List.all_eq_true.1 (by kernel_rfl), fun h => by cases h⟩
theorem ok3 : RowOk 3 d3 := ⟨by kernel_rfl, ⟨Go.Proofs.Try.t3, by kernel_rfl, by kernel_rfl, by kernel_rfl, by kernel_rfl⟩, List.all_eq_true.1 (by kernel_rfl), fun h => by cases h⟩
theorem ok4 : RowOk 4 d4 := ⟨by kernel_rfl, ⟨Go.Proofs.Try.t4, by kernel_rfl, by kernel_rfl, by kernel_rfl, by kernel_rfl⟩, List.all_eq_true.1 (by kernel_rfl), fun h => by cases h⟩
theorem ok5 : RowOk 5 d5 := ⟨by kernel_rfl, ⟨Go.Proofs.Try.t5, by kernel_rfl, by kernel_rfl, by kernel_rfl, by kernel_rfl⟩, List.all_eq_true.1 (by kernel_rfl), fun h => by cases h⟩
theorem ok7 : RowOk 7 d7 := ⟨by kernel_rfl, ⟨Go.Proofs.Try.t7, by kernel_rfl, by kernel_rfl, by kernel_rfl, by kernel_rfl⟩, List.all_eq_true.1 (by kernel_rfl), fun h => by cases h⟩
theorem ok9 : RowOk 9 d9 := ⟨by kernel_rfl, ⟨Go.Proofs.Try.t9, by kernel_rfl, by kernel_rfl, by kernel_rfl, by kernel_rfl⟩, List.all_eq_true.1 (by kernel_rfl), fun h => by cases h⟩
theorem ok12 : RowOk 12 d12 := ⟨by kernel_rfl, ⟨Go.Proofs.Try.t12, by kernel_rfl, by kernel_rfl, by kernel_rfl, by kernel_rfl⟩, List.all_eq_true.1 (by kernel_rfl), fun h => by cases h⟩
theorem ok13 : RowOk 13 d13 := ⟨by kernel_rfl, ⟨Go.Proofs.Try.t13, by kernel_rfl, by kernel_rfl, by kernel_rfl, by kernel_rfl⟩, List.all_eq_true.1 (by kernel_rfl), fun h => by cases h⟩
theorem ok15 : RowOk 15 d15 := ⟨by kernel_rfl, ⟨Go.Proofs.Try.t15, by kernel_rfl, by kernel_rfl, by kernel_rfl, by kernel_rfl⟩, List.all_eq_true.1 (by kernel_rfl), fun h => by cases h⟩
theorem ok16 : RowOk 16 d16 := ⟨by kernel_rfl, ⟨Go.Proofs.Try.t16, by kernel_rfl, by kernel_rfl, by kernel_rfl, by kernel_rfl⟩, List.all_eq_true.1 (by kernel_rfl), fun h => by cases h⟩
theorem ok17 : RowOk 17 d17 := ⟨by kernel_rfl, ⟨Go.Proofs.Try.t17, by kernel_rfl, by kernel_rfl, by kernel_rfl, by kernel_rfl⟩, List.all_eq_true.1 (by kernel_rfl), fun h => by cases h⟩
theorem ok18 : RowOk 18 d18 := ⟨by kernel_rfl, ⟨Go.Proofs.Try.t18, by kernel_rfl, by kernel_rfl, by kernel_rfl, by kernel_rfl⟩, List.all_eq_true.1 (by kernel_rfl), fun h => by cases h⟩
theorem ok21 : RowOk 21 d21 := ⟨by kernel_rfl, ⟨Go.Proofs.Try.t21, by kernel_rfl, by kernel_rfl, by kernel_rfl, by kernel_rfl⟩, List.all_eq_true.1 (by kernel_rfl), fun h => by cases h⟩
theorem ok22 : RowOk 22 d22 := ⟨by kernel_rfl, ⟨Go.Proofs.Try.t22, by kernel_rfl, by kernel_rfl, by kernel_rfl, by kernel_rfl⟩, List.all_eq_true.1 (by kernel_rfl), fun h => by cases h⟩
theorem ok24 : RowOk 24 d24 := ⟨by kernel_rfl, ⟨Go.Proofs.Try.t24, by kernel_rfl, by kernel_rfl, by kernel_rfl, by kernel_rfl⟩, List.all_eq_true.1 (by kernel_rfl), fun h => by cases h⟩
theorem ok25 : RowOk 25 d25 := ⟨by kernel_rfl, ⟨Go.Proofs.Try.t25, by kernel_rfl, by kernel_rfl, by kernel_rfl, by kernel_rfl⟩, List.all_eq_true.1 (by kernel_rfl), fun _ => ⟨by kernel_rfl, by kernel_rfl, by kernel_rfl⟩⟩
theorem ok26 : RowOk 26 d26 := ⟨by kernel_rfl, ⟨Go.Proofs.Try.t26, by kernel_rfl, by kernel_rfl, by kernel_rfl, by kernel_rfl⟩, List.all_eq_true.1 (by kernel_rfl), fun _ => ⟨by kernel_rfl, by kernel_rfl, by kernel_rfl⟩⟩
theorem ok27 : RowOk 27 d27 := ⟨by kernel_rfl, ⟨Go.Proofs.Try.t27, by kernel_rfl, by kernel_rfl, by kernel_rfl, by kernel_rfl⟩, List.all_eq_true.1 (by kernel_rfl), fun _ => ⟨by kernel_rfl, by kernel_rfl, by kernel_rfl⟩⟩
theorem ok28 : RowOk 28 d28 := ⟨by kernel_rfl, ⟨Go.Proofs.Try.t28, by kernel_rfl, by kernel_rfl, by kernel_rfl, by kernel_rfl⟩, List.all_eq_true.1 (by kernel_rfl), fun _ => ⟨by kernel_rfl, by kernel_rfl, by kernel_rfl⟩⟩
theorem ok34 : RowOk 34 d34 := ⟨by kernel_rfl, ⟨Go.Proofs.Try.t34, by kernel_rfl, by kernel_rfl, by kernel_rfl, by kernel_rfl⟩, List.all_eq_true.1 (by kernel_rfl), fun h => by cases h⟩
theorem ok35 : RowOk 35 d35 := ⟨by kernel_rfl, ⟨Go.Proofs.Try.t35, by kernel_rfl, by kernel_rfl, by kernel_rfl, by kernel_rfl⟩, List.all_eq_true.1 (by kernel_rfl), fun _ => ⟨by kernel_rfl, by kernel_rfl, by kernel_rfl⟩⟩
theorem ok36 : RowOk 36 d36 := ⟨by kernel_rfl, ⟨Go.Proofs.Try.t36, by kernel_rfl, by kernel_rfl, by kernel_rfl, by kernel_rfl⟩, List.all_eq_true.1 (by kernel_rfl), fun _ => ⟨by kernel_rfl, by kernel_rfl, by kernel_rfl⟩⟩
theorem ok46 : RowOk 46 d46 := ⟨by kernel_rfl, ⟨Go.Proofs.Try.t46, by kernel_rfl, by kernel_rfl, by kernel_rfl, by kernel_rfl⟩, List.all_eq_true.1 (by kernel_rfl), fun _ => ⟨by kernel_rfl, by kernel_rfl, by kernel_rfl⟩⟩
theorem ok49 : RowOk 49 d49 := ⟨by kernel_rfl, ⟨Go.Proofs.Try.t49, by kernel_rfl, by kernel_rfl, by kernel_rfl, by kernel_rfl⟩, List.all_eq_true.1 (by kernel_rfl), fun h => by cases h⟩
theorem ok54 : RowOk 54 d54 := ⟨by kernel_rfl, ⟨Go.Proofs.Try.t54, by kernel_rfl, by kernel_rfl, by kernel_rfl, by kernel_rfl⟩, List.all_eq_true.1 (by kernel_rfl), fun _ => ⟨by kernel_rfl, by kernel_rfl, by kernel_rfl⟩⟩
theorem ok55 : RowOk 55 d55 := ⟨by kernel_rfl, ⟨Go.Proofs.Try.t55, by kernel_rfl, by kernel_rfl, by kernel_rfl, by kernel_rfl⟩, List.all_eq_true.1 (by kernel_rfl), fun _ => ⟨by kernel_rfl, by kernel_rfl, by kernel_rfl⟩⟩
theorem ok56 : RowOk 56 d56 := ⟨by kernel_rfl, ⟨Go.Proofs.Try.t56, by kernel_rfl, by kernel_rfl, by kernel_rfl, by kernel_rfl⟩, List.all_eq_true.1 (by kernel_rfl), fun _ => ⟨by kernel_rfl, by kernel_rfl, by kernel_rfl⟩⟩
theorem ok57 : RowOk 57 d57 := ⟨by kernel_rfl, ⟨Go.Proofs.Try.t57, by kernel_rfl, by kernel_rfl, by kernel_rfl, by kernel_rfl⟩, List.all_eq_true.1 (by kernel_rfl), fun _ => ⟨by kernel_rfl, by kernel_rfl, by kernel_rfl⟩⟩
theorem ok58 : RowOk 58 d58 := ⟨by kernel_rfl, ⟨Go.Proofs.Try.t58, by kernel_rfl, by kernel_rfl, by kernel_rfl, by kernel_rfl⟩, List.all_eq_true.1 (by kernel_rfl), fun _ => ⟨by kernel_rfl, by kernel_rfl, by kernel_rfl⟩⟩
theorem ok59 : RowOk 59 d59 := ⟨by kernel_rfl, ⟨Go.Proofs.Try.t59, by kernel_rfl, by kernel_rfl, by kernel_rfl, by kernel_rfl⟩, List.all_eq_true.1 (by kernel_rfl), fun _ => ⟨by kernel_rfl, by kernel_rfl, by kernel_rfl⟩⟩
theorem ok60 : RowOk 60 d60 := ⟨by kernel_rfl, ⟨Go.Proofs.Try.t60, by kernel_rfl, by kernel_rfl, by kernel_rfl, by kernel_rfl⟩, List.all_eq_true.1 (by kernel_rfl), fun _ => ⟨by kernel_rfl, by kernel_rfl, by kernel_rfl⟩⟩
theorem ok61 : RowOk 61 d61 := ⟨by kernel_rfl, ⟨Go.Proofs.Try.t61, by kernel_rfl, by kernel_rfl, by kernel_rfl, by kernel_rfl⟩, List.all_eq_true.1 (by kernel_rfl), fun _ => ⟨by kernel_rfl, by kernel_rfl, by kernel_rfl⟩⟩
theorem ok62 : RowOk 62 d62 := ⟨by kernel_rfl, ⟨Go.Proofs.Try.t62, by kernel_rfl, by kernel_rfl, by kernel_rfl, by kernel_rfl⟩, List.all_eq_true.1 (by kernel_rfl), fun _ => ⟨by kernel_rfl, by kernel_rfl, by kernel_rfl⟩⟩
theorem ok63 : RowOk 63 d63 := ⟨by kernel_rfl, ⟨Go.Proofs.Try.t63, by kernel_rfl, by kernel_rfl, by kernel_rfl, by kernel_rfl⟩, List.all_eq_true.1 (by kernel_rfl), fun _ => ⟨by kernel_rfl, by kernel_rfl, by kernel_rfl⟩⟩
theorem ok64 : RowOk 64 d64 := ⟨by kernel_rfl, ⟨Go.Proofs.Try.t64, by kernel_rfl, by kernel_rfl, by kernel_rfl, by kernel_rfl⟩, List.all_eq_true.1 (by kernel_rfl), fun _ => ⟨by kernel_rfl, by kernel_rfl, by kernel_rfl⟩⟩
theorem ok65 : RowOk 65 d65 := ⟨by kernel_rfl, ⟨Go.Proofs.Try.t65, by kernel_rfl, by kernel_rfl, by kernel_rfl, by kernel_rfl⟩, List.all_eq_true.1 (by kernel_rfl), fun _ => ⟨by kernel_rfl, by kernel_rfl, by kernel_rfl⟩⟩
theorem ok67 : RowOk 67 d67 := ⟨by kernel_rfl, ⟨Go.Proofs.Try.t67, by kernel_rfl, by kernel_rfl, by kernel_rfl, by kernel_rfl⟩, List.all_eq_true.1 (by kernel_rfl), fun _ => ⟨by kernel_rfl, by kernel_rfl, by kernel_rfl⟩⟩
theorem ok68 : RowOk 68 d68 := ⟨by kernel_rfl, ⟨Go.Proofs.Try.t68, by kernel_rfl, by kernel_rfl, by kernel_rfl, by kernel_rfl⟩, List.all_eq_true.1 (by kernel_rfl), fun _ => ⟨by kernel_rfl, by kernel_rfl, by kernel_rfl⟩⟩
theorem ok69 : RowOk 69 d69 := ⟨by kernel_rfl, ⟨Go.Proofs.Try.t69, by kernel_rfl, by kernel_rfl, by kernel_rfl, by kernel_rfl⟩, List.all_eq_true.1 (by kernel_rfl), fun _ => ⟨by kernel_rfl, by kernel_rfl, by kernel_rfl⟩⟩
theorem ok70 : RowOk 70 d70 := ⟨by kernel_rfl, ⟨Go.Proofs.Try.t70, by kernel_rfl, by kernel_rfl, by kernel_rfl, by kernel_rfl⟩, List.all_eq_true.1 (by kernel_rfl), fun _ => ⟨by kernel_rfl, by kernel_rfl, by kernel_rfl⟩⟩
theorem ok71 : RowOk 71 d71 := ⟨by kernel_rfl, ⟨Go.Proofs.Try.t71, by kernel_rfl, by kernel_rfl, by kernel_rfl, by kernel_rfl⟩, List.all_eq_true.1 (by kernel_rfl), fun _ => ⟨by kernel_rfl, by kernel_rfl, by kernel_rfl⟩⟩
theorem ok72 : RowOk 72 d72 := ⟨by kernel_rfl, ⟨Go.Proofs.Try.t72, by kernel_rfl, by kernel_rfl, by kernel_rfl, by kernel_rfl⟩, List.all_eq_true.1 (by kernel_rfl), fun _ => ⟨by kernel_rfl, by kernel_rfl, by kernel_rfl⟩⟩
theorem ok73 : RowOk 73 d73 := ⟨by kernel_rfl, ⟨Go.Proofs.Try.t73, by kernel_rfl, by kernel_rfl, by kernel_rfl, by kernel_rfl⟩, List.all_eq_true.1 (by kernel_rfl), fun _ => ⟨by kernel_rfl, by kernel_rfl, by kernel_rfl⟩⟩
theorem ok74 : RowOk 74 d74 := ⟨by kernel_rfl, ⟨Go.Proofs.Try.t74, by kernel_rfl, by kernel_rfl, by kernel_rfl, by kernel_rfl⟩, List.all_eq_true.1 (by kernel_rfl), fun _ => ⟨by kernel_rfl, by kernel_rfl, by kernel_rfl⟩⟩
theorem ok75 : RowOk 75 d75 := ⟨by kernel_rfl, ⟨Go.Proofs.Try.t75, by kernel_rfl, by kernel_rfl, by kernel_rfl, by kernel_rfl⟩, List.all_eq_true.1 (by kernel_rfl), fun _ => ⟨by kernel_rfl, by kernel_rfl, by kernel_rfl⟩⟩
theorem ok76 : RowOk 76 d76 := ⟨by kernel_rfl, ⟨Go.Proofs.Try.t76, by kernel_rfl, by kernel_rfl, by kernel_rfl, by kernel_rfl⟩, List.all_eq_true.1 (by kernel_rfl), fun _ => ⟨by kernel_rfl, by kernel_rfl, by kernel_rfl⟩⟩
theorem ok87 : RowOk 87 d87 := ⟨by kernel_rfl, ⟨Go.Proofs.Try.t87, by kernel_rfl, by kernel_rfl, by kernel_rfl, by kernel_rfl⟩, List.all_eq_true.1 (by kernel_rfl), fun h => by cases h⟩
theorem ok88 : RowOk 88 d88 := ⟨by kernel_rfl, ⟨Go.Proofs.Try.t88, by kernel_rfl, by kernel_rfl, by kernel_rfl, by kernel_rfl⟩, List.all_eq_true.1 (by kernel_rfl), fun _ => ⟨by kernel_rfl, by kernel_rfl, by kernel_rfl⟩⟩
theorem ok89 : RowOk 89 d89 := ⟨by kernel_rfl, ⟨Go.Proofs.Try.t89, by kernel_rfl, by kernel_rfl, by kernel_rfl, by kernel_rfl⟩, List.all_eq_true.1 (by kernel_rfl), fun _ => ⟨by kernel_rfl, by kernel_rfl, by kernel_rfl⟩⟩
theorem ok96 : RowOk 96 d96 := ⟨by kernel_rfl, ⟨Go.Proofs.Try.t96, by kernel_rfl, by kernel_rfl, by kernel_rfl, by kernel_rfl⟩, List.all_eq_true.1 (by kernel_rfl), fun h => by cases h⟩
theorem ok100 : RowOk 100 d100 := ⟨by kernel_rfl, ⟨Go.Proofs.Try.t100, by kernel_rfl, by kernel_rfl, by kernel_rfl, by kernel_rfl⟩, List.all_eq_true.1 (by kernel_rfl), fun h => by cases h⟩
theorem ok101 : RowOk 101 d101 := ⟨by kernel_rfl, ⟨Go.Proofs.Try.t101, by kernel_rfl, by kernel_rfl, by kernel_rfl, by kernel_rfl⟩, List.all_eq_true.1 (by kernel_rfl), fun h => by cases h⟩
theorem ok105 : RowOk 105 d105 := ⟨by kernel_rfl, ⟨Go.Proofs.Try.t105, by kernel_rfl, by kernel_rfl, by kernel_rfl, by kernel_rfl⟩, List.all_eq_true.1 (by kernel_rfl), fun h => by cases h⟩
theorem ok106 : RowOk 106 d106 := ⟨by kernel_rfl, ⟨Go.Proofs.Try.t106, by kernel_rfl, by kernel_rfl, by kernel_rfl, by kernel_rfl⟩, List.all_eq_true.1 (by kernel_rfl), fun h => by cases h⟩
theorem ok107 : RowOk 107 d107 := ⟨by kernel_rfl, ⟨Go.Proofs.Try.t107, by kernel_rfl, by kernel_rfl, by kernel_rfl, by kernel_rfl⟩, List.all_eq_true.1 (by kernel_rfl), fun h => by cases h⟩
theorem ok108 : RowOk 108 d108 := ⟨by kernel_rfl, ⟨Go.Proofs.Try.t108, by kernel_rfl, by kernel_rfl, by kernel_rfl, by kernel_rfl⟩, List.all_eq_true.1 (by kernel_rfl), fun _ => ⟨by kernel_rfl, by kernel_rfl, by kernel_rfl⟩⟩
theorem ok109 : RowOk 109 d109 := ⟨by kernel_rfl, ⟨Go.Proofs.Try.t109, by kernel_rfl, by kernel_rfl, by kernel_rfl, by kernel_rfl⟩, List.all_eq_true.1 (by kernel_rfl), fun _ => ⟨by kernel_rfl, by kernel_rfl, by kernel_rfl⟩⟩
theorem ok121 : RowOk 121 d121 := ⟨by kernel_rfl, ⟨Go.Proofs.Try.t121, by kernel_rfl, by kernel_rfl, by kernel_rfl, by kernel_rfl⟩, List.all_eq_true.1 (by kernel_rfl), fun h => by cases h⟩
theorem ok124 : RowOk 124 d124 := ⟨by kernel_rfl, ⟨Go.Proofs.Try.t124, by kernel_rfl, by kernel_rfl, by kernel_rfl, by kernel_rfl⟩, List.all_eq_true.1 (by kernel_rfl), fun h => by cases h⟩
theorem ok125 : RowOk 125 d125 := ⟨by kernel_rfl, ⟨Go.Proofs.Try.t125, by kernel_rfl, by kernel_rfl, by kernel_rfl, by kernel_rfl⟩, List.all_eq_true.1 (by kernel_rfl), fun h => by cases h⟩
theorem ok130 : RowOk 130 d130 := ⟨by kernel_rfl, ⟨Go.Proofs.Try.t130, by kernel_rfl, by kernel_rfl, by kernel_rfl, by kernel_rfl⟩, List.all_eq_true.1 (by kernel_rfl), fun h => by cases h⟩
theorem ok135 : RowOk 135 d135 := ⟨by kernel_rfl, ⟨Go.Proofs.Try.t135, by kernel_rfl, by kernel_rfl, by kernel_rfl, by kernel_rfl⟩, List.all_eq_true.1 (by kernel_rfl), fun _ => ⟨by kernel_rfl, by kernel_rfl, by kernel_rfl⟩⟩
theorem ok136 : RowOk 136 d136 := ⟨by kernel_rfl, ⟨Go.Proofs.Try.t136, by kernel_rfl, by kernel_rfl, by kernel_rfl, by kernel_rfl⟩, List.all_eq_true.1 (by kernel_rfl), fun _ => ⟨by kernel_rfl, by kernel_rfl, by kernel_rfl⟩⟩
theorem ok138 : RowOk 138 d138 := ⟨by kernel_rfl, ⟨Go.Proofs.Try.t138, by kernel_rfl, by kernel_rfl, by kernel_rfl, by kernel_rfl⟩, List.all_eq_true.1 (by kernel_rfl), fun h => by cases h⟩
theorem ok139 : RowOk 139 d139 := ⟨by kernel_rfl, ⟨Go.Proofs.Try.t139, by kernel_rfl, by kernel_rfl, by kernel_rfl, by kernel_rfl⟩, List.all_eq_true.1 (by kernel_rfl), fun h => by cases h⟩
theorem ok140 : RowOk 140 d140 := ⟨by kernel_rfl, ⟨Go.Proofs.Try.t140, by kernel_rfl, by kernel_rfl, by kernel_rfl, by kernel_rfl⟩, List.all_eq_true.1 (by kernel_rfl), fun h => by cases h⟩
theorem ok141 : RowOk 141 d141 := ⟨by kernel_rfl, ⟨Go.Proofs.Try.t141, by kernel_rfl, by kernel_rfl, by kernel_rfl, by kernel_rfl⟩, List.all_eq_true.1 (by kernel_rfl), fun _ => ⟨by kernel_rfl, by kernel_rfl, by kernel_rfl⟩⟩
theorem ok142 : RowOk 142 d142 := ⟨by kernel_rfl, ⟨Go.Proofs.Try.t142, by kernel_rfl, by kernel_rfl, by kernel_rfl, by kernel_rfl⟩, List.all_eq_true.1 (by kernel_rfl), fun _ => ⟨by kernel_rfl, by kernel_rfl, by kernel_rfl⟩⟩
theorem ok143 : RowOk 143 d143 := ⟨by kernel_rfl, ⟨Go.Proofs.Try.t143, by kernel_rfl, by kernel_rfl, by kernel_rfl, by kernel_rfl⟩, List.all_eq_true.1 (by kernel_rfl), fun h => by cases h⟩
theorem ok148 : RowOk 148 d148 := ⟨by kernel_rfl, ⟨Go.Proofs.Try.t148, by kernel_rfl, by kernel_rfl, by kernel_rfl, by kernel_rfl⟩, List.all_eq_true.1 (by kernel_rfl), fun h => by cases h⟩
theorem ok150 : RowOk 150 d150 := ⟨by kernel_rfl, ⟨Go.Proofs.Try.t150, by kernel_rfl, by kernel_rfl, by kernel_rfl, by kernel_rfl⟩, List.all_eq_true.1 (by kernel_rfl), fun h => by cases h⟩
theorem ok151 : RowOk 151 d151 := ⟨by kernel_rfl, ⟨Go.Proofs.Try.t151, by kernel_rfl, by kernel_rfl, by kernel_rfl, by kernel_rfl⟩, List.all_eq_true.1 (by kernel_rfl), fun h => by cases h⟩
theorem ok175 : RowOk 175 d175 := ⟨by kernel_rfl, ⟨Go.Proofs.Try.t175, by kernel_rfl, by kernel_rfl, by kernel_rfl, by kernel_rfl⟩, List.all_eq_true.1 (by kernel_rfl), fun h => by cases h⟩
theorem ok176 : RowOk 176 d176 := ⟨by kernel_rfl, ⟨Go.Proofs.Try.t176, by kernel_rfl, by kernel_rfl, by kernel_rfl, by kernel_rfl⟩, List.all_eq_true.1 (by kernel_rfl), fun h => by cases h⟩
theorem ok177 : RowOk 177 d177 := ⟨by kernel_rfl, ⟨Go.Proofs.Try.t177, by kernel_rfl, by kernel_rfl, by kernel_rfl, by kernel_rfl⟩, List.all_eq_true.1 (by kernel_rfl), fun h => by cases h⟩
theorem ok182 : RowOk 182 d182 := ⟨by kernel_rfl, ⟨Go.Proofs.Try.t182, by kernel_rfl, by kernel_rfl, by kernel_rfl, by kernel_rfl⟩, List.all_eq_true.1 (by kernel_rfl), fun h => by cases h⟩
theorem ok184 : RowOk 184 d184 := ⟨by kernel_rfl, ⟨Go.Proofs.Try.t184, by kernel_rfl, by kernel_rfl, by kernel_rfl, by kernel_rfl⟩, List.all_eq_true.1 (by kernel_rfl), fun h => by cases h⟩
theorem ok185 : RowOk 185 d185 := ⟨by kernel_rfl, ⟨Go.Proofs.Try.t185, by kernel_rfl, by kernel_rfl, by kernel_rfl, by kernel_rfl⟩, List.all_eq_true.1 (by kernel_rfl), fun h => by cases h⟩
theorem ok211 : RowOk 211 d211 := ⟨by kernel_rfl, ⟨Go.Proofs.Try.t211, by kernel_rfl, by kernel_rfl, by kernel_rfl, by kernel_rfl⟩, List.all_eq_true.1 (by kernel_rfl), fun h => by cases h⟩
theorem ok212 : RowOk 212 d212 := ⟨by kernel_rfl, ⟨Go.Proofs.Try.t212, by kernel_rfl, by kernel_rfl, by kernel_rfl, by kernel_rfl⟩, List.all_eq_true.1 (by kernel_rfl), fun h => by cases h⟩
theorem ok213 : RowOk 213 d213 := ⟨by kernel_rfl, ⟨Go.Proofs.Try.t213, by kernel_rfl, by kernel_rfl, by kernel_rfl, by kernel_rfl⟩, List.all_eq_true.1 (by kernel_rfl), fun h => by cases h⟩
theorem ok219 : RowOk 219 d219 := ⟨by kernel_rfl, ⟨Go.Proofs.Try.t219, by kernel_rfl, by kernel_rfl, by kernel_rfl, by kernel_rfl⟩, List.all_eq_true.1 (by kernel_rfl), fun h => by cases h⟩
theorem ok221 : RowOk 221 d221 := ⟨by kernel_rfl, ⟨Go.Proofs.Try.t221, by kernel_rfl, by kernel_rfl, by kernel_rfl, by kernel_rfl⟩, List.all_eq_true.1 (by kernel_rfl), fun h => by cases h⟩
theorem ok222 : RowOk 222 d222 := ⟨by kernel_rfl, ⟨Go.Proofs.Try.t222, by kernel_rfl, by kernel_rfl, by kernel_rfl, by kernel_rfl⟩, List.all_eq_true.1 (by kernel_rfl), fun h => by cases h⟩
theorem ok223 : RowOk 223 d223 := ⟨by kernel_rfl, ⟨Go.Proofs.Try.t223, by kernel_rfl, by kernel_rfl, by kernel_rfl, by kernel_rfl⟩, List.all_eq_true.1 (by kernel_rfl), fun h => by cases h⟩
theorem ok245 : RowOk 245 d245 := ⟨by kernel_rfl, ⟨Go.Proofs.Try.t245, by kernel_rfl, by kernel_rfl, by kernel_rfl, by kernel_rfl⟩, List.all_eq_true.1 (by kernel_rfl), fun h => by cases h⟩
theorem ok246 : RowOk 246 d246 := ⟨by kernel_rfl, ⟨Go.Proofs.Try.t246, by kernel_rfl, by kernel_rfl, by kernel_rfl, by kernel_rfl⟩, List.all_eq_true.1 (by kernel_rfl), fun h => by cases h⟩
theorem ok249 : RowOk 249 d249 := ⟨by kernel_rfl, ⟨Go.Proofs.Try.t249, by kernel_rfl, by kernel_rfl, by kernel_rfl, by kernel_rfl⟩, List.all_eq_true.1 (by kernel_rfl), fun h => by cases h⟩
theorem ok252 : RowOk 252 d252 := ⟨by kernel_rfl, ⟨Go.Proofs.Try.t252, by kernel_rfl, by kernel_rfl, by kernel_rfl, by kernel_rfl⟩, List.all_eq_true.1 (by kernel_rfl), fun h => by cases h⟩
theorem ok255 : RowOk 255 d255 := ⟨by kernel_rfl, ⟨Go.Proofs.Try.t255, by kernel_rfl, by kernel_rfl, by kernel_rfl, by kernel_rfl⟩, List.all_eq_true.1 (by kernel_rfl), fun h => by cases h⟩
theorem ok259 : RowOk 259 d259 := ⟨by kernel_rfl, ⟨Go.Proofs.Try.t259, by kernel_rfl, by kernel_rfl, by kernel_rfl, by kernel_rfl⟩, List.all_eq_true.1 (by kernel_rfl), fun h => by cases h⟩
theorem ok262 : RowOk 262 d262 := ⟨by kernel_rfl, ⟨Go.Proofs.Try.t262, by kernel_rfl, by kernel_rfl, by kernel_rfl, by kernel_rfl⟩, List.all_eq_true.1 (by kernel_rfl), fun h => by cases h⟩
theorem tok : TOk Go.Proofs.Try.prog T := by
  intro t d h
  unfold T at h
  split at h
  · injection h with h; subst h; exact ok2
  · injection h with h; subst h; exact ok3
  · injection h with h; subst h; exact ok4
  · injection h with h; subst h; exact ok5
  · injection h with h; subst h; exact ok7
  · injection h with h; subst h; exact ok9
  · injection h with h; subst h; exact ok12
  · injection h with h; subst h; exact ok13
  · injection h with h; subst h; exact ok15
  · injection h with h; subst h; exact ok16
  · injection h with h; subst h; exact ok17
  · injection h with h; subst h; exact ok18
  · injection h with h; subst h; exact ok21
  · injection h with h; subst h; exact ok22
  · injection h with h; subst h; exact ok24
  · injection h with h; subst h; exact ok25
  · injection h with h; subst h; exact ok26
  · injection h with h; subst h; exact ok27
  · injection h with h; subst h; exact ok28
  · injection h with h; subst h; exact ok34
  · injection h with h; subst h; exact ok35
  · injection h with h; subst h; exact ok36
  · injection h with h; subst h; exact ok46
  · injection h with h; subst h; exact ok49
  · injection h with h; subst h; exact ok54
  · injection h with h; subst h; exact ok55
  · injection h with h; subst h; exact ok56
  · injection h with h; subst h; exact ok57
  · injection h with h; subst h; exact ok58
  · injection h with h; subst h; exact ok59
  · injection h with h; subst h; exact ok60
  · injection h with h; subst h; exact ok61
  · injection h with h; subst h; exact ok62
  · injection h with h; subst h; exact ok63
  · injection h with h; subst h; exact ok64
  · injection h with h; subst h; exact ok65
  · injection h with h; subst h; exact ok67
  · injection h with h; subst h; exact ok68
  · injection h with h; subst h; exact ok69
  · injection h with h; subst h; exact ok70
  · injection h with h; subst h; exact ok71
  · injection h with h; subst h; exact ok72
  · injection h with h; subst h; exact ok73
  · injection h with h; subst h; exact ok74
  · injection h with h; subst h; exact ok75
  · injection h with h; subst h; exact ok76
  · injection h with h; subst h; exact ok87
  · injection h with h; subst h; exact ok88
  · injection h with h; subst h; exact ok89
  · injection h with h; subst h; exact ok96
  · injection h with h; subst h; exact ok100
  · injection h with h; subst h; exact ok101
  · injection h with h; subst h; exact ok105
  · injection h with h; subst h; exact ok106
  · injection h with h; subst h; exact ok107
  · injection h with h; subst h; exact ok108
  · injection h with h; subst h; exact ok109
  · injection h with h; subst h; exact ok121
  · injection h with h; subst h; exact ok124
  · injection h with h; subst h; exact ok125
  · injection h with h; subst h; exact ok130
  · injection h with h; subst h; exact ok135
  · injection h with h; subst h; exact ok136
  · injection h with h; subst h; exact ok138
  · injection h with h; subst h; exact ok139
  · injection h with h; subst h; exact ok140
  · injection h with h; subst h; exact ok141
  · injection h with h; subst h; exact ok142
  · injection h with h; subst h; exact ok143
  · injection h with h; subst h; exact ok148
  · injection h with h; subst h; exact ok150
  · injection h with h; subst h; exact ok151
  · injection h with h; subst h; exact ok175
  · injection h with h; subst h; exact ok176
  · injection h with h; subst h; exact ok177
  · injection h with h; subst h; exact ok182
  · injection h with h; subst h; exact ok184
  · injection h with h; subst h; exact ok185
  · injection h with h; subst h; exact ok211
  · injection h with h; subst h; exact ok212
  · injection h with h; subst h; exact ok213
  · injection h with h; subst h; exact ok219
  · injection h with h; subst h; exact ok221
  · injection h with h; subst h; exact ok222
  · injection h with h; subst h; exact ok223
  · injection h with h; subst h; exact ok245
  · injection h with h; subst h; exact ok246
  · injection h with h; subst h; exact ok249
  · injection h with h; subst h; exact ok252
  · injection h with h; subst h; exact ok255
  · injection h with h; subst h; exact ok259
  · injection h with h; subst h; exact ok262
  · cases h
end Go.Proofs.Ytmdlnjeppemipaa.AM
