/-
  A part of the proof that the statement on the tasks of a machine returns true for every input: no condition is asked beyond those of the theorems below.
-/
import Derived.Test.YtedcfkigfcobaaaB3
set_option linter.unusedVariables false
set_option linter.unusedSimpArgs false
set_option linter.unusedSectionVars false
/- Printed by wip/tools/gen.py: the bodies of functions 89 71 94 90 91 with named temporaries, tied to the loaded program. -/
section
set_option maxRecDepth 100000
namespace Go.Proofs.Ytedcfkigfcobaaa
open Go Go.Proofs
def j89_1 (R : Value → World → Prop) (t0 : Value) (w : World) : Prop :=
 Cl Try.prog 88 [t0, (.int .i64 1)] w fun t104 w =>
 R (.tuple #[]) w
def j89_0 (R : Value → World → Prop) (t0 : Value) (t1 : Value) (t2 : Value) (t58 : Value) (w : World) : Prop :=
 Bc t58
 (O (nC t0) fun t60 =>
 O (fA 9 t60) fun t61 =>
 ST Try.prog 71 t61 (.int .i64 1) w fun _ w =>
 R (.tuple #[]) w)
 (O (nC t0) fun t63 =>
 O (fA 8 t63) fun t64 =>
 O (rd1 t64 w) fun t65 =>
 O (lenS t65) fun t66 =>
 O (bi .geq t66 (.int .i64 32)) fun t67 =>
 Bc t67
 (O (nC t0) fun t69 =>
 O (fA 9 t69) fun t70 =>
 ST Try.prog 71 t70 (.int .i64 4) w fun _ w =>
 R (.tuple #[]) w)
 (Dr w fun w =>
 O (nC t0) fun t73 =>
 O (fA 8 t73) fun t74 =>
 O (nC t0) fun t77 =>
 O (fA 0 t77) fun t78 =>
 O (rdN 8 t78 w) fun t79 =>
 O (nC t1) fun t81 =>
 O (fA 0 t81) fun t82 =>
 O (rd1 t82 w) fun t83 =>
 O (bi .sub t2 (.int .i64 1)) fun t85 =>
 O (iS 6 t83 t85) fun t86 =>
 O (fA 1 t86) fun t87 =>
 O (rd1 t87 w) fun t88 =>
 O (nC t1) fun t90 =>
 O (fA 0 t90) fun t91 =>
 O (rd1 t91 w) fun t92 =>
 O (bi .sub t2 (.int .i64 1)) fun t94 =>
 O (iS 6 t92 t94) fun t95 =>
 O (fA 2 t95) fun t96 =>
 O (rd1 t96 w) fun t97 =>
 (O (rd1 t74 w) fun t75 =>
 Cl Try.prog 64 [t79, t88, t97] w fun t98 w =>
 BS 152 3 1 (.agg #[.int .i64 0, .int .i64 0, .slice none 0 0]) [(0, t98)] w fun t99 w =>
 AP Try.prog #[154, 154] 154 [t75, t99] w fun t100 w =>
 O (nC t0) fun t101 =>
 O (fA 8 t101) fun t102 =>
 ST Try.prog 154 t102 t100 w fun _ w =>
 j89_1 R t0 w) ∧
 (Cl Try.prog 64 [t79, t88, t97] w fun t98 w =>
 O (rd1 t74 w) fun t75 =>
 BS 152 3 1 (.agg #[.int .i64 0, .int .i64 0, .slice none 0 0]) [(0, t98)] w fun t99 w =>
 AP Try.prog #[154, 154] 154 [t75, t99] w fun t100 w =>
 O (nC t0) fun t101 =>
 O (fA 8 t101) fun t102 =>
 ST Try.prog 154 t102 t100 w fun _ w =>
 j89_1 R t0 w)))
def c89 (R : Value → World → Prop) (t0 : Value) (t1 : Value) (t2 : Value) (w : World) : Prop :=
 Dr w fun w =>
 Cl Try.prog 86 [t1, t2, (.int .i64 4)] w fun t8 w =>
 O (un .not t8) fun t9 =>
 Bc t9
 (j89_0 R t0 t1 t2 (.bool true) w)
 (O (nC t1) fun t12 =>
 O (fA 0 t12) fun t13 =>
 O (rd1 t13 w) fun t14 =>
 O (bi .sub t2 (.int .i64 1)) fun t16 =>
 O (iS 6 t14 t16) fun t17 =>
 O (fA 1 t17) fun t18 =>
 O (rd1 t18 w) fun t19 =>
 O (nC t0) fun t21 =>
 O (fA 0 t21) fun t22 =>
 O (fA 3 t22) fun t23 =>
 O (rd1 t23 w) fun t24 =>
 O (lenS t24) fun t25 =>
 Cl Try.prog 34 [t19, t25] w fun t26 w =>
 O (un .not t26) fun t27 =>
 Bc t27
 (j89_0 R t0 t1 t2 (.bool true) w)
 (O (nC t1) fun t31 =>
 O (fA 0 t31) fun t32 =>
 O (rd1 t32 w) fun t33 =>
 O (bi .sub t2 (.int .i64 1)) fun t35 =>
 O (iS 6 t33 t35) fun t36 =>
 O (fA 2 t36) fun t37 =>
 O (rd1 t37 w) fun t38 =>
 O (lenS t38) fun t39 =>
 O (nC t0) fun t41 =>
 O (fA 0 t41) fun t42 =>
 O (fA 3 t42) fun t43 =>
 O (rd1 t43 w) fun t44 =>
 O (nC t1) fun t46 =>
 O (fA 0 t46) fun t47 =>
 O (rd1 t47 w) fun t48 =>
 O (bi .sub t2 (.int .i64 1)) fun t50 =>
 O (iS 6 t48 t50) fun t51 =>
 O (fA 1 t51) fun t52 =>
 O (rd1 t52 w) fun t53 =>
 O (iS 4 t44 t53) fun t54 =>
 O (fA 1 t54) fun t55 =>
 O (rd1 t55 w) fun t56 =>
 O (bi .neq t39 t56) fun t57 =>
 j89_0 R t0 t1 t2 t57 w))
def p89 : Plan := .seq (.join [58] [0, 1, 2] (.ord [0, 0, 3, 7, 15, 31, 63, 127, 255, 31, 543, 2047, 4095, 8191, 31, 16415, 49183, 114719, 245791, 507935, 1048575, 2097151, 4194303, 8388607, 16777215, 33554431, 67108863, 134217727, 16777215, 285212671, 1073741823, 2147483647, 4294967295, 8589934591, 16777215, 17196646399, 51556384767, 120275861503, 257714814975, 16777215, 549772591103, 1649284218879, 3848307474431, 16777215, 8796109799423, 34634633052159, 69819005140991, 140187749318655, 281457813618687, 562932790329343, 1125882743750655, 2251799813685247, 4503599627370495]) (.cond (.seq (.leaf) (.leaf)) (.leaf))) (.seq (.seq (.leaf) (.cond (.seq (.leaf) (.leaf)) (.leaf))) (.join [] [0] (.tree [0, 0, 2, 6, 14, 0, 32, 96, 224, 0, 512, 1536, 3584, 0, 8192, 32256, 65024, 130560, 0, 262144, 786432, 1835008, 0, 4194304, 16515072, 33292288, 66846720, 134217696, 268435424, 536870910, 1073741823, 2147483647, 4294967295] (.take 0 (.take 1 (.take 2 (.take 3 (.take 5 (.take 6 (.take 7 (.take 8 (.take 9 (.take 10 (.take 11 (.take 12 (.take 13 (.take 14 (.take 15 (.take 16 (.take 17 (.take 18 (.take 19 (.take 20 (.take 21 (.take 22 (.take 23 (.take 24 (.take 25 (.take 26 (.alt 4 (.take 27 (.take 28 (.take 29 (.take 30 (.take 31 (.take 32 (.done))))))) (.take 27 (.take 4 (.take 28 (.take 29 (.take 30 (.take 31 (.take 32 (.done)))))))))))))))))))))))))))))))))))) (.leaf)))
theorem e89 (R : Value → World → Prop) (t0 : Value) (t1 : Value) (t2 : Value) (w : World) : cw Try.prog 105 p89 (Try.f89.body.getD .skip) (fnQ Try.prog Try.f89.results.toList R) (argE 0 [t0, t1, t2]) w = c89 R t0 t1 t2 w := by kernel_rfl
theorem b89 : Try.f89.body = some (Try.f89.body.getD .skip) := by kernel_rfl
theorem s89 {R : Value → World → Prop} {t0 : Value} {t1 : Value} {t2 : Value} {w : World} (h : c89 R t0 t1 t2 w) : Cl Try.prog 89 [t0, t1, t2] w R :=
  calls_of_cw mixed p89 Try.func89 b89 Try.ntmps89 (by simp) (by rw [e89]; exact h)
def j71_0 (R : Value → World → Prop) (t8 : Value) (t15 : Value) (w : World) : Prop :=
 O ((fillW Try.prog 162 [(5, t15)]).map .agg) fun t244 =>
 ST Try.prog 162 t8 t244 w fun _ w =>
 O (rdN 6 t8 w) fun r0 =>
 R (.tuple #[r0, (.int .i64 0)]) w
def j71_1 (R : Value → World → Prop) (t0 : Value) (t8 : Value) (w : World) : Prop :=
 Cl Try.prog 88 [t0, (.int .i64 0)] w fun t189 w =>
 j71_0 R t8 (.slice none 0 0) w
def c71 (R : Value → World → Prop) (t0 : Value) (t1 : Value) (t2 : Value) (t3 : Value) (w : World) : Prop :=
 AL (.cells #[.int .i64 0, .int .i64 0, .int .i64 0, .int .i64 0, .int .i64 0, .slice none 0 0] 162) w fun t8 w =>
 Cl Try.prog 73 [t0] w fun t17 w =>
 Bc t17
 (O ((fillW Try.prog 162 []).map .agg) fun t18 =>
 ST Try.prog 162 t8 t18 w fun _ w =>
 O (rdN 6 t8 w) fun r0 =>
 R (.tuple #[r0, (.int .i64 13)]) w)
 (Cl Try.prog 67 [t0] w fun t20 w =>
 AL (.cells #[.int .i64 0, .int .i64 0, .int .i64 0, .int .i64 0, .int .i64 0, .slice none 0 0, .int .i64 0, .int .i64 0] 79) w fun t10 w =>
 ST Try.prog 79 t10 t20 w fun _ w =>
 Dr w fun w =>
 O (nC t0) fun t22 =>
 O (fA 8 t22) fun t23 =>
 O (rd1 t23 w) fun t24 =>
 O (nC t0) fun t26 =>
 O (fA 8 t26) fun t27 =>
 O (rd1 t27 w) fun t28 =>
 O (lenS t28) fun t29 =>
 O (bi .sub t29 (.int .i64 1)) fun t30 =>
 O (iS 3 t24 t30) fun t31 =>
 O (nC t31) fun t33 =>
 O (fA 2 t33) fun t34 =>
 O (rd1 t34 w) fun t35 =>
 O (fA 0 t10) fun t36 =>
 O (rd1 t36 w) fun t37 =>
 Cl Try.prog 81 [t37] w fun t38 w =>
 Bc t38
 (O (rdN 8 t10 w) fun t40 =>
 Cl Try.prog 82 [t0, t40, t35] w fun t42 w =>
 ST Try.prog 162 t8 t42 w fun _ w =>
 O (rdN 6 t8 w) fun r0 =>
 R (.tuple #[r0, (.int .i64 0)]) w)
 (O (rdN 8 t10 w) fun t44 =>
 Cl Try.prog 83 [t0, t44, t35, t3] w fun t47 w =>
 Bc t47
 (O ((fillW Try.prog 162 []).map .agg) fun t48 =>
 ST Try.prog 162 t8 t48 w fun _ w =>
 O (rdN 6 t8 w) fun r0 =>
 R (.tuple #[r0, (.int .i64 0)]) w)
 (O (rdN 8 t10 w) fun t52 =>
 Cl Try.prog 84 [t0, t1, t52, t35, t2] w fun t55 w =>
 O (exv t55 0) fun t56 =>
 O (exv t55 1) fun t57 =>
 Bc t56
 (O ((fillW Try.prog 162 []).map .agg) fun t59 =>
 ST Try.prog 162 t8 t59 w fun _ w =>
 O (rdN 6 t8 w) fun r0 =>
 R (.tuple #[r0, t57]) w)
 (O (fA 0 t10) fun t61 =>
 O (rd1 t61 w) fun t62 =>
 O (bi .eql t62 (.int .i64 12)) fun t64 =>
 Bc t64
 (Dr w fun w =>
 O (rdN 8 t10 w) fun t67 =>
 O (fA 2 t10) fun t69 =>
 O (rd1 t69 w) fun t70 =>
 O (iS 1 t35 t70) fun t71 =>
 O (rd1 t71 w) fun t72 =>
 Cl Try.prog 85 [t0, t1, t67, (.int .i64 3), (.int .i64 4), t72, (.int .i64 0), (.bool false), (.int .i64 0), t35] w fun t74 w =>
 j71_0 R t8 t74 w)
 (O (bi .eql t62 (.int .i64 13)) fun t76 =>
 Bc t76
 (Dr w fun w =>
 O (rdN 8 t10 w) fun t79 =>
 O (fA 1 t10) fun t81 =>
 O (rd1 t81 w) fun t82 =>
 O (iS 1 t35 t82) fun t83 =>
 O (rd1 t83 w) fun t84 =>
 O (fA 2 t10) fun t86 =>
 O (rd1 t86 w) fun t87 =>
 O (iS 1 t35 t87) fun t88 =>
 O (rd1 t88 w) fun t89 =>
 Cl Try.prog 85 [t0, t1, t79, (.int .i64 3), (.int .i64 4), t84, (.int .i64 0), (.bool true), t89, t35] w fun t91 w =>
 j71_0 R t8 t91 w)
 (O (bi .eql t62 (.int .i64 15)) fun t93 =>
 Bc t93
 (Dr w fun w =>
 O (rdN 8 t10 w) fun t96 =>
 O (fA 2 t10) fun t98 =>
 O (rd1 t98 w) fun t99 =>
 O (iS 1 t35 t99) fun t100 =>
 O (rd1 t100 w) fun t101 =>
 O (fA 4 t10) fun t102 =>
 O (rd1 t102 w) fun t103 =>
 Cl Try.prog 85 [t0, t1, t96, (.int .i64 1), (.int .i64 2), t101, t103, (.bool false), (.int .i64 0), t35] w fun t105 w =>
 j71_0 R t8 t105 w)
 (O (bi .eql t62 (.int .i64 16)) fun t107 =>
 Bc t107
 (Dr w fun w =>
 O (rdN 8 t10 w) fun t110 =>
 O (fA 1 t10) fun t112 =>
 O (rd1 t112 w) fun t113 =>
 O (iS 1 t35 t113) fun t114 =>
 O (rd1 t114 w) fun t115 =>
 O (fA 4 t10) fun t116 =>
 O (rd1 t116 w) fun t117 =>
 O (fA 2 t10) fun t119 =>
 O (rd1 t119 w) fun t120 =>
 O (iS 1 t35 t120) fun t121 =>
 O (rd1 t121 w) fun t122 =>
 Cl Try.prog 85 [t0, t1, t110, (.int .i64 1), (.int .i64 2), t115, t117, (.bool true), t122, t35] w fun t124 w =>
 j71_0 R t8 t124 w)
 (O (bi .eql t62 (.int .i64 18)) fun t126 =>
 Bc t126
 (Dr w fun w =>
 O (rdN 8 t10 w) fun t129 =>
 O (fA 2 t10) fun t131 =>
 O (rd1 t131 w) fun t132 =>
 O (iS 1 t35 t132) fun t133 =>
 O (rd1 t133 w) fun t134 =>
 O (fA 3 t10) fun t136 =>
 O (rd1 t136 w) fun t137 =>
 O (iS 1 t35 t137) fun t138 =>
 O (rd1 t138 w) fun t139 =>
 Cl Try.prog 85 [t0, t1, t129, (.int .i64 2), (.int .i64 3), t134, t139, (.bool false), (.int .i64 0), t35] w fun t141 w =>
 j71_0 R t8 t141 w)
 (O (bi .eql t62 (.int .i64 19)) fun t143 =>
 Bc t143
 (Dr w fun w =>
 O (rdN 8 t10 w) fun t146 =>
 O (fA 1 t10) fun t148 =>
 O (rd1 t148 w) fun t149 =>
 O (iS 1 t35 t149) fun t150 =>
 O (rd1 t150 w) fun t151 =>
 O (fA 2 t10) fun t153 =>
 O (rd1 t153 w) fun t154 =>
 O (iS 1 t35 t154) fun t155 =>
 O (rd1 t155 w) fun t156 =>
 O (fA 3 t10) fun t158 =>
 O (rd1 t158 w) fun t159 =>
 O (iS 1 t35 t159) fun t160 =>
 O (rd1 t160 w) fun t161 =>
 Cl Try.prog 85 [t0, t1, t146, (.int .i64 2), (.int .i64 3), t151, t156, (.bool true), t161, t35] w fun t163 w =>
 j71_0 R t8 t163 w)
 (O (bi .eql t62 (.int .i64 20)) fun t165 =>
 Bc t165
 (O (fA 2 t10) fun t168 =>
 O (rd1 t168 w) fun t169 =>
 O (iS 1 t35 t169) fun t170 =>
 O (rd1 t170 w) fun t171 =>
 Cl Try.prog 86 [t1, t171, (.int .i64 2)] w fun t172 w =>
 O (un .not t172) fun t173 =>
 Bc t173
 (O (nC t0) fun t175 =>
 O (fA 9 t175) fun t176 =>
 ST Try.prog 71 t176 (.int .i64 1) w fun _ w =>
 j71_0 R t8 (.slice none 0 0) w)
 (Dr w fun w =>
 O (fA 1 t10) fun t178 =>
 O (fA 2 t10) fun t182 =>
 O (rd1 t182 w) fun t183 =>
 O (iS 1 t35 t183) fun t184 =>
 O (rd1 t184 w) fun t185 =>
 (O (rd1 t178 w) fun t179 =>
 Cl Try.prog 87 [t1, t185] w fun t186 w =>
 O (iS 1 t35 t179) fun t187 =>
 ST Try.prog 2 t187 t186 w fun _ w =>
 j71_1 R t0 t8 w) ∧
 (Cl Try.prog 87 [t1, t185] w fun t186 w =>
 O (rd1 t178 w) fun t179 =>
 O (iS 1 t35 t179) fun t187 =>
 ST Try.prog 2 t187 t186 w fun _ w =>
 j71_1 R t0 t8 w)))
 (O (bi .eql t62 (.int .i64 22)) fun t191 =>
 Bc t191
 (O (fA 1 t10) fun t195 =>
 O (rd1 t195 w) fun t196 =>
 O (iS 1 t35 t196) fun t197 =>
 O (rd1 t197 w) fun t198 =>
 Cl Try.prog 89 [t0, t1, t198] w fun t199 w =>
 j71_0 R t8 (.slice none 0 0) w)
 (O (bi .eql t62 (.int .i64 33)) fun t201 =>
 Bc t201
 (Dr w fun w =>
 O (nC t0) fun t204 =>
 O (fA 8 t204) fun t205 =>
 O (rd1 t205 w) fun t206 =>
 O (nC t0) fun t208 =>
 O (fA 8 t208) fun t209 =>
 O (rd1 t209 w) fun t210 =>
 O (lenS t210) fun t211 =>
 O (bi .sub t211 (.int .i64 1)) fun t212 =>
 O (slc 3 t206 none (some t212)) fun t213 =>
 O (nC t0) fun t214 =>
 O (fA 8 t214) fun t215 =>
 ST Try.prog 154 t215 t213 w fun _ w =>
 j71_0 R t8 (.slice none 0 0) w)
 (O (bi .eql t62 (.int .i64 31)) fun t217 =>
 Bc t217
 (O (fA 4 t10) fun t219 =>
 O (rd1 t219 w) fun t220 =>
 O (nC t31) fun t221 =>
 O (fA 1 t221) fun t222 =>
 ST Try.prog 3 t222 t220 w fun _ w =>
 j71_0 R t8 (.slice none 0 0) w)
 (O (bi .eql t62 (.int .i64 32)) fun t224 =>
 Bc t224
 (O (nC t31) fun t226 =>
 O (fA 1 t226) fun t227 =>
 O (rd1 t227 w) fun t228 =>
 O (bi .add t228 (.int .i64 1)) fun t229 =>
 O (nC t31) fun t230 =>
 O (fA 1 t230) fun t231 =>
 ST Try.prog 3 t231 t229 w fun _ w =>
 O (fA 1 t10) fun t233 =>
 O (rd1 t233 w) fun t234 =>
 O (iS 1 t35 t234) fun t235 =>
 O (rd1 t235 w) fun t236 =>
 O (bi .eql t236 (.int .i64 0)) fun t237 =>
 Bc t237
 (O (fA 4 t10) fun t239 =>
 O (rd1 t239 w) fun t240 =>
 O (nC t31) fun t241 =>
 O (fA 1 t241) fun t242 =>
 ST Try.prog 3 t242 t240 w fun _ w =>
 j71_0 R t8 (.slice none 0 0) w)
 (j71_0 R t8 (.slice none 0 0) w))
 (j71_0 R t8 (.slice none 0 0) w)))))))))))))))
def p71 : Plan := .seq (.leaf) (.seq (.seq (.leaf) (.cond (.seq (.leaf) (.leaf)) (.leaf))) (.seq (.leaf) (.seq (.ord [0, 1, 3, 7, 0, 16, 48, 112, 240, 496, 1023, 2047]) (.seq (.leaf) (.seq (.seq (.leaf) (.cond (.seq (.leaf) (.leaf)) (.leaf))) (.seq (.seq (.leaf) (.cond (.seq (.leaf) (.leaf)) (.leaf))) (.seq (.seq (.leaf) (.seq (.leaf) (.cond (.seq (.leaf) (.leaf)) (.leaf)))) (.seq (.leaf) (.join [15] [8] (.seq (.leaf) (.block (.seq (.leaf) (.cond (.ord [0, 0, 0, 0, 0, 16, 56, 120, 0, 511, 1023]) (.seq (.leaf) (.cond (.ord [0, 0, 0, 0, 0, 16, 56, 120, 0, 0, 512, 1792, 3840, 0, 16383, 32767]) (.seq (.leaf) (.cond (.ord [0, 0, 0, 0, 0, 16, 56, 120, 0, 256, 0, 2047, 4095]) (.seq (.leaf) (.cond (.ord [0, 0, 0, 0, 0, 16, 56, 120, 0, 256, 0, 0, 2048, 7168, 15360, 0, 65535, 131071]) (.seq (.leaf) (.cond (.ord [0, 0, 0, 0, 0, 16, 56, 120, 0, 0, 512, 1792, 3840, 0, 16383, 32767]) (.seq (.leaf) (.cond (.ord [0, 0, 0, 0, 0, 16, 56, 120, 0, 0, 512, 1792, 3840, 0, 0, 16384, 57344, 122880, 0, 524287, 1048575]) (.seq (.leaf) (.cond (.seq (.seq (.leaf) (.cond (.seq (.leaf) (.leaf)) (.leaf))) (.join [] [0, 8, 15] (.tree [0, 0, 2, 0, 0, 0, 32, 112, 240, 504, 1023, 2047] (.take 0 (.take 1 (.take 3 (.take 4 (.take 5 (.take 6 (.take 7 (.take 8 (.alt 2 (.take 9 (.take 10 (.take 11 (.done)))) (.take 9 (.take 2 (.take 10 (.take 11 (.done))))))))))))))) (.leaf))) (.seq (.leaf) (.cond (.leaf) (.seq (.leaf) (.cond (.ord [0, 0, 2, 6, 14, 0, 32, 96, 224, 480, 992, 2046, 4095, 8191, 16383]) (.seq (.leaf) (.cond (.leaf) (.seq (.leaf) (.cond (.seq (.leaf) (.seq (.leaf) (.cond (.leaf) (.leaf)))) (.leaf))))))))))))))))))))))))) (.seq (.leaf) (.leaf)))))))))))
theorem e71 (R : Value → World → Prop) (t0 : Value) (t1 : Value) (t2 : Value) (t3 : Value) (w : World) : cw Try.prog 245 p71 (Try.f71.body.getD .skip) (fnQ Try.prog Try.f71.results.toList R) (argE 0 [t0, t1, t2, t3]) w = c71 R t0 t1 t2 t3 w := by kernel_rfl
theorem b71 : Try.f71.body = some (Try.f71.body.getD .skip) := by kernel_rfl
theorem s71 {R : Value → World → Prop} {t0 : Value} {t1 : Value} {t2 : Value} {t3 : Value} {w : World} (h : c71 R t0 t1 t2 t3 w) : Cl Try.prog 71 [t0, t1, t2, t3] w R :=
  calls_of_cw mixed p71 Try.func71 b71 Try.ntmps71 (by simp) (by rw [e71]; exact h)
def j94_1 (R : Value → World → Prop) (t0 : Value) (w : World) : Prop :=
 Cl Try.prog 88 [t0, (.int .i64 0)] w fun t53 w =>
 R (.int .i64 0) w
def j94_2 (R : Value → World → Prop) (t0 : Value) (t5 : Value) (t1 : Value) (t34 : Value) (w : World) : Prop :=
 Bc t34
 (Dr w fun w =>
 O (nC t0) fun t36 =>
 O (fA 8 t36) fun t37 =>
 O (rd1 t37 w) fun t38 =>
 O (nC t0) fun t40 =>
 O (fA 8 t40) fun t41 =>
 O (rd1 t41 w) fun t42 =>
 O (lenS t42) fun t43 =>
 O (bi .sub t43 (.int .i64 1)) fun t44 =>
 O (iS 3 t38 t44) fun t45 =>
 O (fA 2 t45) fun t46 =>
 O (rd1 t46 w) fun t47 =>
 O (fA 1 t5) fun t48 =>
 O (rd1 t48 w) fun t49 =>
 O (iS 1 t47 t49) fun t51 =>
 ST Try.prog 2 t51 t1 w fun _ w =>
 j94_1 R t0 w)
 (j94_1 R t0 w)
def j94_0 (R : Value → World → Prop) (t0 : Value) (t1 : Value) (t14 : Value) (w : World) : Prop :=
 Bc t14
 (R (.int .i64 13) w)
 (Cl Try.prog 67 [t0] w fun t16 w =>
 AL (.cells #[.int .i64 0, .int .i64 0, .int .i64 0, .int .i64 0, .int .i64 0, .slice none 0 0, .int .i64 0, .int .i64 0] 79) w fun t5 w =>
 ST Try.prog 79 t5 t16 w fun _ w =>
 O (fA 0 t5) fun t17 =>
 O (rd1 t17 w) fun t18 =>
 O (bi .eql t18 (.int .i64 9)) fun t19 =>
 Bc t19
 (j94_2 R t0 t5 t1 (.bool true) w)
 (O (fA 0 t5) fun t21 =>
 O (rd1 t21 w) fun t22 =>
 O (bi .eql t22 (.int .i64 23)) fun t23 =>
 Bc t23
 (j94_2 R t0 t5 t1 (.bool true) w)
 (O (fA 0 t5) fun t26 =>
 O (rd1 t26 w) fun t27 =>
 O (bi .eql t27 (.int .i64 24)) fun t28 =>
 Bc t28
 (j94_2 R t0 t5 t1 (.bool true) w)
 (O (fA 0 t5) fun t31 =>
 O (rd1 t31 w) fun t32 =>
 O (bi .eql t32 (.int .i64 28)) fun t33 =>
 j94_2 R t0 t5 t1 t33 w))))
def c94 (R : Value → World → Prop) (t0 : Value) (t1 : Value) (w : World) : Prop :=
 Cl Try.prog 73 [t0] w fun t7 w =>
 Bc t7
 (j94_0 R t0 t1 (.bool true) w)
 (Cl Try.prog 67 [t0] w fun t10 w =>
 O (fV false 0 1 t10) fun t11 =>
 Cl Try.prog 81 [t11] w fun t12 w =>
 O (un .not t12) fun t13 =>
 j94_0 R t0 t1 t13 w)
def p94 : Plan := .seq (.leaf) (.seq (.join [14] [0, 1] (.leaf) (.cond (.seq (.leaf) (.leaf)) (.leaf))) (.seq (.leaf) (.join [] [0] (.join [34] [0, 1, 5] (.leaf) (.cond (.ord [0, 1, 3, 7, 0, 16, 48, 112, 240, 496, 1023, 2047, 4095, 0, 8192, 0, 65535, 131071]) (.leaf))) (.seq (.leaf) (.seq (.leaf) (.leaf))))))
theorem e94 (R : Value → World → Prop) (t0 : Value) (t1 : Value) (w : World) : cw Try.prog 54 p94 (Try.f94.body.getD .skip) (fnQ Try.prog Try.f94.results.toList R) (argE 0 [t0, t1]) w = c94 R t0 t1 w := by kernel_rfl
theorem b94 : Try.f94.body = some (Try.f94.body.getD .skip) := by kernel_rfl
theorem s94 {R : Value → World → Prop} {t0 : Value} {t1 : Value} {w : World} (h : c94 R t0 t1 w) : Cl Try.prog 94 [t0, t1] w R :=
  calls_of_cw mixed p94 Try.func94 b94 Try.ntmps94 (by simp) (by rw [e94]; exact h)
def j90_2 (R : Value → World → Prop) (t11 : Value) (I0 : Value → World → Prop) (μ0 : Value → World → Nat) (wh0 : World) (w : World) : Prop :=
 O (bi .add t11 (.int .i64 1)) fun t96 =>
 I0 t96 w ∧ μ0 t96 w < μ0 t11 wh0
def j90_1 (R : Value → World → Prop) (t0 : Value) (t1 : Value) (t9 : Value) (t8 : Value) (t10 : Value) (w : World) : Prop :=
 ∃ (I0 : Value → World → Prop) (μ0 : Value → World → Nat), I0 (.int .i64 0) w ∧ ∀ (t11 : Value) wh0, I0 t11 wh0 →
 O (nC t0) fun t90 =>
 O (fA 12 t90) fun t91 =>
 O (rd1 t91 wh0) fun t92 =>
 O (lenS t92) fun t93 =>
 O (bi .lss t11 t93) fun t94 =>
 Bc t94
 (O (nC t0) fun t98 =>
 O (fA 12 t98) fun t99 =>
 O (rd1 t99 wh0) fun t100 =>
 O (iS 15 t100 t11) fun t102 =>
 O (fA 5 t102) fun t103 =>
 O (rd1 t103 wh0) fun t104 =>
 O (bi .eql t104 t1) fun t106 =>
 Bc t106
 (O (fA 6 t9) fun t107 =>
 O (rd1 t107 wh0) fun t108 =>
 O (bi .add t108 (.int .i64 1)) fun t109 =>
 O (fA 6 t9) fun t110 =>
 ST Try.prog 3 t110 t109 wh0 fun _ w =>
 j90_2 R t11 I0 μ0 wh0 w)
 (j90_2 R t11 I0 μ0 wh0 wh0))
 (O (rdN 15 t9 wh0) fun t112 =>
 O (fA 2 t8) fun t113 =>
 O (rd1 t113 wh0) fun t114 =>
 Cl Try.prog 20 [t0, t112, t114] wh0 fun t115 w =>
 O (bi .eql t115 (.int .i64 0)) fun t117 =>
 Bc t117
 (Cl Try.prog 41 [t0] w fun t119 w =>
 R (.tuple #[(.bool false), t119]) w)
 (Cl Try.prog 69 [t0, t10, t1, t115] w fun t124 w =>
 O (nC t0) fun t126 =>
 O (fA 13 t126) fun t127 =>
 O (rd1 t127 w) fun t128 =>
 O (bi .sub t1 (.int .i64 1)) fun t130 =>
 O (iS 1 t128 t130) fun t131 =>
 O (rd1 t131 w) fun t132 =>
 Cl Try.prog 94 [t132, t115] w fun t134 w =>
 R (.tuple #[(.bool false), (.int .i64 0)]) w))
def j90_0 (R : Value → World → Prop) (t5 : Value) (t8 : Value) (t0 : Value) (t1 : Value) (t62 : Value) (w : World) : Prop :=
 Bc t62
 (R (.tuple #[(.bool true), (.int .i64 0)]) w)
 (Dr w fun w =>
 O (fA 1 t5) fun t63 =>
 O (rd1 t63 w) fun t64 =>
 O (fA 1 t8) fun t65 =>
 O (rd1 t65 w) fun t66 =>
 O (fA 4 t5) fun t67 =>
 O (rd1 t67 w) fun t68 =>
 O (nC t0) fun t71 =>
 O (fA 16 t71) fun t72 =>
 O (rd1 t72 w) fun t73 =>
 O (lenS t73) fun t74 =>
 O ((fillW Try.prog 73 [(0, (.int .i64 4)), (1, t64), (3, t66), (4, t68), (5, t1), (13, t74)]).map .agg) fun t75 =>
 AL (.cells #[.int .i64 0, .int .i64 0, .int .i64 0, .int .i64 0, .int .i64 0, .int .i64 0, .int .i64 0, .bool false, .int .i64 0, .int .i64 0, .int .i64 0, .int .i64 0, .int .i64 0, .int .i64 0, .int .i64 0] 73) w fun t9 w =>
 ST Try.prog 73 t9 t75 w fun _ w =>
 O (fA 0 t5) fun t76 =>
 O (rd1 t76 w) fun t77 =>
 O (bi .eql t77 (.int .i64 28)) fun t82 =>
 Bc t82
 (O (fA 0 t9) fun t83 =>
 ST Try.prog 69 t83 (.int .i64 5) w fun _ w =>
 O (fA 4 t9) fun t84 =>
 ST Try.prog 3 t84 (.int .i64 (-1)) w fun _ w =>
 j90_1 R t0 t1 t9 t8 (.int .i64 5) w)
 (O (bi .eql t77 (.int .i64 24)) fun t86 =>
 Bc t86
 (O (fA 7 t9) fun t87 =>
 ST Try.prog 4 t87 (.bool true) w fun _ w =>
 j90_1 R t0 t1 t9 t8 (.int .i64 4) w)
 (O (fA 2 t5) fun t78 =>
 O (rd1 t78 w) fun t79 =>
 O (fA 8 t9) fun t80 =>
 ST Try.prog 2 t80 t79 w fun _ w =>
 j90_1 R t0 t1 t9 t8 (.int .i64 4) w)))
def c90 (R : Value → World → Prop) (t0 : Value) (t1 : Value) (t2 : Value) (w : World) : Prop :=
 AL (.cells (Value.cells t2) 162) w fun t5 w =>
 Dr w fun w =>
 O (nC t0) fun t14 =>
 O (fA 8 t14) fun t15 =>
 O (rd1 t15 w) fun t16 =>
 O (fA 3 t5) fun t17 =>
 O (rd1 t17 w) fun t18 =>
 Cl Try.prog 86 [t16, t18, (.int .i64 4)] w fun t19 w =>
 O (un .not t19) fun t20 =>
 Bc t20
 (R (.tuple #[(.bool true), (.int .i64 0)]) w)
 (Dr w fun w =>
 O (nC t0) fun t22 =>
 O (fA 8 t22) fun t23 =>
 O (rd1 t23 w) fun t24 =>
 O (nC t24) fun t25 =>
 O (fA 0 t25) fun t26 =>
 O (rd1 t26 w) fun t27 =>
 O (fA 3 t5) fun t28 =>
 O (rd1 t28 w) fun t29 =>
 O (bi .sub t29 (.int .i64 1)) fun t30 =>
 O (iS 6 t27 t30) fun t31 =>
 O (rdN 6 t31 w) fun t32 =>
 AL (.cells #[.int .i64 0, .int .i64 0, .slice none 0 0, .int .i64 0, .int .i64 0, .int .i64 0] 195) w fun t8 w =>
 ST Try.prog 195 t8 t32 w fun _ w =>
 Dr w fun w =>
 O (fA 1 t8) fun t33 =>
 O (rd1 t33 w) fun t34 =>
 O (bi .lss t34 (.int .i64 0)) fun t35 =>
 Bc t35
 (j90_0 R t5 t8 t0 t1 (.bool true) w)
 (O (fA 1 t8) fun t37 =>
 O (rd1 t37 w) fun t38 =>
 O (nC t0) fun t40 =>
 O (fA 0 t40) fun t41 =>
 O (fA 3 t41) fun t42 =>
 O (rd1 t42 w) fun t43 =>
 O (lenS t43) fun t44 =>
 O (bi .geq t38 t44) fun t45 =>
 Bc t45
 (j90_0 R t5 t8 t0 t1 (.bool true) w)
 (O (fA 2 t8) fun t48 =>
 O (rd1 t48 w) fun t49 =>
 O (lenS t49) fun t50 =>
 O (nC t0) fun t52 =>
 O (fA 0 t52) fun t53 =>
 O (fA 3 t53) fun t54 =>
 O (rd1 t54 w) fun t55 =>
 O (fA 1 t8) fun t56 =>
 O (rd1 t56 w) fun t57 =>
 O (iS 4 t55 t57) fun t58 =>
 O (fA 1 t58) fun t59 =>
 O (rd1 t59 w) fun t60 =>
 O (bi .neq t50 t60) fun t61 =>
 j90_0 R t5 t8 t0 t1 t61 w)))
def p90 : Plan := .seq (.leaf) (.seq (.seq (.ord [0, 1, 3, 7, 0, 16, 63, 127]) (.cond (.seq (.leaf) (.leaf)) (.leaf))) (.seq (.ord [0, 1, 3, 7, 15, 31, 63, 0, 128, 384, 1023, 2047, 0, 8191]) (.seq (.join [62] [0, 1, 5, 8] (.ord [0, 1, 3, 7, 15, 31, 15, 79, 207, 463, 975, 1999, 4095, 8191, 16383, 32767, 65535, 131071, 32767, 294911, 819199, 1867775, 3964927, 32767, 8421375, 33325055, 66879487, 133988351, 268435455, 536870911]) (.cond (.seq (.leaf) (.leaf)) (.leaf))) (.seq (.ord [0, 1, 0, 4, 0, 16, 0, 0, 128, 384, 896, 1920, 4095, 0, 16383]) (.seq (.leaf) (.join [10] [0, 1, 8, 9] (.seq (.leaf) (.block (.seq (.leaf) (.cond (.seq (.leaf) (.seq (.leaf) (.leaf))) (.seq (.leaf) (.cond (.leaf) (.leaf))))))) (.seq (.seq (.leaf) (.block (.loop [11] [0, 1, 8, 9, 10] (.seq (.seq (.leaf) (.cond (.leaf) (.leaf))) (.join [] [0, 1, 8, 9, 10, 11] (.block (.seq (.leaf) (.cond (.leaf) (.leaf)))) (.leaf)))))) (.seq (.leaf) (.seq (.seq (.leaf) (.cond (.seq (.leaf) (.leaf)) (.leaf))) (.seq (.leaf) (.seq (.leaf) (.seq (.leaf) (.leaf)))))))))))))
theorem e90 (R : Value → World → Prop) (t0 : Value) (t1 : Value) (t2 : Value) (w : World) : cw Try.prog 135 p90 (Try.f90.body.getD .skip) (fnQ Try.prog Try.f90.results.toList R) (argE 0 [t0, t1, t2]) w = c90 R t0 t1 t2 w := by kernel_rfl
theorem b90 : Try.f90.body = some (Try.f90.body.getD .skip) := by kernel_rfl
theorem s90 {R : Value → World → Prop} {t0 : Value} {t1 : Value} {t2 : Value} {w : World} (h : c90 R t0 t1 t2 w) : Cl Try.prog 90 [t0, t1, t2] w R :=
  calls_of_cw mixed p90 Try.func90 b90 Try.ntmps90 (by simp) (by rw [e90]; exact h)
def j91_0 (R : Value → World → Prop) (t1 : Value) (t30 : Value) (w : World) : Prop :=
 Bc t30
 (R (.int .i64 0) w)
 (R t1 w)
def c91 (R : Value → World → Prop) (t0 : Value) (t1 : Value) (t2 : Value) (w : World) : Prop :=
 O (bi .lss t1 (.int .i64 1)) fun t8 =>
 Bc t8
 (j91_0 R t1 (.bool true) w)
 (O (nC t0) fun t12 =>
 O (fA 12 t12) fun t13 =>
 O (rd1 t13 w) fun t14 =>
 O (lenS t14) fun t15 =>
 O (bi .gtr t1 t15) fun t16 =>
 Bc t16
 (j91_0 R t1 (.bool true) w)
 (O (nC t0) fun t20 =>
 O (fA 12 t20) fun t21 =>
 O (rd1 t21 w) fun t22 =>
 O (bi .sub t1 (.int .i64 1)) fun t24 =>
 O (iS 15 t22 t24) fun t25 =>
 O (fA 0 t25) fun t26 =>
 O (rd1 t26 w) fun t27 =>
 O (bi .neq t27 t2) fun t29 =>
 j91_0 R t1 t29 w))
def p91 : Plan := .seq (.leaf) (.seq (.join [30] [1] (.leaf) (.cond (.seq (.leaf) (.leaf)) (.leaf))) (.seq (.leaf) (.leaf)))
theorem e91 (R : Value → World → Prop) (t0 : Value) (t1 : Value) (t2 : Value) (w : World) : cw Try.prog 32 p91 (Try.f91.body.getD .skip) (fnQ Try.prog Try.f91.results.toList R) (argE 0 [t0, t1, t2]) w = c91 R t0 t1 t2 w := by kernel_rfl
theorem b91 : Try.f91.body = some (Try.f91.body.getD .skip) := by kernel_rfl
theorem s91 {R : Value → World → Prop} {t0 : Value} {t1 : Value} {t2 : Value} {w : World} (h : c91 R t0 t1 t2 w) : Cl Try.prog 91 [t0, t1, t2] w R :=
  calls_of_cw mixed p91 Try.func91 b91 Try.ntmps91 (by simp) (by rw [e91]; exact h)

end Go.Proofs.Ytedcfkigfcobaaa
end
/- Printed by wip/tools/gen.py: the bodies of functions 92 93 72 44 21 22 with named temporaries, tied to the loaded program. -/
section
set_option maxRecDepth 100000
namespace Go.Proofs.Ytedcfkigfcobaaa
open Go Go.Proofs
def c92 (R : Value → World → Prop) (t0 : Value) (t1 : Value) (t2 : Value) (t3 : Value) (w : World) : Prop :=
 Cl Try.prog 70 [t0, t1, t2, (.int .i64 5), t3, (.bool true)] w fun t12 w =>
 O (nC t0) fun t14 =>
 O (fA 12 t14) fun t15 =>
 O (rd1 t15 w) fun t16 =>
 O (bi .sub t3 (.int .i64 1)) fun t18 =>
 O (iS 15 t16 t18) fun t19 =>
 O (fA 11 t19) fun t20 =>
 O (rd1 t20 w) fun t21 =>
 O (bi .eql t21 (.int .i64 1)) fun t22 =>
 Bc t22
 (O (nC t0) fun t24 =>
 O (fA 12 t24) fun t25 =>
 O (rd1 t25 w) fun t26 =>
 O (bi .sub t3 (.int .i64 1)) fun t28 =>
 O (iS 15 t26 t28) fun t29 =>
 O (fA 11 t29) fun t30 =>
 ST Try.prog 70 t30 (.int .i64 4) w fun _ w =>
 Dr w fun w =>
 O (nC t0) fun t32 =>
 O (fA 10 t32) fun t33 =>
 O (rd1 t33 w) fun t34 =>
 O (nC t0) fun t36 =>
 O (fA 12 t36) fun t37 =>
 O (rd1 t37 w) fun t38 =>
 O (bi .sub t3 (.int .i64 1)) fun t40 =>
 O (iS 15 t38 t40) fun t41 =>
 O (fA 4 t41) fun t42 =>
 O (rd1 t42 w) fun t43 =>
 O (iS 1 t34 t43) fun t44 =>
 O (rd1 t44 w) fun t45 =>
 Cl Try.prog 68 [t45, t3] w fun t47 w =>
 R (.tuple #[]) w)
 (R (.tuple #[]) w)
def p92 : Plan := .seq (.leaf) (.seq (.leaf) (.cond (.seq (.leaf) (.ord [0, 1, 3, 7, 0, 16, 48, 112, 0, 256, 1008, 2032, 4080, 8191, 16383, 0, 65535])) (.leaf)))
theorem e92 (R : Value → World → Prop) (t0 : Value) (t1 : Value) (t2 : Value) (t3 : Value) (w : World) : cw Try.prog 48 p92 (Try.f92.body.getD .skip) (fnQ Try.prog Try.f92.results.toList R) (argE 0 [t0, t1, t2, t3]) w = c92 R t0 t1 t2 t3 w := by kernel_rfl
theorem b92 : Try.f92.body = some (Try.f92.body.getD .skip) := by kernel_rfl
theorem s92 {R : Value → World → Prop} {t0 : Value} {t1 : Value} {t2 : Value} {t3 : Value} {w : World} (h : c92 R t0 t1 t2 t3 w) : Cl Try.prog 92 [t0, t1, t2, t3] w R :=
  calls_of_cw mixed p92 Try.func92 b92 Try.ntmps92 (by simp) (by rw [e92]; exact h)
def j93_1 (R : Value → World → Prop) (t0 : Value) (t1 : Value) (t2 : Value) (t7 : Value) (w : World) : Prop :=
 O (nC t0) fun t31 =>
 O (fA 1 t31) fun t32 =>
 O (rd1 t32 w) fun t33 =>
 O (iS 1 t33 t1) fun t36 =>
 ST Try.prog 4 t36 t2 w fun _ w =>
 R t7 w
def j93_0 (R : Value → World → Prop) (t2 : Value) (t0 : Value) (t1 : Value) (t18 : Value) (w : World) : Prop :=
 Bc t18
 (R (.bool false) w)
 (Bc t2
 (O (nC t0) fun t22 =>
 O (fA 1 t22) fun t23 =>
 O (rd1 t23 w) fun t24 =>
 O (iS 1 t24 t1) fun t26 =>
 O (rd1 t26 w) fun t27 =>
 O (un .not t27) fun t28 =>
 j93_1 R t0 t1 t2 t28 w)
 (j93_1 R t0 t1 t2 (.bool false) w))
def c93 (R : Value → World → Prop) (t0 : Value) (t1 : Value) (t2 : Value) (w : World) : Prop :=
 O (bi .lss t1 (.int .i64 0)) fun t9 =>
 Bc t9
 (j93_0 R t2 t0 t1 (.bool true) w)
 (O (nC t0) fun t13 =>
 O (fA 1 t13) fun t14 =>
 O (rd1 t14 w) fun t15 =>
 O (lenS t15) fun t16 =>
 O (bi .geq t1 t16) fun t17 =>
 j93_0 R t2 t0 t1 t17 w)
def p93 : Plan := .seq (.leaf) (.seq (.join [18] [0, 1, 2] (.leaf) (.cond (.seq (.leaf) (.leaf)) (.leaf))) (.join [7] [0, 1, 2] (.leaf) (.seq (.leaf) (.seq (.leaf) (.leaf)))))
theorem e93 (R : Value → World → Prop) (t0 : Value) (t1 : Value) (t2 : Value) (w : World) : cw Try.prog 38 p93 (Try.f93.body.getD .skip) (fnQ Try.prog Try.f93.results.toList R) (argE 0 [t0, t1, t2]) w = c93 R t0 t1 t2 w := by kernel_rfl
theorem b93 : Try.f93.body = some (Try.f93.body.getD .skip) := by kernel_rfl
theorem s93 {R : Value → World → Prop} {t0 : Value} {t1 : Value} {t2 : Value} {w : World} (h : c93 R t0 t1 t2 w) : Cl Try.prog 93 [t0, t1, t2] w R :=
  calls_of_cw mixed p93 Try.func93 b93 Try.ntmps93 (by simp) (by rw [e93]; exact h)
def j72_0 (R : Value → World → Prop) (t19 : Value) (t9 : Value) (w : World) : Prop :=
 Cl Try.prog 94 [t19, t9] w fun t158 w =>
 R (.tuple #[(.bool false), (.int .i64 0)]) w
def j72_2 (R : Value → World → Prop) (t5 : Value) (t0 : Value) (t1 : Value) (t19 : Value) (t21 : Value) (t81 : Value) (w : World) : Prop :=
 Bc t81
 (O (fA 1 t5) fun t86 =>
 O (rd1 t86 w) fun t87 =>
 O (fA 2 t5) fun t88 =>
 O (rd1 t88 w) fun t89 =>
 Cl Try.prog 70 [t0, t1, t87, (.int .i64 6), t89, (.bool true)] w fun t90 w =>
 Dr w fun w =>
 O (nC t0) fun t92 =>
 O (fA 9 t92) fun t93 =>
 O (rd1 t93 w) fun t94 =>
 O (fA 2 t5) fun t95 =>
 O (rd1 t95 w) fun t96 =>
 O (fA 0 t5) fun t97 =>
 O (rd1 t97 w) fun t98 =>
 O (bi .eql t98 (.int .i64 26)) fun t99 =>
 Cl Try.prog 93 [t94, t96, t99] w fun t100 w =>
 Bc t100
 (Dr w fun w =>
 O (nC t0) fun t102 =>
 O (fA 17 t102) fun t103 =>
 O (rd1 t103 w) fun t104 =>
 O (fA 2 t5) fun t105 =>
 O (rd1 t105 w) fun t106 =>
 O (nC t0) fun t108 =>
 O (fA 16 t108) fun t109 =>
 O (rd1 t109 w) fun t110 =>
 O (lenS t110) fun t111 =>
 O (iS 1 t104 t106) fun t112 =>
 ST Try.prog 3 t112 t111 w fun _ w =>
 O (fA 2 t5) fun t115 =>
 O (rd1 t115 w) fun t116 =>
 Cl Try.prog 69 [t0, (.int .i64 7), t1, t116] w fun t117 w =>
 j72_0 R t19 (.int .i64 0) w)
 (j72_0 R t19 (.int .i64 0) w))
 (O (bi .eql t21 (.int .i64 29)) fun t119 =>
 Bc t119
 (O (fA 3 t5) fun t121 =>
 O (rd1 t121 w) fun t122 =>
 Cl Try.prog 91 [t0, t122, (.int .i64 5)] w fun t123 w =>
 O (bi .eql t123 (.int .i64 0)) fun t125 =>
 Bc t125
 (R (.tuple #[(.bool true), (.int .i64 0)]) w)
 (Cl Try.prog 69 [t0, (.int .i64 6), t1, t123] w fun t129 w =>
 j72_0 R t19 (.int .i64 0) w))
 (O (bi .eql t21 (.int .i64 30)) fun t131 =>
 Bc t131
 (O (nC t0) fun t133 =>
 O (fA 15 t133) fun t134 =>
 O (rd1 t134 w) fun t135 =>
 O (lenS t135) fun t136 =>
 O (bi .geq t136 (.int .i64 1024)) fun t137 =>
 Bc t137
 (Cl Try.prog 41 [t0] w fun t139 w =>
 R (.tuple #[(.bool false), t139]) w)
 (O (fA 1 t5) fun t142 =>
 O (rd1 t142 w) fun t143 =>
 Cl Try.prog 70 [t0, t1, t143, (.int .i64 7), (.int .i64 0), (.bool true)] w fun t144 w =>
 Dr w fun w =>
 O (nC t0) fun t147 =>
 O (fA 15 t147) fun t148 =>
 O (rd1 t148 w) fun t149 =>
 O (fA 3 t5) fun t150 =>
 O (rd1 t150 w) fun t151 =>
 BS 2 1 1 (.int .i64 0) [(0, t151)] w fun t152 w =>
 AP Try.prog #[42, 42] 42 [t149, t152] w fun t153 w =>
 O (nC t0) fun t154 =>
 O (fA 15 t154) fun t155 =>
 ST Try.prog 42 t155 t153 w fun _ w =>
 j72_0 R t19 (.int .i64 0) w))
 (j72_0 R t19 (.int .i64 0) w)))
def j72_1 (R : Value → World → Prop) (t5 : Value) (t0 : Value) (t1 : Value) (t21 : Value) (t19 : Value) (t22 : Value) (w : World) : Prop :=
 Bc t22
 (O (rdN 6 t5 w) fun t28 =>
 Cl Try.prog 90 [t0, t1, t28] w fun t29 w =>
 O (exv t29 0) fun t30 =>
 O (exv t29 1) fun t31 =>
 R (.tuple #[t30, t31]) w)
 (O (bi .eql t21 (.int .i64 9)) fun t33 =>
 Bc t33
 (O (fA 1 t5) fun t36 =>
 O (rd1 t36 w) fun t37 =>
 O (fA 2 t5) fun t38 =>
 O (rd1 t38 w) fun t39 =>
 Cl Try.prog 70 [t0, t1, t37, (.int .i64 1), t39, (.bool false)] w fun t40 w =>
 Dr w fun w =>
 O (nC t0) fun t42 =>
 O (fA 14 t42) fun t43 =>
 O (rd1 t43 w) fun t44 =>
 O (fA 2 t5) fun t45 =>
 O (rd1 t45 w) fun t46 =>
 O (iS 1 t44 t46) fun t47 =>
 O (rd1 t47 w) fun t48 =>
 j72_0 R t19 t48 w)
 (O (bi .eql t21 (.int .i64 10)) fun t50 =>
 Bc t50
 (O (fA 1 t5) fun t53 =>
 O (rd1 t53 w) fun t54 =>
 O (fA 2 t5) fun t55 =>
 O (rd1 t55 w) fun t56 =>
 Cl Try.prog 70 [t0, t1, t54, (.int .i64 1), t56, (.bool true)] w fun t57 w =>
 Dr w fun w =>
 O (nC t0) fun t59 =>
 O (fA 14 t59) fun t60 =>
 O (rd1 t60 w) fun t61 =>
 O (fA 2 t5) fun t62 =>
 O (rd1 t62 w) fun t63 =>
 O (fA 3 t5) fun t64 =>
 O (rd1 t64 w) fun t65 =>
 O (iS 1 t61 t63) fun t66 =>
 ST Try.prog 2 t66 t65 w fun _ w =>
 j72_0 R t19 (.int .i64 0) w)
 (O (bi .eql t21 (.int .i64 25)) fun t68 =>
 Bc t68
 (O (fA 3 t5) fun t70 =>
 O (rd1 t70 w) fun t71 =>
 Cl Try.prog 91 [t0, t71, (.int .i64 4)] w fun t72 w =>
 O (bi .eql t72 (.int .i64 0)) fun t74 =>
 Bc t74
 (R (.tuple #[(.bool true), (.int .i64 0)]) w)
 (O (fA 1 t5) fun t77 =>
 O (rd1 t77 w) fun t78 =>
 Cl Try.prog 92 [t0, t1, t78, t72] w fun t80 w =>
 j72_0 R t19 (.int .i64 0) w))
 (O (bi .eql t21 (.int .i64 26)) fun t82 =>
 Bc t82
 (j72_2 R t5 t0 t1 t19 t21 (.bool true) w)
 (O (bi .eql t21 (.int .i64 27)) fun t83 =>
 j72_2 R t5 t0 t1 t19 t21 t83 w)))))
def c72 (R : Value → World → Prop) (t0 : Value) (t1 : Value) (t2 : Value) (w : World) : Prop :=
 AL (.cells (Value.cells t2) 162) w fun t5 w =>
 O (nC t0) fun t13 =>
 O (fA 13 t13) fun t14 =>
 O (rd1 t14 w) fun t15 =>
 O (bi .sub t1 (.int .i64 1)) fun t17 =>
 O (iS 1 t15 t17) fun t18 =>
 O (rd1 t18 w) fun t19 =>
 O (fA 0 t5) fun t20 =>
 O (rd1 t20 w) fun t21 =>
 O (bi .eql t21 (.int .i64 23)) fun t23 =>
 Bc t23
 (j72_1 R t5 t0 t1 t21 t19 (.bool true) w)
 (O (bi .eql t21 (.int .i64 24)) fun t24 =>
 Bc t24
 (j72_1 R t5 t0 t1 t21 t19 (.bool true) w)
 (O (bi .eql t21 (.int .i64 28)) fun t25 =>
 j72_1 R t5 t0 t1 t21 t19 t25 w))
def p72 : Plan := .seq (.leaf) (.seq (.leaf) (.join [9] [8] (.seq (.leaf) (.block (.join [22] [0, 1, 5, 8, 9, 21] (.seq (.leaf) (.cond (.leaf) (.seq (.leaf) (.cond (.leaf) (.leaf))))) (.cond (.seq (.leaf) (.leaf)) (.seq (.leaf) (.cond (.seq (.leaf) (.ord [0, 1, 3, 7, 0, 16, 63, 127, 255])) (.seq (.leaf) (.cond (.seq (.leaf) (.ord [0, 1, 3, 7, 0, 16, 0, 64, 255, 511])) (.seq (.leaf) (.cond (.seq (.leaf) (.seq (.seq (.leaf) (.cond (.seq (.leaf) (.leaf)) (.leaf))) (.leaf))) (.join [81] [0, 1, 5, 8, 9, 21] (.seq (.leaf) (.cond (.leaf) (.leaf))) (.cond (.seq (.leaf) (.seq (.ord [0, 1, 3, 7, 0, 16, 0, 64, 192, 511]) (.cond (.seq (.ord [0, 1, 3, 7, 0, 16, 0, 64, 192, 448, 960, 2047, 4095]) (.leaf)) (.leaf)))) (.seq (.leaf) (.cond (.seq (.leaf) (.seq (.seq (.leaf) (.cond (.seq (.leaf) (.leaf)) (.leaf))) (.leaf))) (.seq (.leaf) (.cond (.seq (.seq (.leaf) (.cond (.seq (.leaf) (.leaf)) (.leaf))) (.seq (.leaf) (.ord [0, 0, 2, 6, 14, 0, 32, 96, 254, 511, 1023, 2047]))) (.leaf))))))))))))))))) (.seq (.leaf) (.seq (.leaf) (.leaf)))))
theorem e72 (R : Value → World → Prop) (t0 : Value) (t1 : Value) (t2 : Value) (w : World) : cw Try.prog 159 p72 (Try.f72.body.getD .skip) (fnQ Try.prog Try.f72.results.toList R) (argE 0 [t0, t1, t2]) w = c72 R t0 t1 t2 w := by kernel_rfl
theorem b72 : Try.f72.body = some (Try.f72.body.getD .skip) := by kernel_rfl
theorem s72 {R : Value → World → Prop} {t0 : Value} {t1 : Value} {t2 : Value} {w : World} (h : c72 R t0 t1 t2 w) : Cl Try.prog 72 [t0, t1, t2] w R :=
  calls_of_cw mixed p72 Try.func72 b72 Try.ntmps72 (by simp) (by rw [e72]; exact h)
def j44_2 (R : Value → World → Prop) (t0 : Value) (t1 : Value) (t10 : Value) (t91 : Value) (w : World) : Prop :=
 Bc t91
 (R (.tuple #[(.bool false), (.int .i64 0)]) w)
 (O (nC t0) fun t93 =>
 O (fA 12 t93) fun t94 =>
 O (rd1 t94 w) fun t95 =>
 O (bi .sub t1 (.int .i64 1)) fun t97 =>
 O (iS 15 t95 t97) fun t98 =>
 O (fA 11 t98) fun t99 =>
 ST Try.prog 70 t99 (.int .i64 3) w fun _ w =>
 O (nC t0) fun t101 =>
 O (fA 12 t101) fun t102 =>
 O (rd1 t102 w) fun t103 =>
 O (bi .sub t1 (.int .i64 1)) fun t105 =>
 O (iS 15 t103 t105) fun t107 =>
 O (fA 12 t107) fun t108 =>
 ST Try.prog 71 t108 t10 w fun _ w =>
 Cl Try.prog 69 [t0, (.int .i64 2), t1, (.int .i64 0)] w fun t111 w =>
 R (.tuple #[(.bool true), (.int .i64 0)]) w)
def j44_1 (R : Value → World → Prop) (t20 : Value) (t0 : Value) (t1 : Value) (t10 : Value) (w : World) : Prop :=
 O (bi .eql t10 (.int .i64 0)) fun t86 =>
 Bc t86
 (Cl Try.prog 73 [t20] w fun t89 w =>
 O (un .not t89) fun t90 =>
 j44_2 R t0 t1 t10 t90 w)
 (j44_2 R t0 t1 t10 (.bool false) w)
def j44_0 (R : Value → World → Prop) (t0 : Value) (t1 : Value) (t20 : Value) (t7 : Value) (t8 : Value) (w : World) : Prop :=
 O (bi .neq t8 (.int .i64 0)) fun t41 =>
 Bc t41
 (Cl Try.prog 41 [t0] w fun t43 w =>
 R (.tuple #[(.bool false), t43]) w)
 (∃ (I0 : Value → World → Prop) (μ0 : Value → World → Nat), I0 (.int .i64 0) w ∧ ∀ (t9 : Value) wh0, I0 t9 wh0 →
 O (fA 5 t7) fun t45 =>
 O (rd1 t45 wh0) fun t46 =>
 O (lenS t46) fun t47 =>
 O (bi .lss t9 t47) fun t48 =>
 Bc t48
 (Dr wh0 fun w =>
 O (nC t0) fun t53 =>
 O (fA 16 t53) fun t54 =>
 O (rd1 t54 w) fun t55 =>
 O (fA 5 t7) fun t57 =>
 O (rd1 t57 w) fun t58 =>
 O (iS 5 t58 t9) fun t60 =>
 O (rdN 5 t60 w) fun t61 =>
 O ((fillW Try.prog 67 [(0, (.int .i64 3)), (1, t1), (3, t61)]).map .agg) fun t62 =>
 BS 67 8 1 (.agg #[.int .i64 0, .int .i64 0, .int .i64 0, .int .i64 0, .int .i64 0, .int .i64 0, .int .i64 0, .bool false]) [(0, t62)] w fun t63 w =>
 AP Try.prog #[43, 43] 43 [t55, t63] w fun t64 w =>
 O (nC t0) fun t65 =>
 O (fA 16 t65) fun t66 =>
 ST Try.prog 43 t66 t64 w fun _ w =>
 O (bi .add t9 (.int .i64 1)) fun t50 =>
 I0 t50 w ∧ μ0 t50 w < μ0 t9 wh0)
 (O (nC t20) fun t68 =>
 O (fA 9 t68) fun t69 =>
 O (rd1 t69 wh0) fun t70 =>
 O (fA 0 t7) fun t71 =>
 O (rd1 t71 wh0) fun t72 =>
 O (bi .neq t72 (.int .i64 0)) fun t73 =>
 Bc t73
 (O (rdN 6 t7 wh0) fun t77 =>
 Cl Try.prog 72 [t0, t1, t77] wh0 fun t78 w =>
 O (exv t78 0) fun t79 =>
 O (exv t78 1) fun t80 =>
 O (bi .neq t80 (.int .i64 0)) fun t82 =>
 Bc t82
 (R (.tuple #[(.bool false), t80]) w)
 (Bc t79
 (j44_1 R t20 t0 t1 (.int .i64 1) w)
 (j44_1 R t20 t0 t1 t70 w)))
 (j44_1 R t20 t0 t1 t70 wh0)))
def c44 (R : Value → World → Prop) (t0 : Value) (t1 : Value) (w : World) : Prop :=
 O (nC t0) fun t14 =>
 O (fA 13 t14) fun t15 =>
 O (rd1 t15 w) fun t16 =>
 O (bi .sub t1 (.int .i64 1)) fun t18 =>
 O (iS 1 t16 t18) fun t19 =>
 O (rd1 t19 w) fun t20 =>
 Dr w fun w =>
 O (nC t0) fun t24 =>
 O (fA 8 t24) fun t25 =>
 O (rd1 t25 w) fun t26 =>
 O (nC t0) fun t29 =>
 O (fA 12 t29) fun t30 =>
 O (rd1 t30 w) fun t31 =>
 O (bi .sub t1 (.int .i64 1)) fun t33 =>
 O (iS 15 t31 t33) fun t34 =>
 O (fA 10 t34) fun t35 =>
 O (rd1 t35 w) fun t36 =>
 (Cl Try.prog 71 [t20, t26, t1, t36] w fun t37 w =>
 O (exv t37 0) fun t38 =>
 O (exv t37 1) fun t39 =>
 AL (.cells #[.int .i64 0, .int .i64 0, .int .i64 0, .int .i64 0, .int .i64 0, .slice none 0 0] 162) w fun t7 w =>
 ST Try.prog 162 t7 t38 w fun _ w =>
 j44_0 R t0 t1 t20 t7 t39 w) ∧
 (AL (.cells #[.int .i64 0, .int .i64 0, .int .i64 0, .int .i64 0, .int .i64 0, .slice none 0 0] 162) w fun t7 w =>
 Cl Try.prog 71 [t20, t26, t1, t36] w fun t37 w =>
 O (exv t37 0) fun t38 =>
 O (exv t37 1) fun t39 =>
 ST Try.prog 162 t7 t38 w fun _ w =>
 j44_0 R t0 t1 t20 t7 t39 w)
def p44 : Plan := .seq (.leaf) (.seq (.leaf) (.join [7, 8] [0, 1, 6] (.tree [0, 0, 2, 6, 14, 0, 0, 64, 192, 448, 0, 1024, 4032, 8128, 16320, 32767, 65535, 131071, 131071, 0, 786431, 2097151] (.take 0 (.take 1 (.take 2 (.take 3 (.take 4 (.take 5 (.take 6 (.take 7 (.take 8 (.take 9 (.take 10 (.take 11 (.take 12 (.take 13 (.take 14 (.alt 15 (.take 16 (.take 17 (.take 18 (.take 19 (.take 20 (.take 21 (.done))))))) (.take 19 (.take 15 (.take 16 (.take 17 (.take 18 (.take 20 (.take 21 (.done))))))))))))))))))))))))) (.seq (.seq (.leaf) (.cond (.seq (.leaf) (.leaf)) (.leaf))) (.seq (.seq (.leaf) (.block (.loop [9] [0, 1, 6, 7] (.seq (.seq (.leaf) (.cond (.leaf) (.leaf))) (.seq (.block (.ord [0, 0, 2, 6, 14, 0, 0, 64, 0, 448, 960, 2016, 4064, 8190, 16383, 32767, 65535])) (.leaf)))))) (.seq (.leaf) (.join [10] [0, 1, 6] (.seq (.leaf) (.cond (.seq (.leaf) (.seq (.seq (.leaf) (.cond (.seq (.leaf) (.leaf)) (.leaf))) (.seq (.leaf) (.cond (.leaf) (.leaf))))) (.leaf))) (.seq (.join [91] [0, 1, 10] (.leaf) (.cond (.seq (.leaf) (.leaf)) (.leaf))) (.seq (.leaf) (.seq (.leaf) (.seq (.leaf) (.seq (.leaf) (.leaf))))))))))))
theorem e44 (R : Value → World → Prop) (t0 : Value) (t1 : Value) (w : World) : cw Try.prog 112 p44 (Try.f44.body.getD .skip) (fnQ Try.prog Try.f44.results.toList R) (argE 0 [t0, t1]) w = c44 R t0 t1 w := by kernel_rfl
theorem b44 : Try.f44.body = some (Try.f44.body.getD .skip) := by kernel_rfl
theorem s44 {R : Value → World → Prop} {t0 : Value} {t1 : Value} {w : World} (h : c44 R t0 t1 w) : Cl Try.prog 44 [t0, t1] w R :=
  calls_of_cw mixed p44 Try.func44 b44 Try.ntmps44 (by simp) (by rw [e44]; exact h)
def j21_2 (R : Value → World → Prop) (t0 : Value) (t1 : Value) (t5 : Value) (t72 : Value) (w : World) : Prop :=
 Bc t72
 (R (.int .i64 10) w)
 (O (nC t0) fun t74 =>
 O (fA 19 t74) fun t75 =>
 O (rd1 t75 w) fun t76 =>
 O (bi .geq t76 (.int .i64 20000)) fun t77 =>
 Bc t77
 (Cl Try.prog 41 [t0] w fun t79 w =>
 R t79 w)
 (O (nC t0) fun t81 =>
 O (fA 19 t81) fun t82 =>
 O (rd1 t82 w) fun t83 =>
 O (bi .add t83 (.int .i64 1)) fun t84 =>
 O (nC t0) fun t85 =>
 O (fA 19 t85) fun t86 =>
 ST Try.prog 3 t86 t84 w fun _ w =>
 O (nC t0) fun t88 =>
 O (fA 11 t88) fun t89 =>
 O (rd1 t89 w) fun t90 =>
 O (iS 1 t90 t1) fun t92 =>
 O (rd1 t92 w) fun t93 =>
 O (bi .eql t93 (.int .i64 0)) fun t94 =>
 Bc t94
 (Dr w fun w =>
 O (nC t0) fun t96 =>
 O (fA 10 t96) fun t97 =>
 O (rd1 t97 w) fun t98 =>
 O (iS 1 t98 t1) fun t100 =>
 O (rd1 t100 w) fun t101 =>
 O (nC t0) fun t103 =>
 O (fA 18 t103) fun t104 =>
 O (rd1 t104 w) fun t105 =>
 Cl Try.prog 42 [t101, t105] w fun t106 w =>
 Dr w fun w =>
 O (nC t0) fun t108 =>
 O (fA 11 t108) fun t109 =>
 O (rd1 t109 w) fun t110 =>
 O (fA 0 t5) fun t112 =>
 O (rd1 t112 w) fun t113 =>
 O (iS 1 t110 t1) fun t114 =>
 ST Try.prog 3 t114 t113 w fun _ w =>
 O (fA 0 t5) fun t116 =>
 O (rd1 t116 w) fun t117 =>
 Cl Try.prog 43 [t0, t117] w fun t118 w =>
 R (.int .i64 0) w)
 (O (nC t0) fun t122 =>
 O (fA 11 t122) fun t123 =>
 O (rd1 t123 w) fun t124 =>
 O (iS 1 t124 t1) fun t126 =>
 O (rd1 t126 w) fun t127 =>
 Cl Try.prog 44 [t0, t127] w fun t128 w =>
 O (exv t128 0) fun t129 =>
 O (exv t128 1) fun t130 =>
 Bc t129
 (O (nC t0) fun t133 =>
 O (fA 11 t133) fun t134 =>
 O (rd1 t134 w) fun t135 =>
 O (iS 1 t135 t1) fun t137 =>
 ST Try.prog 3 t137 (.int .i64 0) w fun _ w =>
 R t130 w)
 (R t130 w))))
def j21_1 (R : Value → World → Prop) (t0 : Value) (t1 : Value) (t5 : Value) (t6 : Value) (w : World) : Prop :=
 O (nC t0) fun t40 =>
 O (fA 11 t40) fun t41 =>
 O (rd1 t41 w) fun t42 =>
 O (iS 1 t42 t1) fun t44 =>
 O (rd1 t44 w) fun t45 =>
 O (bi .eql t45 (.int .i64 0)) fun t46 =>
 Bc t46
 (O (un .not t6) fun t49 =>
 Bc t49
 (j21_2 R t0 t1 t5 (.bool true) w)
 (O (nC t0) fun t53 =>
 O (fA 11 t53) fun t54 =>
 O (rd1 t54 w) fun t55 =>
 O (iS 1 t55 t1) fun t57 =>
 O (rd1 t57 w) fun t58 =>
 O (bi .gtr t58 (.int .i64 0)) fun t59 =>
 Bc t59
 (O (nC t0) fun t63 =>
 O (fA 11 t63) fun t64 =>
 O (rd1 t64 w) fun t65 =>
 O (iS 1 t65 t1) fun t67 =>
 O (rd1 t67 w) fun t68 =>
 Cl Try.prog 40 [t0, t68] w fun t69 w =>
 O (bi .gtr t69 (.int .i64 0)) fun t70 =>
 j21_2 R t0 t1 t5 t70 w)
 (j21_2 R t0 t1 t5 (.bool false) w)))
 (O (nC t0) fun t53 =>
 O (fA 11 t53) fun t54 =>
 O (rd1 t54 w) fun t55 =>
 O (iS 1 t55 t1) fun t57 =>
 O (rd1 t57 w) fun t58 =>
 O (bi .gtr t58 (.int .i64 0)) fun t59 =>
 Bc t59
 (O (nC t0) fun t63 =>
 O (fA 11 t63) fun t64 =>
 O (rd1 t64 w) fun t65 =>
 O (iS 1 t65 t1) fun t67 =>
 O (rd1 t67 w) fun t68 =>
 Cl Try.prog 40 [t0, t68] w fun t69 w =>
 O (bi .gtr t69 (.int .i64 0)) fun t70 =>
 j21_2 R t0 t1 t5 t70 w)
 (j21_2 R t0 t1 t5 (.bool false) w))
def j21_0 (R : Value → World → Prop) (t0 : Value) (t1 : Value) (t23 : Value) (w : World) : Prop :=
 Bc t23
 (R (.int .i64 10) w)
 (Dr w fun w =>
 O (nC t0) fun t26 =>
 O (fA 10 t26) fun t27 =>
 O (rd1 t27 w) fun t28 =>
 O (iS 1 t28 t1) fun t30 =>
 O (rd1 t30 w) fun t31 =>
 O (nC t0) fun t33 =>
 O (fA 18 t33) fun t34 =>
 O (rd1 t34 w) fun t35 =>
 (Cl Try.prog 39 [t31, t35] w fun t36 w =>
 O (exv t36 0) fun t37 =>
 O (exv t36 1) fun t38 =>
 AL (.cells #[.int .i64 0, .bool false, .int .i64 0] 133) w fun t5 w =>
 ST Try.prog 133 t5 t37 w fun _ w =>
 j21_1 R t0 t1 t5 t38 w) ∧
 (AL (.cells #[.int .i64 0, .bool false, .int .i64 0] 133) w fun t5 w =>
 Cl Try.prog 39 [t31, t35] w fun t36 w =>
 O (exv t36 0) fun t37 =>
 O (exv t36 1) fun t38 =>
 ST Try.prog 133 t5 t37 w fun _ w =>
 j21_1 R t0 t1 t5 t38 w))
def c21 (R : Value → World → Prop) (t0 : Value) (t1 : Value) (w : World) : Prop :=
 O (nC t0) fun t10 =>
 O (fA 20 t10) fun t11 =>
 O (rd1 t11 w) fun t12 =>
 Bc t12
 (R (.int .i64 11) w)
 (O (bi .lss t1 (.int .i64 0)) fun t14 =>
 Bc t14
 (j21_0 R t0 t1 (.bool true) w)
 (O (nC t0) fun t18 =>
 O (fA 10 t18) fun t19 =>
 O (rd1 t19 w) fun t20 =>
 O (lenS t20) fun t21 =>
 O (bi .geq t1 t21) fun t22 =>
 j21_0 R t0 t1 t22 w))
def p21 : Plan := .seq (.leaf) (.seq (.seq (.leaf) (.cond (.seq (.leaf) (.leaf)) (.leaf))) (.seq (.join [23] [0, 1] (.leaf) (.cond (.seq (.leaf) (.leaf)) (.leaf))) (.join [5, 6] [0, 1] (.tree [0, 1, 3, 7, 0, 31, 63, 0, 128, 384, 896, 2047, 4095, 8191, 8191, 0, 49151, 131071] (.take 0 (.take 1 (.take 2 (.take 3 (.take 4 (.take 5 (.take 6 (.take 7 (.take 8 (.take 9 (.take 10 (.alt 11 (.take 12 (.take 13 (.take 14 (.take 15 (.take 16 (.take 17 (.done))))))) (.take 15 (.take 11 (.take 12 (.take 13 (.take 14 (.take 16 (.take 17 (.done))))))))))))))))))))) (.seq (.join [72] [0, 1, 5] (.leaf) (.cond (.seq (.leaf) (.leaf)) (.leaf))) (.seq (.seq (.leaf) (.cond (.seq (.leaf) (.leaf)) (.leaf))) (.seq (.leaf) (.seq (.seq (.leaf) (.cond (.seq (.ord [0, 1, 3, 7, 0, 31, 63, 0, 128, 384, 896, 2047]) (.seq (.ord [0, 1, 3, 7, 0, 0, 32, 127, 255]) (.seq (.leaf) (.seq (.leaf) (.leaf))))) (.leaf))) (.seq (.leaf) (.seq (.seq (.leaf) (.cond (.leaf) (.leaf))) (.seq (.leaf) (.leaf)))))))))))
theorem e21 (R : Value → World → Prop) (t0 : Value) (t1 : Value) (w : World) : cw Try.prog 139 p21 (Try.f21.body.getD .skip) (fnQ Try.prog Try.f21.results.toList R) (argE 0 [t0, t1]) w = c21 R t0 t1 w := by kernel_rfl
theorem b21 : Try.f21.body = some (Try.f21.body.getD .skip) := by kernel_rfl
theorem s21 {R : Value → World → Prop} {t0 : Value} {t1 : Value} {w : World} (h : c21 R t0 t1 w) : Cl Try.prog 21 [t0, t1] w R :=
  calls_of_cw mixed p21 Try.func21 b21 Try.ntmps21 (by simp) (by rw [e21]; exact h)
def j22_0 (R : Value → World → Prop) (t0 : Value) (t1 : Value) (t51 : Value) (w : World) : Prop :=
 Bc t51
 (R (.int .i64 10) w)
 (O (nC t0) fun t53 =>
 O (fA 19 t53) fun t54 =>
 O (rd1 t54 w) fun t55 =>
 O (bi .geq t55 (.int .i64 20000)) fun t56 =>
 Bc t56
 (Cl Try.prog 41 [t0] w fun t58 w =>
 R t58 w)
 (O (nC t0) fun t60 =>
 O (fA 19 t60) fun t61 =>
 O (rd1 t61 w) fun t62 =>
 O (bi .add t62 (.int .i64 1)) fun t63 =>
 O (nC t0) fun t64 =>
 O (fA 19 t64) fun t65 =>
 ST Try.prog 3 t65 t63 w fun _ w =>
 O (nC t0) fun t67 =>
 O (fA 12 t67) fun t68 =>
 O (rd1 t68 w) fun t69 =>
 O (bi .sub t1 (.int .i64 1)) fun t71 =>
 O (iS 15 t69 t71) fun t72 =>
 O (fA 11 t72) fun t73 =>
 O (rd1 t73 w) fun t74 =>
 O (bi .eql t74 (.int .i64 1)) fun t75 =>
 Bc t75
 (Cl Try.prog 43 [t0, t1] w fun t78 w =>
 R (.int .i64 0) w)
 (Cl Try.prog 44 [t0, t1] w fun t82 w =>
 O (exv t82 0) fun t83 =>
 O (exv t82 1) fun t84 =>
 R t84 w)))
def c22 (R : Value → World → Prop) (t0 : Value) (t1 : Value) (w : World) : Prop :=
 O (nC t0) fun t8 =>
 O (fA 20 t8) fun t9 =>
 O (rd1 t9 w) fun t10 =>
 Bc t10
 (R (.int .i64 11) w)
 (O (bi .lss t1 (.int .i64 1)) fun t12 =>
 Bc t12
 (j22_0 R t0 t1 (.bool true) w)
 (O (nC t0) fun t16 =>
 O (fA 12 t16) fun t17 =>
 O (rd1 t17 w) fun t18 =>
 O (lenS t18) fun t19 =>
 O (bi .gtr t1 t19) fun t20 =>
 Bc t20
 (j22_0 R t0 t1 (.bool true) w)
 (O (nC t0) fun t24 =>
 O (fA 12 t24) fun t25 =>
 O (rd1 t25 w) fun t26 =>
 O (bi .sub t1 (.int .i64 1)) fun t28 =>
 O (iS 15 t26 t28) fun t29 =>
 O (fA 4 t29) fun t30 =>
 O (rd1 t30 w) fun t31 =>
 O (bi .geq t31 (.int .i64 0)) fun t32 =>
 Bc t32
 (j22_0 R t0 t1 (.bool true) w)
 (O (nC t0) fun t36 =>
 O (fA 12 t36) fun t37 =>
 O (rd1 t37 w) fun t38 =>
 O (bi .sub t1 (.int .i64 1)) fun t40 =>
 O (iS 15 t38 t40) fun t41 =>
 O (fA 11 t41) fun t42 =>
 O (rd1 t42 w) fun t43 =>
 O (bi .eql t43 (.int .i64 3)) fun t44 =>
 Bc t44
 (j22_0 R t0 t1 (.bool true) w)
 (Cl Try.prog 40 [t0, t1] w fun t49 w =>
 O (bi .gtr t49 (.int .i64 0)) fun t50 =>
 j22_0 R t0 t1 t50 w)))))
def p22 : Plan := .seq (.leaf) (.seq (.seq (.leaf) (.cond (.seq (.leaf) (.leaf)) (.leaf))) (.seq (.join [51] [0, 1] (.leaf) (.cond (.seq (.leaf) (.leaf)) (.leaf))) (.seq (.seq (.leaf) (.cond (.seq (.leaf) (.leaf)) (.leaf))) (.seq (.leaf) (.seq (.seq (.leaf) (.cond (.seq (.leaf) (.seq (.leaf) (.leaf))) (.leaf))) (.seq (.leaf) (.seq (.leaf) (.leaf))))))))
theorem e22 (R : Value → World → Prop) (t0 : Value) (t1 : Value) (w : World) : cw Try.prog 86 p22 (Try.f22.body.getD .skip) (fnQ Try.prog Try.f22.results.toList R) (argE 0 [t0, t1]) w = c22 R t0 t1 w := by kernel_rfl
theorem b22 : Try.f22.body = some (Try.f22.body.getD .skip) := by kernel_rfl
theorem s22 {R : Value → World → Prop} {t0 : Value} {t1 : Value} {w : World} (h : c22 R t0 t1 w) : Cl Try.prog 22 [t0, t1] w R :=
  calls_of_cw mixed p22 Try.func22 b22 Try.ntmps22 (by simp) (by rw [e22]; exact h)

end Go.Proofs.Ytedcfkigfcobaaa
end
/- Printed by wip/tools/gen.py: the bodies of functions 23 45 46 24 74 47 48 25 9 12 32 13 49 75 with named temporaries, tied to the loaded program. -/
section
set_option maxRecDepth 100000
namespace Go.Proofs.Ytedcfkigfcobaaa
open Go Go.Proofs
def j23_0 (R : Value → World → Prop) (t0 : Value) (t1 : Value) (t23 : Value) (w : World) : Prop :=
 Bc t23
 (R (.int .i64 10) w)
 (O (nC t0) fun t26 =>
 O (fA 18 t26) fun t27 =>
 O (rd1 t27 w) fun t28 =>
 O (bi .add t28 t1) fun t30 =>
 O (nC t0) fun t31 =>
 O (fA 18 t31) fun t32 =>
 ST Try.prog 2 t32 t30 w fun _ w =>
 R (.int .i64 0) w)
def c23 (R : Value → World → Prop) (t0 : Value) (t1 : Value) (w : World) : Prop :=
 O (nC t0) fun t6 =>
 O (fA 20 t6) fun t7 =>
 O (rd1 t7 w) fun t8 =>
 Bc t8
 (R (.int .i64 11) w)
 (O (bi .lss t1 (.int .i64 1)) fun t10 =>
 Bc t10
 (j23_0 R t0 t1 (.bool true) w)
 (O (bi .gtr t1 (.int .i64 1000000000000)) fun t13 =>
 Bc t13
 (j23_0 R t0 t1 (.bool true) w)
 (O (nC t0) fun t17 =>
 O (fA 18 t17) fun t18 =>
 O (rd1 t18 w) fun t19 =>
 O (bi .add t19 t1) fun t21 =>
 O (bi .gtr t21 (.int .i64 1000000000000)) fun t22 =>
 j23_0 R t0 t1 t22 w)))
def p23 : Plan := .seq (.leaf) (.seq (.seq (.leaf) (.cond (.seq (.leaf) (.leaf)) (.leaf))) (.seq (.join [23] [0, 1] (.leaf) (.cond (.seq (.leaf) (.leaf)) (.leaf))) (.seq (.leaf) (.seq (.leaf) (.leaf)))))
theorem e23 (R : Value → World → Prop) (t0 : Value) (t1 : Value) (w : World) : cw Try.prog 33 p23 (Try.f23.body.getD .skip) (fnQ Try.prog Try.f23.results.toList R) (argE 0 [t0, t1]) w = c23 R t0 t1 w := by kernel_rfl
theorem b23 : Try.f23.body = some (Try.f23.body.getD .skip) := by kernel_rfl
theorem s23 {R : Value → World → Prop} {t0 : Value} {t1 : Value} {w : World} (h : c23 R t0 t1 w) : Cl Try.prog 23 [t0, t1] w R :=
  calls_of_cw mixed p23 Try.func23 b23 Try.ntmps23 (by simp) (by rw [e23]; exact h)
def c45 (R : Value → World → Prop) (t0 : Value) (t1 : Value) (w : World) : Prop :=
 O (bi .geq t1 (.int .i64 0)) fun t6 =>
 Bc t6
 (O (nC t0) fun t10 =>
 O (fA 1 t10) fun t11 =>
 O (rd1 t11 w) fun t12 =>
 O (lenS t12) fun t13 =>
 O (bi .lss t1 t13) fun t14 =>
 Bc t14
 (O (nC t0) fun t18 =>
 O (fA 1 t18) fun t19 =>
 O (rd1 t19 w) fun t20 =>
 O (iS 1 t20 t1) fun t22 =>
 O (rd1 t22 w) fun t23 =>
 R t23 w)
 (R (.bool false) w))
 (R (.bool false) w)
def p45 : Plan := .seq (.leaf) (.seq (.leaf) (.leaf))
theorem e45 (R : Value → World → Prop) (t0 : Value) (t1 : Value) (w : World) : cw Try.prog 25 p45 (Try.f45.body.getD .skip) (fnQ Try.prog Try.f45.results.toList R) (argE 0 [t0, t1]) w = c45 R t0 t1 w := by kernel_rfl
theorem b45 : Try.f45.body = some (Try.f45.body.getD .skip) := by kernel_rfl
theorem s45 {R : Value → World → Prop} {t0 : Value} {t1 : Value} {w : World} (h : c45 R t0 t1 w) : Cl Try.prog 45 [t0, t1] w R :=
  calls_of_cw mixed p45 Try.func45 b45 Try.ntmps45 (by simp) (by rw [e45]; exact h)
def j46_0 (R : Value → World → Prop) (t5 : Value) (I0 : Value → World → Prop) (μ0 : Value → World → Nat) (wh0 : World) (w : World) : Prop :=
 O (bi .add t5 (.int .i64 1)) fun t14 =>
 I0 t14 w ∧ μ0 t14 w < μ0 t5 wh0
def j46_1 (R : Value → World → Prop) (t5 : Value) (t3 : Value) (I0 : Value → World → Prop) (μ0 : Value → World → Nat) (wh0 : World) (t38 : Value) (w : World) : Prop :=
 Bc t38
 (O (bi .add t5 (.int .i64 1)) fun t40 =>
 O (fA 14 t3) fun t41 =>
 ST Try.prog 3 t41 t40 w fun _ w =>
 O (fA 6 t3) fun t42 =>
 O (rd1 t42 w) fun t43 =>
 O (bi .add t43 (.int .i64 1)) fun t44 =>
 O (fA 6 t3) fun t45 =>
 ST Try.prog 3 t45 t44 w fun _ w =>
 j46_0 R t5 I0 μ0 wh0 w)
 (j46_0 R t5 I0 μ0 wh0 w)
def c46 (R : Value → World → Prop) (t0 : Value) (t1 : Value) (w : World) : Prop :=
 AL (.cells (Value.cells t1) 73) w fun t3 w =>
 ∃ (I0 : Value → World → Prop) (μ0 : Value → World → Nat), I0 (.int .i64 0) w ∧ ∀ (t5 : Value) wh0, I0 t5 wh0 →
 O (nC t0) fun t8 =>
 O (fA 12 t8) fun t9 =>
 O (rd1 t9 wh0) fun t10 =>
 O (lenS t10) fun t11 =>
 O (bi .lss t5 t11) fun t12 =>
 Bc t12
 (Dr wh0 fun w =>
 O (nC t0) fun t16 =>
 O (fA 12 t16) fun t17 =>
 O (rd1 t17 w) fun t18 =>
 O (iS 15 t18 t5) fun t20 =>
 O (fA 0 t20) fun t21 =>
 O (rd1 t21 w) fun t22 =>
 O (fA 0 t3) fun t23 =>
 O (rd1 t23 w) fun t24 =>
 O (bi .eql t22 t24) fun t25 =>
 Bc t25
 (O (nC t0) fun t28 =>
 O (fA 12 t28) fun t29 =>
 O (rd1 t29 w) fun t30 =>
 O (iS 15 t30 t5) fun t32 =>
 O (fA 1 t32) fun t33 =>
 O (rd1 t33 w) fun t34 =>
 O (fA 1 t3) fun t35 =>
 O (rd1 t35 w) fun t36 =>
 O (bi .eql t34 t36) fun t37 =>
 j46_1 R t5 t3 I0 μ0 wh0 t37 w)
 (j46_1 R t5 t3 I0 μ0 wh0 (.bool false) w))
 (O (rdN 15 t3 wh0) fun t47 =>
 Cl Try.prog 20 [t0, t47, (.slice none 0 0)] wh0 fun t48 w =>
 O (bi .eql t48 (.int .i64 0)) fun t49 =>
 Bc t49
 (Cl Try.prog 41 [t0] w fun t51 w =>
 R t51 w)
 (R (.int .i64 0) w))
def p46 : Plan := .seq (.leaf) (.seq (.seq (.leaf) (.block (.loop [5] [0, 3] (.seq (.seq (.leaf) (.cond (.leaf) (.leaf))) (.join [] [0, 3, 5] (.block (.join [38] [0, 3, 5] (.ord [0, 1, 3, 7, 0, 31, 63, 127, 0, 256, 1023, 2047, 4095, 8191, 16383, 32767, 4095, 131071, 262143, 524287, 4095, 1052671, 4194303, 8388607]) (.cond (.seq (.leaf) (.leaf)) (.leaf)))) (.leaf)))))) (.seq (.seq (.leaf) (.cond (.seq (.leaf) (.leaf)) (.leaf))) (.seq (.leaf) (.leaf))))
theorem e46 (R : Value → World → Prop) (t0 : Value) (t1 : Value) (w : World) : cw Try.prog 52 p46 (Try.f46.body.getD .skip) (fnQ Try.prog Try.f46.results.toList R) (argE 0 [t0, t1]) w = c46 R t0 t1 w := by kernel_rfl
theorem b46 : Try.f46.body = some (Try.f46.body.getD .skip) := by kernel_rfl
theorem s46 {R : Value → World → Prop} {t0 : Value} {t1 : Value} {w : World} (h : c46 R t0 t1 w) : Cl Try.prog 46 [t0, t1] w R :=
  calls_of_cw mixed p46 Try.func46 b46 Try.ntmps46 (by simp) (by rw [e46]; exact h)
def j24_0 (R : Value → World → Prop) (t0 : Value) (t1 : Value) (t2 : Value) (t32 : Value) (w : World) : Prop :=
 Bc t32
 (R (.int .i64 10) w)
 (O (nC t0) fun t34 =>
 O (fA 0 t34) fun t35 =>
 O (fA 5 t35) fun t36 =>
 O (rd1 t36 w) fun t37 =>
 O (iS 4 t37 t1) fun t39 =>
 O (rdN 4 t39 w) fun t40 =>
 AL (.cells #[.string ByteArray.empty, .int .i64 0, .bool false, .int .i64 0] 94) w fun t7 w =>
 ST Try.prog 94 t7 t40 w fun _ w =>
 Dr w fun w =>
 O (fA 3 t7) fun t43 =>
 O (rd1 t43 w) fun t44 =>
 O (fA 1 t7) fun t45 =>
 O (rd1 t45 w) fun t46 =>
 O (nC t0) fun t49 =>
 O (fA 17 t49) fun t50 =>
 O (rd1 t50 w) fun t51 =>
 O (iS 1 t51 t1) fun t53 =>
 O (rd1 t53 w) fun t54 =>
 O ((fillW Try.prog 73 [(0, (.int .i64 3)), (1, t1), (3, t44), (4, t46), (10, t2), (13, t54)]).map .agg) fun t55 =>
 Cl Try.prog 46 [t0, t55] w fun t56 w =>
 R t56 w)
def c24 (R : Value → World → Prop) (t0 : Value) (t1 : Value) (t2 : Value) (w : World) : Prop :=
 O (nC t0) fun t9 =>
 O (fA 20 t9) fun t10 =>
 O (rd1 t10 w) fun t11 =>
 Bc t11
 (R (.int .i64 11) w)
 (O (bi .lss t1 (.int .i64 0)) fun t13 =>
 Bc t13
 (j24_0 R t0 t1 t2 (.bool true) w)
 (O (nC t0) fun t17 =>
 O (fA 0 t17) fun t18 =>
 O (fA 5 t18) fun t19 =>
 O (rd1 t19 w) fun t20 =>
 O (lenS t20) fun t21 =>
 O (bi .geq t1 t21) fun t22 =>
 Bc t22
 (j24_0 R t0 t1 t2 (.bool true) w)
 (O (nC t0) fun t26 =>
 O (fA 9 t26) fun t27 =>
 O (rd1 t27 w) fun t28 =>
 Cl Try.prog 45 [t28, t1] w fun t30 w =>
 O (un .not t30) fun t31 =>
 j24_0 R t0 t1 t2 t31 w)))
def p24 : Plan := .seq (.leaf) (.seq (.seq (.leaf) (.cond (.seq (.leaf) (.leaf)) (.leaf))) (.seq (.join [32] [0, 1, 2] (.leaf) (.cond (.seq (.leaf) (.leaf)) (.leaf))) (.seq (.leaf) (.seq (.ord [0, 0, 0, 4, 0, 16, 0, 0, 128, 384, 896, 0, 3968, 8064, 16382, 32767, 65535]) (.leaf)))))
theorem e24 (R : Value → World → Prop) (t0 : Value) (t1 : Value) (t2 : Value) (w : World) : cw Try.prog 57 p24 (Try.f24.body.getD .skip) (fnQ Try.prog Try.f24.results.toList R) (argE 0 [t0, t1, t2]) w = c24 R t0 t1 t2 w := by kernel_rfl
theorem b24 : Try.f24.body = some (Try.f24.body.getD .skip) := by kernel_rfl
theorem s24 {R : Value → World → Prop} {t0 : Value} {t1 : Value} {t2 : Value} {w : World} (h : c24 R t0 t1 t2 w) : Cl Try.prog 24 [t0, t1, t2] w R :=
  calls_of_cw mixed p24 Try.func24 b24 Try.ntmps24 (by simp) (by rw [e24]; exact h)
def c74 (R : Value → World → Prop) (t0 : Value) (t1 : Value) (w : World) : Prop :=
 O (bi .eql t1 (.int .i64 0)) fun t7 =>
 Bc t7
 (O (bi .eql t0 (.int .i64 (-1))) fun t9 =>
 R t9 w)
 (O (bi .eql t1 (.int .i64 1)) fun t11 =>
 Bc t11
 (O (bi .eql t0 (.int .i64 0)) fun t13 =>
 Bc t13
 (R (.bool true) w)
 (O (bi .eql t0 (.int .i64 2)) fun t16 =>
 R t16 w))
 (O (bi .eql t1 (.int .i64 2)) fun t19 =>
 Bc t19
 (O (bi .eql t0 (.int .i64 1)) fun t21 =>
 R t21 w)
 (O (bi .eql t1 (.int .i64 3)) fun t23 =>
 Bc t23
 (O (bi .eql t0 (.int .i64 0)) fun t25 =>
 Bc t25
 (R (.bool true) w)
 (O (bi .eql t0 (.int .i64 2)) fun t28 =>
 R t28 w))
 (R (.bool false) w))))
def p74 : Plan := .seq (.leaf) (.seq (.seq (.leaf) (.block (.seq (.leaf) (.cond (.seq (.leaf) (.leaf)) (.seq (.leaf) (.cond (.seq (.leaf) (.leaf)) (.seq (.leaf) (.cond (.seq (.leaf) (.leaf)) (.seq (.leaf) (.cond (.seq (.leaf) (.leaf)) (.leaf))))))))))) (.seq (.leaf) (.leaf)))
theorem e74 (R : Value → World → Prop) (t0 : Value) (t1 : Value) (w : World) : cw Try.prog 30 p74 (Try.f74.body.getD .skip) (fnQ Try.prog Try.f74.results.toList R) (argE 0 [t0, t1]) w = c74 R t0 t1 w := by kernel_rfl
theorem b74 : Try.f74.body = some (Try.f74.body.getD .skip) := by kernel_rfl
theorem s74 {R : Value → World → Prop} {t0 : Value} {t1 : Value} {w : World} (h : c74 R t0 t1 w) : Cl Try.prog 74 [t0, t1] w R :=
  calls_of_cw mixed p74 Try.func74 b74 Try.ntmps74 (by simp) (by rw [e74]; exact h)
def c47 (R : Value → World → Prop) (t0 : Value) (t1 : Value) (t2 : Value) (w : World) : Prop :=
 O (bi .geq t1 (.int .i64 0)) fun t8 =>
 Bc t8
 (O (nC t0) fun t12 =>
 O (fA 0 t12) fun t13 =>
 O (rd1 t13 w) fun t14 =>
 O (lenS t14) fun t15 =>
 O (bi .lss t1 t15) fun t16 =>
 Bc t16
 (O (nC t0) fun t20 =>
 O (fA 0 t20) fun t21 =>
 O (rd1 t21 w) fun t22 =>
 O (iS 1 t22 t1) fun t24 =>
 O (rd1 t24 w) fun t25 =>
 Cl Try.prog 74 [t25, t2] w fun t27 w =>
 R t27 w)
 (R (.bool false) w))
 (R (.bool false) w)
def p47 : Plan := .seq (.leaf) (.seq (.leaf) (.leaf))
theorem e47 (R : Value → World → Prop) (t0 : Value) (t1 : Value) (t2 : Value) (w : World) : cw Try.prog 29 p47 (Try.f47.body.getD .skip) (fnQ Try.prog Try.f47.results.toList R) (argE 0 [t0, t1, t2]) w = c47 R t0 t1 t2 w := by kernel_rfl
theorem b47 : Try.f47.body = some (Try.f47.body.getD .skip) := by kernel_rfl
theorem s47 {R : Value → World → Prop} {t0 : Value} {t1 : Value} {t2 : Value} {w : World} (h : c47 R t0 t1 t2 w) : Cl Try.prog 47 [t0, t1, t2] w R :=
  calls_of_cw mixed p47 Try.func47 b47 Try.ntmps47 (by simp) (by rw [e47]; exact h)
def j48_0 (R : Value → World → Prop) (t0 : Value) (t1 : Value) (t2 : Value) (t25 : Value) (w : World) : Prop :=
 Bc t25
 (R (.int .i64 2) w)
 (Cl Try.prog 47 [t0, t1, t2] w fun t29 w =>
 O (un .not t29) fun t30 =>
 Bc t30
 (R (.int .i64 10) w)
 (O (nC t0) fun t32 =>
 O (fA 0 t32) fun t33 =>
 O (rd1 t33 w) fun t34 =>
 O (iS 1 t34 t1) fun t37 =>
 ST Try.prog 3 t37 t2 w fun _ w =>
 R (.int .i64 0) w))
def c48 (R : Value → World → Prop) (t0 : Value) (t1 : Value) (t2 : Value) (w : World) : Prop :=
 O (bi .lss t1 (.int .i64 0)) fun t8 =>
 Bc t8
 (j48_0 R t0 t1 t2 (.bool true) w)
 (O (nC t0) fun t12 =>
 O (fA 0 t12) fun t13 =>
 O (rd1 t13 w) fun t14 =>
 O (lenS t14) fun t15 =>
 O (bi .geq t1 t15) fun t16 =>
 Bc t16
 (j48_0 R t0 t1 t2 (.bool true) w)
 (O (bi .lss t2 (.int .i64 0)) fun t20 =>
 Bc t20
 (j48_0 R t0 t1 t2 (.bool true) w)
 (O (bi .gtr t2 (.int .i64 3)) fun t24 =>
 j48_0 R t0 t1 t2 t24 w)))
def p48 : Plan := .seq (.leaf) (.seq (.join [25] [0, 1, 2] (.leaf) (.cond (.seq (.leaf) (.leaf)) (.leaf))) (.seq (.seq (.leaf) (.cond (.seq (.leaf) (.leaf)) (.leaf))) (.seq (.leaf) (.seq (.leaf) (.leaf)))))
theorem e48 (R : Value → World → Prop) (t0 : Value) (t1 : Value) (t2 : Value) (w : World) : cw Try.prog 38 p48 (Try.f48.body.getD .skip) (fnQ Try.prog Try.f48.results.toList R) (argE 0 [t0, t1, t2]) w = c48 R t0 t1 t2 w := by kernel_rfl
theorem b48 : Try.f48.body = some (Try.f48.body.getD .skip) := by kernel_rfl
theorem s48 {R : Value → World → Prop} {t0 : Value} {t1 : Value} {t2 : Value} {w : World} (h : c48 R t0 t1 t2 w) : Cl Try.prog 48 [t0, t1, t2] w R :=
  calls_of_cw mixed p48 Try.func48 b48 Try.ntmps48 (by simp) (by rw [e48]; exact h)
def j25_1 (R : Value → World → Prop) (t0 : Value) (t1 : Value) (t2 : Value) (w : World) : Prop :=
 O (nC t0) fun t63 =>
 O (fA 9 t63) fun t64 =>
 O (rd1 t64 w) fun t65 =>
 Cl Try.prog 48 [t65, t1, t2] w fun t68 w =>
 R (.int .i64 0) w
def j25_0 (R : Value → World → Prop) (t0 : Value) (t1 : Value) (t2 : Value) (t34 : Value) (w : World) : Prop :=
 Bc t34
 (R (.int .i64 10) w)
 (O (nC t0) fun t36 =>
 O (fA 0 t36) fun t37 =>
 O (fA 4 t37) fun t38 =>
 O (rd1 t38 w) fun t39 =>
 O (iS 6 t39 t1) fun t41 =>
 O (rdN 6 t41 w) fun t42 =>
 AL (.cells #[.string ByteArray.empty, .int .i64 0, .int .i64 0, .int .i64 0, .int .i64 0, .int .i64 0] 122) w fun t7 w =>
 ST Try.prog 122 t7 t42 w fun _ w =>
 O (fA 2 t7) fun t44 =>
 O (iA 4 1 t44 t2) fun t45 =>
 O (rd1 t45 w) fun t46 =>
 O (bi .geq t46 (.int .i64 0)) fun t47 =>
 Bc t47
 (Dr w fun w =>
 O (fA 2 t7) fun t52 =>
 O (iA 4 1 t52 t2) fun t53 =>
 O (rd1 t53 w) fun t54 =>
 O (fA 1 t7) fun t55 =>
 O (rd1 t55 w) fun t56 =>
 O ((fillW Try.prog 73 [(0, (.int .i64 2)), (1, t1), (2, t2), (3, t54), (4, t56), (13, (.int .i64 (-1)))]).map .agg) fun t57 =>
 Cl Try.prog 46 [t0, t57] w fun t58 w =>
 O (bi .neq t58 (.int .i64 0)) fun t60 =>
 Bc t60
 (R t58 w)
 (j25_1 R t0 t1 t2 w))
 (j25_1 R t0 t1 t2 w))
def c25 (R : Value → World → Prop) (t0 : Value) (t1 : Value) (t2 : Value) (w : World) : Prop :=
 O (nC t0) fun t10 =>
 O (fA 20 t10) fun t11 =>
 O (rd1 t11 w) fun t12 =>
 Bc t12
 (R (.int .i64 11) w)
 (O (bi .lss t1 (.int .i64 0)) fun t14 =>
 Bc t14
 (j25_0 R t0 t1 t2 (.bool true) w)
 (O (nC t0) fun t18 =>
 O (fA 0 t18) fun t19 =>
 O (fA 4 t19) fun t20 =>
 O (rd1 t20 w) fun t21 =>
 O (lenS t21) fun t22 =>
 O (bi .geq t1 t22) fun t23 =>
 Bc t23
 (j25_0 R t0 t1 t2 (.bool true) w)
 (O (nC t0) fun t27 =>
 O (fA 9 t27) fun t28 =>
 O (rd1 t28 w) fun t29 =>
 Cl Try.prog 47 [t29, t1, t2] w fun t32 w =>
 O (un .not t32) fun t33 =>
 j25_0 R t0 t1 t2 t33 w)))
def p25 : Plan := .seq (.leaf) (.seq (.seq (.leaf) (.cond (.seq (.leaf) (.leaf)) (.leaf))) (.seq (.join [34] [0, 1, 2] (.leaf) (.cond (.seq (.leaf) (.leaf)) (.leaf))) (.seq (.leaf) (.join [] [0, 1, 2] (.seq (.leaf) (.cond (.seq (.ord [0, 0, 0, 0, 0, 24, 56, 0, 128, 510, 1023, 2047]) (.seq (.leaf) (.cond (.seq (.leaf) (.leaf)) (.leaf)))) (.leaf))) (.seq (.leaf) (.seq (.leaf) (.leaf)))))))
theorem e25 (R : Value → World → Prop) (t0 : Value) (t1 : Value) (t2 : Value) (w : World) : cw Try.prog 69 p25 (Try.f25.body.getD .skip) (fnQ Try.prog Try.f25.results.toList R) (argE 0 [t0, t1, t2]) w = c25 R t0 t1 t2 w := by kernel_rfl
theorem b25 : Try.f25.body = some (Try.f25.body.getD .skip) := by kernel_rfl
theorem s25 {R : Value → World → Prop} {t0 : Value} {t1 : Value} {t2 : Value} {w : World} (h : c25 R t0 t1 t2 w) : Cl Try.prog 25 [t0, t1, t2] w R :=
  calls_of_cw mixed p25 Try.func25 b25 Try.ntmps25 (by simp) (by rw [e25]; exact h)
def c9 (R : Value → World → Prop) (t0 : Value) (t1 : Value) (w : World) : Prop :=
 AL (.cells (Value.cells t1) 49) w fun t3 w =>
 O (fA 0 t3) fun t5 =>
 O (rd1 t5 w) fun t6 =>
 O (bi .eql t6 (.int .i64 1)) fun t8 =>
 Bc t8
 (O (fA 1 t3) fun t10 =>
 O (rd1 t10 w) fun t11 =>
 Cl Try.prog 21 [t0, t11] w fun t12 w =>
 R t12 w)
 (O (bi .eql t6 (.int .i64 2)) fun t14 =>
 Bc t14
 (O (fA 1 t3) fun t16 =>
 O (rd1 t16 w) fun t17 =>
 Cl Try.prog 22 [t0, t17] w fun t18 w =>
 R t18 w)
 (O (bi .eql t6 (.int .i64 3)) fun t20 =>
 Bc t20
 (O (fA 2 t3) fun t22 =>
 O (rd1 t22 w) fun t23 =>
 Cl Try.prog 23 [t0, t23] w fun t24 w =>
 R t24 w)
 (O (bi .eql t6 (.int .i64 4)) fun t26 =>
 Bc t26
 (O (fA 1 t3) fun t28 =>
 O (rd1 t28 w) fun t29 =>
 O (fA 2 t3) fun t30 =>
 O (rd1 t30 w) fun t31 =>
 Cl Try.prog 24 [t0, t29, t31] w fun t32 w =>
 R t32 w)
 (O (bi .eql t6 (.int .i64 5)) fun t34 =>
 Bc t34
 (O (fA 1 t3) fun t36 =>
 O (rd1 t36 w) fun t37 =>
 O (fA 2 t3) fun t38 =>
 O (rd1 t38 w) fun t39 =>
 Cl Try.prog 25 [t0, t37, t39] w fun t40 w =>
 R t40 w)
 (R (.int .i64 2) w)))))
def p9 : Plan := .seq (.leaf) (.seq (.seq (.leaf) (.block (.seq (.leaf) (.cond (.seq (.leaf) (.leaf)) (.seq (.leaf) (.cond (.seq (.leaf) (.leaf)) (.seq (.leaf) (.cond (.seq (.leaf) (.leaf)) (.seq (.leaf) (.cond (.seq (.leaf) (.leaf)) (.seq (.leaf) (.cond (.seq (.leaf) (.leaf)) (.leaf))))))))))))) (.seq (.leaf) (.leaf)))
theorem e9 (R : Value → World → Prop) (t0 : Value) (t1 : Value) (w : World) : cw Try.prog 41 p9 (Try.f9.body.getD .skip) (fnQ Try.prog Try.f9.results.toList R) (argE 0 [t0, t1]) w = c9 R t0 t1 w := by kernel_rfl
theorem b9 : Try.f9.body = some (Try.f9.body.getD .skip) := by kernel_rfl
theorem s9 {R : Value → World → Prop} {t0 : Value} {t1 : Value} {w : World} (h : c9 R t0 t1 w) : Cl Try.prog 9 [t0, t1] w R :=
  calls_of_cw mixed p9 Try.func9 b9 Try.ntmps9 (by simp) (by rw [e9]; exact h)
def c12 (R : Value → World → Prop) (t0 : Value) (w : World) : Prop :=
 AL (.cells (Value.cells t0) 52) w fun t1 w =>
 O (rdN 2 t1 w) fun t10 =>
 Cl Try.prog 29 [t10] w fun t11 w =>
 O (bi .neq t11 (.int .i64 0)) fun t13 =>
 Bc t13
 (R (.tuple #[(.slice none 0 0), t11]) w)
 (O (rdN 2 t1 w) fun t15 =>
 Cl Try.prog 30 [t15] w fun t16 w =>
 O (fA 1 t1) fun t17 =>
 O (rd1 t17 w) fun t18 =>
 O (lenS t18) fun t19 =>
 ∃ (I0 : Value → Value → World → Prop) (μ0 : Value → Value → World → Nat), I0 (.slice none 0 0) (.int .i64 0) w ∧ ∀ (t6 : Value) (t20 : Value) wh0, I0 t6 t20 wh0 →
 O (bi .lss t20 t19) fun t21 =>
 Bc t21
 (O (fA 1 t1) fun t23 =>
 O (rd1 t23 wh0) fun t24 =>
 O (lenS t24) fun t25 =>
 MS 4 1 1 (.bool false) t25 t25 wh0 fun t26 w =>
 O (lenS t26) fun t28 =>
 ∃ (I1 : Value → World → Prop) (μ1 : Value → World → Nat), I1 (.int .i64 0) w ∧ ∀ (t29 : Value) wh1, I1 t29 wh1 →
 O (bi .lss t29 t28) fun t30 =>
 Bc t30
 (Cl Try.prog 31 [t16, t20, t29] wh1 fun t37 w =>
 O (iS 1 t26 t29) fun t38 =>
 ST Try.prog 4 t38 t37 w fun _ w =>
 O (bi .add t29 (.int .i64 1)) fun t39 =>
 I1 t39 w ∧ μ1 t39 w < μ1 t29 wh1)
 (BS 59 1 1 (.slice none 0 0) [(0, t26)] wh1 fun t42 w =>
 AP Try.prog #[55, 55] 55 [t6, t42] w fun t43 w =>
 O (bi .add t20 (.int .i64 1)) fun t44 =>
 I0 t43 t44 w ∧ μ0 t43 t44 w < μ0 t6 t20 wh0))
 (R (.tuple #[t6, (.int .i64 0)]) wh0))
def p12 : Plan := .seq (.leaf) (.seq (.seq (.leaf) (.seq (.leaf) (.cond (.seq (.leaf) (.leaf)) (.leaf)))) (.seq (.leaf) (.seq (.leaf) (.seq (.seq (.leaf) (.block (.loop [6, 20] [1, 5, 19] (.seq (.leaf) (.seq (.cond (.leaf) (.leaf)) (.seq (.block (.seq (.leaf) (.seq (.leaf) (.seq (.seq (.leaf) (.block (.loop [29] [1, 5, 6, 7, 8, 19, 20, 28] (.seq (.leaf) (.seq (.cond (.leaf) (.leaf)) (.seq (.block (.seq (.leaf) (.leaf))) (.leaf))))))) (.leaf))))) (.leaf))))))) (.seq (.leaf) (.leaf))))))
theorem e12 (R : Value → World → Prop) (t0 : Value) (w : World) : cw Try.prog 46 p12 (Try.f12.body.getD .skip) (fnQ Try.prog Try.f12.results.toList R) (argE 0 [t0]) w = c12 R t0 w := by kernel_rfl
theorem b12 : Try.f12.body = some (Try.f12.body.getD .skip) := by kernel_rfl
theorem s12 {R : Value → World → Prop} {t0 : Value} {w : World} (h : c12 R t0 w) : Cl Try.prog 12 [t0] w R :=
  calls_of_cw mixed p12 Try.func12 b12 Try.ntmps12 (by simp) (by rw [e12]; exact h)
def j32_1 (R : Value → World → Prop) (t9 : Value) (I0 : Value → World → Prop) (μ0 : Value → World → Nat) (wh0 : World) (t39 : Value) (w : World) : Prop :=
 Bc t39
 (R t9 w)
 (O (bi .add t9 (.int .i64 1)) fun t21 =>
 I0 t21 w ∧ μ0 t21 w < μ0 t9 wh0)
def j32_0 (R : Value → World → Prop) (t4 : Value) (t9 : Value) (t1 : Value) (t2 : Value) (I0 : Value → World → Prop) (μ0 : Value → World → Nat) (wh0 : World) (t19 : Value) (w : World) : Prop :=
 Bc t19
 (O (fA 1 t4) fun t22 =>
 O (rd1 t22 w) fun t23 =>
 O (iS 8 t23 t9) fun t25 =>
 O (fA 1 t25) fun t26 =>
 O (rd1 t26 w) fun t27 =>
 O (bi .eql t27 t1) fun t29 =>
 Bc t29
 (O (fA 1 t4) fun t31 =>
 O (rd1 t31 w) fun t32 =>
 O (iS 8 t32 t9) fun t34 =>
 O (fA 0 t34) fun t35 =>
 O (rd1 t35 w) fun t36 =>
 O (bi .eql t36 t2) fun t38 =>
 j32_1 R t9 I0 μ0 wh0 t38 w)
 (j32_1 R t9 I0 μ0 wh0 (.bool false) w))
 (R (.int .i64 (-1)) w)
def c32 (R : Value → World → Prop) (t0 : Value) (t1 : Value) (t2 : Value) (t3 : Value) (w : World) : Prop :=
 AL (.cells (Value.cells t0) 52) w fun t4 w =>
 ∃ (I0 : Value → World → Prop) (μ0 : Value → World → Nat), I0 (.int .i64 0) w ∧ ∀ (t9 : Value) wh0, I0 t9 wh0 →
 O (fA 1 t4) fun t11 =>
 O (rd1 t11 wh0) fun t12 =>
 O (lenS t12) fun t13 =>
 O (bi .lss t9 t13) fun t14 =>
 Bc t14
 (O (bi .lss t9 t3) fun t18 =>
 j32_0 R t4 t9 t1 t2 I0 μ0 wh0 t18 wh0)
 (j32_0 R t4 t9 t1 t2 I0 μ0 wh0 (.bool false) wh0)
def p32 : Plan := .seq (.leaf) (.seq (.seq (.leaf) (.block (.loop [9] [1, 2, 3, 4] (.seq (.join [19] [1, 2, 3, 4, 9] (.leaf) (.cond (.leaf) (.leaf))) (.seq (.block (.join [39] [1, 2, 3, 4, 9] (.leaf) (.cond (.seq (.leaf) (.leaf)) (.leaf)))) (.leaf)))))) (.seq (.leaf) (.leaf)))
theorem e32 (R : Value → World → Prop) (t0 : Value) (t1 : Value) (t2 : Value) (t3 : Value) (w : World) : cw Try.prog 41 p32 (Try.f32.body.getD .skip) (fnQ Try.prog Try.f32.results.toList R) (argE 0 [t0, t1, t2, t3]) w = c32 R t0 t1 t2 t3 w := by kernel_rfl
theorem b32 : Try.f32.body = some (Try.f32.body.getD .skip) := by kernel_rfl
theorem s32 {R : Value → World → Prop} {t0 : Value} {t1 : Value} {t2 : Value} {t3 : Value} {w : World} (h : c32 R t0 t1 t2 t3 w) : Cl Try.prog 32 [t0, t1, t2, t3] w R :=
  calls_of_cw mixed p32 Try.func32 b32 Try.ntmps32 (by simp) (by rw [e32]; exact h)
def c13 (R : Value → World → Prop) (t0 : Value) (t1 : Value) (w : World) : Prop :=
 AL (.cells (Value.cells t0) 52) w fun t2 w =>
 O (rdN 2 t2 w) fun t5 =>
 O (fA 1 t2) fun t7 =>
 O (rd1 t7 w) fun t8 =>
 O (lenS t8) fun t9 =>
 Cl Try.prog 32 [t5, t1, (.int .i64 1), t9] w fun t10 w =>
 R t10 w
def p13 : Plan := .seq (.leaf) (.seq (.leaf) (.leaf))
theorem e13 (R : Value → World → Prop) (t0 : Value) (t1 : Value) (w : World) : cw Try.prog 11 p13 (Try.f13.body.getD .skip) (fnQ Try.prog Try.f13.results.toList R) (argE 0 [t0, t1]) w = c13 R t0 t1 w := by kernel_rfl
theorem b13 : Try.f13.body = some (Try.f13.body.getD .skip) := by kernel_rfl
theorem s13 {R : Value → World → Prop} {t0 : Value} {t1 : Value} {w : World} (h : c13 R t0 t1 w) : Cl Try.prog 13 [t0, t1] w R :=
  calls_of_cw mixed p13 Try.func13 b13 Try.ntmps13 (by simp) (by rw [e13]; exact h)
def c49 (R : Value → World → Prop) (t0 : Value) (t1 : Value) (w : World) : Prop :=
 AL (.cells (Value.cells t0) 52) w fun t2 w =>
 O (rdN 2 t2 w) fun t5 =>
 O (fA 1 t2) fun t7 =>
 O (rd1 t7 w) fun t8 =>
 O (lenS t8) fun t9 =>
 Cl Try.prog 32 [t5, t1, (.int .i64 2), t9] w fun t10 w =>
 R t10 w
def p49 : Plan := .seq (.leaf) (.seq (.leaf) (.leaf))
theorem e49 (R : Value → World → Prop) (t0 : Value) (t1 : Value) (w : World) : cw Try.prog 11 p49 (Try.f49.body.getD .skip) (fnQ Try.prog Try.f49.results.toList R) (argE 0 [t0, t1]) w = c49 R t0 t1 w := by kernel_rfl
theorem b49 : Try.f49.body = some (Try.f49.body.getD .skip) := by kernel_rfl
theorem s49 {R : Value → World → Prop} {t0 : Value} {t1 : Value} {w : World} (h : c49 R t0 t1 w) : Cl Try.prog 49 [t0, t1] w R :=
  calls_of_cw mixed p49 Try.func49 b49 Try.ntmps49 (by simp) (by rw [e49]; exact h)
def j75_0 (R : Value → World → Prop) (t0 : Value) (t1 : Value) (t2 : Value) (t11 : Value) (w : World) : Prop :=
 Bc t11
 (O (nC t0) fun t13 =>
 O (fA 2 t13) fun t14 =>
 O (rd1 t14 w) fun t15 =>
 O (iS 1 t15 t1) fun t17 =>
 O (rd1 t17 w) fun t18 =>
 O (iS 1 t18 t2) fun t20 =>
 ST Try.prog 4 t20 (.bool true) w fun _ w =>
 R (.tuple #[]) w)
 (R (.tuple #[]) w)
def c75 (R : Value → World → Prop) (t0 : Value) (t1 : Value) (t2 : Value) (w : World) : Prop :=
 O (bi .geq t1 (.int .i64 0)) fun t7 =>
 Bc t7
 (O (bi .geq t2 (.int .i64 0)) fun t10 =>
 j75_0 R t0 t1 t2 t10 w)
 (j75_0 R t0 t1 t2 (.bool false) w)
def p75 : Plan := .join [11] [0, 1, 2] (.leaf) (.cond (.leaf) (.leaf))
theorem e75 (R : Value → World → Prop) (t0 : Value) (t1 : Value) (t2 : Value) (w : World) : cw Try.prog 21 p75 (Try.f75.body.getD .skip) (fnQ Try.prog Try.f75.results.toList R) (argE 0 [t0, t1, t2]) w = c75 R t0 t1 t2 w := by kernel_rfl
theorem b75 : Try.f75.body = some (Try.f75.body.getD .skip) := by kernel_rfl
theorem s75 {R : Value → World → Prop} {t0 : Value} {t1 : Value} {t2 : Value} {w : World} (h : c75 R t0 t1 t2 w) : Cl Try.prog 75 [t0, t1, t2] w R :=
  calls_of_cw mixed p75 Try.func75 b75 Try.ntmps75 (by simp) (by rw [e75]; exact h)

end Go.Proofs.Ytedcfkigfcobaaa
end
/- Printed by wip/tools/gen.py: the bodies of functions 50 51 76 52 with named temporaries, tied to the loaded program. -/
section
set_option maxRecDepth 100000
namespace Go.Proofs.Ytedcfkigfcobaaa
open Go Go.Proofs
def j50_0 (R : Value → World → Prop) (t2 : Value) (I0 : Value → World → Prop) (μ0 : Value → World → Nat) (wh0 : World) (w : World) : Prop :=
 O (bi .add t2 (.int .i64 1)) fun t16 =>
 I0 t16 w ∧ μ0 t16 w < μ0 t2 wh0
def j50_1 (R : Value → World → Prop) (t3 : Value) (t0 : Value) (t2 : Value) (I0 : Value → World → Prop) (μ0 : Value → World → Nat) (wh0 : World) (w : World) : Prop :=
 O (fA 0 t3) fun t53 =>
 O (rd1 t53 w) fun t54 =>
 O (bi .eql t54 (.int .i64 6)) fun t55 =>
 Bc t55
 (Dr w fun w =>
 O (nC t0) fun t58 =>
 O (fA 4 t58) fun t59 =>
 O (rd1 t59 w) fun t60 =>
 O (fA 2 t3) fun t61 =>
 O (rd1 t61 w) fun t62 =>
 O (iS 1 t60 t62) fun t63 =>
 O (rd1 t63 w) fun t64 =>
 Cl Try.prog 75 [t0, t64, t2] w fun t66 w =>
 j50_0 R t2 I0 μ0 wh0 w)
 (j50_0 R t2 I0 μ0 wh0 w)
def j50_2 (R : Value → World → Prop) (t5 : Value) (I2 : Value → World → Prop) (μ2 : Value → World → Nat) (wh2 : World) (w : World) : Prop :=
 O (bi .add t5 (.int .i64 1)) fun t76 =>
 I2 t76 w ∧ μ2 t76 w < μ2 t5 wh2
def c50 (R : Value → World → Prop) (t0 : Value) (w : World) : Prop :=
 ∃ (I0 : Value → World → Prop) (μ0 : Value → World → Nat), I0 (.int .i64 0) w ∧ ∀ (t2 : Value) wh0, I0 t2 wh0 →
 O (nC t0) fun t9 =>
 O (fA 0 t9) fun t10 =>
 O (fA 1 t10) fun t11 =>
 O (rd1 t11 wh0) fun t12 =>
 O (lenS t12) fun t13 =>
 O (bi .lss t2 t13) fun t14 =>
 Bc t14
 (O (nC t0) fun t18 =>
 O (fA 0 t18) fun t19 =>
 O (fA 1 t19) fun t20 =>
 O (rd1 t20 wh0) fun t21 =>
 O (iS 8 t21 t2) fun t23 =>
 O (rdN 8 t23 wh0) fun t24 =>
 AL (.cells #[.int .i64 0, .int .i64 0, .int .i64 0, .int .i64 0, .int .i64 0, .int .i64 0, .int .i64 0, .bool false] 67) wh0 fun t3 w =>
 ST Try.prog 67 t3 t24 w fun _ w =>
 O (bi .add t2 (.int .i64 1)) fun t26 =>
 ∃ (I1 : Value → World → Prop) (μ1 : Value → World → Nat), I1 t26 w ∧ ∀ (t4 : Value) wh1, I1 t4 wh1 →
 O (nC t0) fun t29 =>
 O (fA 0 t29) fun t30 =>
 O (fA 1 t30) fun t31 =>
 O (rd1 t31 wh1) fun t32 =>
 O (lenS t32) fun t33 =>
 O (bi .lss t4 t33) fun t34 =>
 Bc t34
 (Dr wh1 fun w =>
 O (nC t0) fun t38 =>
 O (fA 0 t38) fun t39 =>
 O (fA 1 t39) fun t40 =>
 O (rd1 t40 w) fun t41 =>
 O (iS 8 t41 t4) fun t43 =>
 O (fA 1 t43) fun t44 =>
 O (rd1 t44 w) fun t45 =>
 O (fA 1 t3) fun t46 =>
 O (rd1 t46 w) fun t47 =>
 O (bi .eql t45 t47) fun t48 =>
 Bc t48
 (Cl Try.prog 75 [t0, t2, t4] w fun t52 w =>
 j50_1 R t3 t0 t2 I0 μ0 wh0 w)
 (O (bi .add t4 (.int .i64 1)) fun t36 =>
 I1 t36 w ∧ μ1 t36 w < μ1 t4 wh1))
 (j50_1 R t3 t0 t2 I0 μ0 wh0 wh1))
 (∃ (I2 : Value → World → Prop) (μ2 : Value → World → Nat), I2 (.int .i64 1) wh0 ∧ ∀ (t5 : Value) wh2, I2 t5 wh2 →
 O (nC t0) fun t69 =>
 O (fA 0 t69) fun t70 =>
 O (fA 0 t70) fun t71 =>
 O (rd1 t71 wh2) fun t72 =>
 O (lenS t72) fun t73 =>
 O (bi .leq t5 t73) fun t74 =>
 Bc t74
 (O (nC t0) fun t78 =>
 O (fA 0 t78) fun t79 =>
 O (fA 0 t79) fun t80 =>
 O (rd1 t80 wh2) fun t81 =>
 O (bi .sub t5 (.int .i64 1)) fun t83 =>
 O (iS 15 t81 t83) fun t84 =>
 O (rdN 15 t84 wh2) fun t85 =>
 AL (.cells #[.int .i64 0, .int .i64 0, .int .i64 0, .int .i64 0, .int .i64 0, .int .i64 0, .int .i64 0, .bool false, .int .i64 0, .int .i64 0, .int .i64 0, .int .i64 0, .int .i64 0, .int .i64 0, .int .i64 0] 73) wh2 fun t6 w =>
 ST Try.prog 73 t6 t85 w fun _ w =>
 Dr w fun w =>
 O (fA 13 t6) fun t87 =>
 O (rd1 t87 w) fun t88 =>
 O (nC t0) fun t90 =>
 O (fA 3 t90) fun t91 =>
 O (rd1 t91 w) fun t92 =>
 O (iS 1 t92 t5) fun t94 =>
 O (rd1 t94 w) fun t95 =>
 Cl Try.prog 75 [t0, t88, t95] w fun t96 w =>
 O (fA 14 t6) fun t97 =>
 O (rd1 t97 w) fun t98 =>
 O (bi .gtr t98 (.int .i64 0)) fun t99 =>
 Bc t99
 (Dr w fun w =>
 O (nC t0) fun t102 =>
 O (fA 4 t102) fun t103 =>
 O (rd1 t103 w) fun t104 =>
 O (fA 14 t6) fun t105 =>
 O (rd1 t105 w) fun t106 =>
 O (iS 1 t104 t106) fun t107 =>
 O (rd1 t107 w) fun t108 =>
 O (nC t0) fun t110 =>
 O (fA 3 t110) fun t111 =>
 O (rd1 t111 w) fun t112 =>
 O (iS 1 t112 t5) fun t114 =>
 O (rd1 t114 w) fun t115 =>
 Cl Try.prog 75 [t0, t108, t115] w fun t116 w =>
 j50_2 R t5 I2 μ2 wh2 w)
 (j50_2 R t5 I2 μ2 wh2 w))
 (R (.tuple #[]) wh2))
def p50 : Plan := .seq (.seq (.leaf) (.block (.loop [2] [0] (.seq (.seq (.leaf) (.cond (.leaf) (.leaf))) (.join [] [0, 2] (.block (.seq (.leaf) (.join [] [0, 2, 3] (.seq (.leaf) (.block (.loop [4] [0, 2, 3] (.seq (.seq (.leaf) (.cond (.leaf) (.leaf))) (.seq (.block (.seq (.ord [0, 1, 3, 7, 15, 0, 63, 127, 255, 0, 512, 2047]) (.cond (.seq (.leaf) (.leaf)) (.leaf)))) (.leaf)))))) (.seq (.leaf) (.cond (.ord [0, 0, 2, 6, 14, 0, 32, 126, 254, 0, 1023]) (.leaf)))))) (.leaf)))))) (.seq (.leaf) (.block (.loop [5] [0] (.seq (.seq (.leaf) (.cond (.leaf) (.leaf))) (.join [] [0, 5] (.block (.seq (.leaf) (.seq (.ord [0, 0, 2, 0, 8, 24, 56, 0, 248, 504, 1023]) (.seq (.leaf) (.cond (.ord [0, 0, 2, 6, 14, 0, 32, 126, 254, 0, 512, 1536, 3584, 0, 15872, 32256, 65535]) (.leaf)))))) (.leaf))))))
theorem e50 (R : Value → World → Prop) (t0 : Value) (w : World) : cw Try.prog 117 p50 (Try.f50.body.getD .skip) (fnQ Try.prog Try.f50.results.toList R) (argE 0 [t0]) w = c50 R t0 w := by kernel_rfl
theorem b50 : Try.f50.body = some (Try.f50.body.getD .skip) := by kernel_rfl
theorem s50 {R : Value → World → Prop} {t0 : Value} {w : World} (h : c50 R t0 w) : Cl Try.prog 50 [t0] w R :=
  calls_of_cw mixed p50 Try.func50 b50 Try.ntmps50 (by simp) (by rw [e50]; exact h)
def j51_0 (R : Value → World → Prop) (t4 : Value) (I1 : Value → World → Prop) (μ1 : Value → World → Nat) (wh1 : World) (w : World) : Prop :=
 O (bi .add t4 (.int .i64 1)) fun t20 =>
 I1 t20 w ∧ μ1 t20 w < μ1 t4 wh1
def j51_1 (R : Value → World → Prop) (t5 : Value) (I2 : Value → World → Prop) (μ2 : Value → World → Nat) (wh2 : World) (w : World) : Prop :=
 O (bi .add t5 (.int .i64 1)) fun t36 =>
 I2 t36 w ∧ μ2 t36 w < μ2 t5 wh2
def c51 (R : Value → World → Prop) (t0 : Value) (w : World) : Prop :=
 O (nC t0) fun t7 =>
 O (fA 2 t7) fun t8 =>
 O (rd1 t8 w) fun t9 =>
 O (lenS t9) fun t10 =>
 ∃ (I0 : Value → World → Prop) (μ0 : Value → World → Nat), I0 (.int .i64 0) w ∧ ∀ (t3 : Value) wh0, I0 t3 wh0 →
 O (bi .lss t3 t10) fun t13 =>
 Bc t13
 (∃ (I1 : Value → World → Prop) (μ1 : Value → World → Nat), I1 (.int .i64 0) wh0 ∧ ∀ (t4 : Value) wh1, I1 t4 wh1 →
 O (bi .lss t4 t10) fun t18 =>
 Bc t18
 (O (nC t0) fun t22 =>
 O (fA 2 t22) fun t23 =>
 O (rd1 t23 wh1) fun t24 =>
 O (iS 1 t24 t4) fun t26 =>
 O (rd1 t26 wh1) fun t27 =>
 O (iS 1 t27 t3) fun t29 =>
 O (rd1 t29 wh1) fun t30 =>
 O (un .not t30) fun t31 =>
 Bc t31
 (j51_0 R t4 I1 μ1 wh1 wh1)
 (∃ (I2 : Value → World → Prop) (μ2 : Value → World → Nat), I2 (.int .i64 0) wh1 ∧ ∀ (t5 : Value) wh2, I2 t5 wh2 →
 O (bi .lss t5 t10) fun t34 =>
 Bc t34
 (O (nC t0) fun t38 =>
 O (fA 2 t38) fun t39 =>
 O (rd1 t39 wh2) fun t40 =>
 O (iS 1 t40 t3) fun t42 =>
 O (rd1 t42 wh2) fun t43 =>
 O (iS 1 t43 t5) fun t45 =>
 O (rd1 t45 wh2) fun t46 =>
 Bc t46
 (O (nC t0) fun t48 =>
 O (fA 2 t48) fun t49 =>
 O (rd1 t49 wh2) fun t50 =>
 O (iS 1 t50 t4) fun t52 =>
 O (rd1 t52 wh2) fun t53 =>
 O (iS 1 t53 t5) fun t55 =>
 ST Try.prog 4 t55 (.bool true) wh2 fun _ w =>
 j51_1 R t5 I2 μ2 wh2 w)
 (j51_1 R t5 I2 μ2 wh2 wh2))
 (j51_0 R t4 I1 μ1 wh1 wh2)))
 (O (bi .add t3 (.int .i64 1)) fun t15 =>
 I0 t15 wh1 ∧ μ0 t15 wh1 < μ0 t3 wh0))
 (R (.tuple #[]) wh0)
def p51 : Plan := .seq (.leaf) (.seq (.leaf) (.block (.loop [3] [0, 2] (.seq (.seq (.leaf) (.cond (.leaf) (.leaf))) (.seq (.block (.seq (.leaf) (.block (.loop [4] [0, 2, 3] (.seq (.seq (.leaf) (.cond (.leaf) (.leaf))) (.join [] [0, 2, 3, 4] (.block (.seq (.seq (.leaf) (.cond (.leaf) (.leaf))) (.seq (.leaf) (.block (.loop [5] [0, 2, 3, 4] (.seq (.seq (.leaf) (.cond (.leaf) (.leaf))) (.join [] [0, 2, 3, 4, 5] (.block (.seq (.leaf) (.cond (.leaf) (.leaf)))) (.leaf)))))))) (.leaf))))))) (.leaf))))))
theorem e51 (R : Value → World → Prop) (t0 : Value) (w : World) : cw Try.prog 56 p51 (Try.f51.body.getD .skip) (fnQ Try.prog Try.f51.results.toList R) (argE 0 [t0]) w = c51 R t0 w := by kernel_rfl
theorem b51 : Try.f51.body = some (Try.f51.body.getD .skip) := by kernel_rfl
theorem s51 {R : Value → World → Prop} {t0 : Value} {w : World} (h : c51 R t0 w) : Cl Try.prog 51 [t0] w R :=
  calls_of_cw mixed p51 Try.func51 b51 Try.ntmps51 (by simp) (by rw [e51]; exact h)
def c76 (R : Value → World → Prop) (t0 : Value) (t1 : Value) (t2 : Value) (w : World) : Prop :=
 O (bi .geq t1 (.int .i64 0)) fun t8 =>
 Bc t8
 (O (bi .geq t2 (.int .i64 0)) fun t11 =>
 Bc t11
 (O (nC t0) fun t15 =>
 O (fA 2 t15) fun t16 =>
 O (rd1 t16 w) fun t17 =>
 O (iS 1 t17 t1) fun t19 =>
 O (rd1 t19 w) fun t20 =>
 O (iS 1 t20 t2) fun t22 =>
 O (rd1 t22 w) fun t23 =>
 R t23 w)
 (R (.bool false) w))
 (R (.bool false) w)
def p76 : Plan := .seq (.leaf) (.seq (.leaf) (.leaf))
theorem e76 (R : Value → World → Prop) (t0 : Value) (t1 : Value) (t2 : Value) (w : World) : cw Try.prog 25 p76 (Try.f76.body.getD .skip) (fnQ Try.prog Try.f76.results.toList R) (argE 0 [t0, t1, t2]) w = c76 R t0 t1 t2 w := by kernel_rfl
theorem b76 : Try.f76.body = some (Try.f76.body.getD .skip) := by kernel_rfl
theorem s76 {R : Value → World → Prop} {t0 : Value} {t1 : Value} {t2 : Value} {w : World} (h : c76 R t0 t1 t2 w) : Cl Try.prog 76 [t0, t1, t2] w R :=
  calls_of_cw mixed p76 Try.func76 b76 Try.ntmps76 (by simp) (by rw [e76]; exact h)
def j52_0 (R : Value → World → Prop) (t5 : Value) (I1 : Value → Value → World → Prop) (μ1 : Value → Value → World → Nat) (t3_1 : Value) (wh1 : World) (t3_2 : Value) (w : World) : Prop :=
 O (bi .add t5 (.int .i64 1)) fun t28 =>
 I1 t3_2 t28 w ∧ μ1 t3_2 t28 w < μ1 t3_1 t5 wh1
def j52_4 (R : Value → World → Prop) (t0 : Value) (t4 : Value) (t5 : Value) (I1 : Value → Value → World → Prop) (μ1 : Value → Value → World → Nat) (t3_1 : Value) (wh1 : World) (t173 : Value) (w : World) : Prop :=
 Bc t173
 (Dr w fun w =>
 O (nC t0) fun t175 =>
 O (fA 2 t175) fun t176 =>
 O (rd1 t176 w) fun t177 =>
 O (nC t0) fun t179 =>
 O (fA 4 t179) fun t180 =>
 O (rd1 t180 w) fun t181 =>
 O (iS 1 t181 t4) fun t183 =>
 O (rd1 t183 w) fun t184 =>
 O (iS 1 t177 t184) fun t185 =>
 O (rd1 t185 w) fun t186 =>
 O (nC t0) fun t188 =>
 O (fA 3 t188) fun t189 =>
 O (rd1 t189 w) fun t190 =>
 O (iS 1 t190 t5) fun t192 =>
 O (rd1 t192 w) fun t193 =>
 O (iS 1 t186 t193) fun t194 =>
 ST Try.prog 4 t194 (.bool true) w fun _ w =>
 j52_0 R t5 I1 μ1 t3_1 wh1 (.bool true) w)
 (j52_0 R t5 I1 μ1 t3_1 wh1 t3_1 w)
def j52_3 (R : Value → World → Prop) (t0 : Value) (t4 : Value) (t5 : Value) (I1 : Value → Value → World → Prop) (μ1 : Value → Value → World → Nat) (t3_1 : Value) (wh1 : World) (t8 : Value) (w : World) : Prop :=
 Dr w fun w =>
 Bc t8
 (j52_4 R t0 t4 t5 I1 μ1 t3_1 wh1 (.bool true) w)
 (O (nC t0) fun t159 =>
 O (fA 3 t159) fun t160 =>
 O (rd1 t160 w) fun t161 =>
 O (iS 1 t161 t4) fun t163 =>
 O (rd1 t163 w) fun t164 =>
 O (nC t0) fun t166 =>
 O (fA 3 t166) fun t167 =>
 O (rd1 t167 w) fun t168 =>
 O (iS 1 t168 t5) fun t170 =>
 O (rd1 t170 w) fun t171 =>
 Cl Try.prog 76 [t0, t164, t171] w fun t172 w =>
 j52_4 R t0 t4 t5 I1 μ1 t3_1 wh1 t172 w)
def j52_2 (R : Value → World → Prop) (t5 : Value) (I1 : Value → Value → World → Prop) (μ1 : Value → Value → World → Nat) (t3_1 : Value) (wh1 : World) (t6 : Value) (t7 : Value) (t0 : Value) (t4 : Value) (t105 : Value) (w : World) : Prop :=
 Bc t105
 (j52_0 R t5 I1 μ1 t3_1 wh1 t3_1 w)
 (Dr w fun w =>
 O (fA 0 t6) fun t106 =>
 O (rd1 t106 w) fun t107 =>
 O (bi .eql t107 (.int .i64 4)) fun t108 =>
 Bc t108
 (O (fA 0 t7) fun t110 =>
 O (rd1 t110 w) fun t111 =>
 O (bi .eql t111 (.int .i64 4)) fun t112 =>
 Bc t112
 (O (nC t0) fun t116 =>
 O (fA 4 t116) fun t117 =>
 O (rd1 t117 w) fun t118 =>
 O (iS 1 t118 t4) fun t120 =>
 O (rd1 t120 w) fun t121 =>
 O (nC t0) fun t123 =>
 O (fA 3 t123) fun t124 =>
 O (rd1 t124 w) fun t125 =>
 O (iS 1 t125 t5) fun t127 =>
 O (rd1 t127 w) fun t128 =>
 O (bi .lss t121 t128) fun t129 =>
 Bc t129
 (O (fA 13 t6) fun t133 =>
 O (rd1 t133 w) fun t134 =>
 O (fA 13 t7) fun t135 =>
 O (rd1 t135 w) fun t136 =>
 Cl Try.prog 76 [t0, t134, t136] w fun t137 w =>
 Bc t137
 (O (fA 7 t7) fun t140 =>
 O (rd1 t140 w) fun t141 =>
 O (un .not t141) fun t142 =>
 Bc t142
 (O (fA 7 t6) fun t145 =>
 O (rd1 t145 w) fun t146 =>
 Bc t146
 (j52_3 R t0 t4 t5 I1 μ1 t3_1 wh1 (.bool true) w)
 (O (fA 8 t6) fun t148 =>
 O (rd1 t148 w) fun t149 =>
 O (fA 8 t7) fun t150 =>
 O (rd1 t150 w) fun t151 =>
 O (bi .leq t149 t151) fun t152 =>
 j52_3 R t0 t4 t5 I1 μ1 t3_1 wh1 t152 w))
 (j52_3 R t0 t4 t5 I1 μ1 t3_1 wh1 (.bool false) w))
 (j52_3 R t0 t4 t5 I1 μ1 t3_1 wh1 (.bool false) w))
 (j52_3 R t0 t4 t5 I1 μ1 t3_1 wh1 (.bool false) w))
 (j52_3 R t0 t4 t5 I1 μ1 t3_1 wh1 (.bool false) w))
 (j52_3 R t0 t4 t5 I1 μ1 t3_1 wh1 (.bool false) w))
def j52_1 (R : Value → World → Prop) (t4 : Value) (t5 : Value) (I1 : Value → Value → World → Prop) (μ1 : Value → Value → World → Nat) (t3_1 : Value) (wh1 : World) (t0 : Value) (t6 : Value) (t7 : Value) (w : World) : Prop :=
 Dr w fun w =>
 O (bi .eql t4 t5) fun t49 =>
 Bc t49
 (j52_2 R t5 I1 μ1 t3_1 wh1 t6 t7 t0 t4 (.bool true) w)
 (O (fA 4 t6) fun t51 =>
 O (rd1 t51 w) fun t52 =>
 O (bi .lss t52 (.int .i64 0)) fun t53 =>
 Bc t53
 (j52_2 R t5 I1 μ1 t3_1 wh1 t6 t7 t0 t4 (.bool true) w)
 (O (fA 4 t6) fun t56 =>
 O (rd1 t56 w) fun t57 =>
 O (fA 4 t7) fun t58 =>
 O (rd1 t58 w) fun t59 =>
 O (bi .neq t57 t59) fun t60 =>
 Bc t60
 (j52_2 R t5 I1 μ1 t3_1 wh1 t6 t7 t0 t4 (.bool true) w)
 (O (nC t0) fun t64 =>
 O (fA 4 t64) fun t65 =>
 O (rd1 t65 w) fun t66 =>
 O (iS 1 t66 t4) fun t68 =>
 O (rd1 t68 w) fun t69 =>
 O (bi .lss t69 (.int .i64 0)) fun t70 =>
 Bc t70
 (j52_2 R t5 I1 μ1 t3_1 wh1 t6 t7 t0 t4 (.bool true) w)
 (O (nC t0) fun t74 =>
 O (fA 3 t74) fun t75 =>
 O (rd1 t75 w) fun t76 =>
 O (iS 1 t76 t5) fun t78 =>
 O (rd1 t78 w) fun t79 =>
 O (bi .lss t79 (.int .i64 0)) fun t80 =>
 Bc t80
 (j52_2 R t5 I1 μ1 t3_1 wh1 t6 t7 t0 t4 (.bool true) w)
 (O (nC t0) fun t84 =>
 O (fA 2 t84) fun t85 =>
 O (rd1 t85 w) fun t86 =>
 O (nC t0) fun t88 =>
 O (fA 4 t88) fun t89 =>
 O (rd1 t89 w) fun t90 =>
 O (iS 1 t90 t4) fun t92 =>
 O (rd1 t92 w) fun t93 =>
 O (iS 1 t86 t93) fun t94 =>
 O (rd1 t94 w) fun t95 =>
 O (nC t0) fun t97 =>
 O (fA 3 t97) fun t98 =>
 O (rd1 t98 w) fun t99 =>
 O (iS 1 t99 t5) fun t101 =>
 O (rd1 t101 w) fun t102 =>
 O (iS 1 t95 t102) fun t103 =>
 O (rd1 t103 w) fun t104 =>
 j52_2 R t5 I1 μ1 t3_1 wh1 t6 t7 t0 t4 t104 w)))))
def c52 (R : Value → World → Prop) (t0 : Value) (w : World) : Prop :=
 ∃ (I0 : Value → Value → World → Prop) (μ0 : Value → Value → World → Nat), I0 (.bool false) (.int .i64 1) w ∧ ∀ (t3 : Value) (t4 : Value) wh0, I0 t3 t4 wh0 →
 O (nC t0) fun t11 =>
 O (fA 0 t11) fun t12 =>
 O (fA 0 t12) fun t13 =>
 O (rd1 t13 wh0) fun t14 =>
 O (lenS t14) fun t15 =>
 O (bi .leq t4 t15) fun t16 =>
 Bc t16
 (∃ (I1 : Value → Value → World → Prop) (μ1 : Value → Value → World → Nat), I1 t3 (.int .i64 1) wh0 ∧ ∀ (t3_1 : Value) (t5 : Value) wh1, I1 t3_1 t5 wh1 →
 O (nC t0) fun t21 =>
 O (fA 0 t21) fun t22 =>
 O (fA 0 t22) fun t23 =>
 O (rd1 t23 wh1) fun t24 =>
 O (lenS t24) fun t25 =>
 O (bi .leq t5 t25) fun t26 =>
 Bc t26
 (Dr wh1 fun w =>
 O (nC t0) fun t30 =>
 O (fA 0 t30) fun t31 =>
 O (fA 0 t31) fun t32 =>
 O (rd1 t32 w) fun t33 =>
 O (bi .sub t4 (.int .i64 1)) fun t35 =>
 O (iS 15 t33 t35) fun t36 =>
 O (rdN 15 t36 w) fun t37 =>
 O (nC t0) fun t39 =>
 O (fA 0 t39) fun t40 =>
 O (fA 0 t40) fun t41 =>
 O (bi .sub t5 (.int .i64 1)) fun t44 =>
 (O (rd1 t41 w) fun t42 =>
 O (iS 15 t42 t44) fun t45 =>
 (O (rdN 15 t45 w) fun t46 =>
 (AL (.cells #[.int .i64 0, .int .i64 0, .int .i64 0, .int .i64 0, .int .i64 0, .int .i64 0, .int .i64 0, .bool false, .int .i64 0, .int .i64 0, .int .i64 0, .int .i64 0, .int .i64 0, .int .i64 0, .int .i64 0] 73) w fun t6 w =>
 AL (.cells #[.int .i64 0, .int .i64 0, .int .i64 0, .int .i64 0, .int .i64 0, .int .i64 0, .int .i64 0, .bool false, .int .i64 0, .int .i64 0, .int .i64 0, .int .i64 0, .int .i64 0, .int .i64 0, .int .i64 0] 73) w fun t7 w =>
 ST Try.prog 73 t6 t37 w fun _ w =>
 ST Try.prog 73 t7 t46 w fun _ w =>
 j52_1 R t4 t5 I1 μ1 t3_1 wh1 t0 t6 t7 w) ∧
 (AL (.cells #[.int .i64 0, .int .i64 0, .int .i64 0, .int .i64 0, .int .i64 0, .int .i64 0, .int .i64 0, .bool false, .int .i64 0, .int .i64 0, .int .i64 0, .int .i64 0, .int .i64 0, .int .i64 0, .int .i64 0] 73) w fun t7 w =>
 AL (.cells #[.int .i64 0, .int .i64 0, .int .i64 0, .int .i64 0, .int .i64 0, .int .i64 0, .int .i64 0, .bool false, .int .i64 0, .int .i64 0, .int .i64 0, .int .i64 0, .int .i64 0, .int .i64 0, .int .i64 0] 73) w fun t6 w =>
 ST Try.prog 73 t6 t37 w fun _ w =>
 ST Try.prog 73 t7 t46 w fun _ w =>
 j52_1 R t4 t5 I1 μ1 t3_1 wh1 t0 t6 t7 w)) ∧
 (AL (.cells #[.int .i64 0, .int .i64 0, .int .i64 0, .int .i64 0, .int .i64 0, .int .i64 0, .int .i64 0, .bool false, .int .i64 0, .int .i64 0, .int .i64 0, .int .i64 0, .int .i64 0, .int .i64 0, .int .i64 0] 73) w fun t6 w =>
 (O (rdN 15 t45 w) fun t46 =>
 AL (.cells #[.int .i64 0, .int .i64 0, .int .i64 0, .int .i64 0, .int .i64 0, .int .i64 0, .int .i64 0, .bool false, .int .i64 0, .int .i64 0, .int .i64 0, .int .i64 0, .int .i64 0, .int .i64 0, .int .i64 0] 73) w fun t7 w =>
 ST Try.prog 73 t6 t37 w fun _ w =>
 ST Try.prog 73 t7 t46 w fun _ w =>
 j52_1 R t4 t5 I1 μ1 t3_1 wh1 t0 t6 t7 w) ∧
 (AL (.cells #[.int .i64 0, .int .i64 0, .int .i64 0, .int .i64 0, .int .i64 0, .int .i64 0, .int .i64 0, .bool false, .int .i64 0, .int .i64 0, .int .i64 0, .int .i64 0, .int .i64 0, .int .i64 0, .int .i64 0] 73) w fun t7 w =>
 (O (rdN 15 t45 w) fun t46 =>
 ST Try.prog 73 t6 t37 w fun _ w =>
 ST Try.prog 73 t7 t46 w fun _ w =>
 j52_1 R t4 t5 I1 μ1 t3_1 wh1 t0 t6 t7 w) ∧
 (ST Try.prog 73 t6 t37 w fun _ w =>
 O (rdN 15 t45 w) fun t46 =>
 ST Try.prog 73 t7 t46 w fun _ w =>
 j52_1 R t4 t5 I1 μ1 t3_1 wh1 t0 t6 t7 w))) ∧
 (AL (.cells #[.int .i64 0, .int .i64 0, .int .i64 0, .int .i64 0, .int .i64 0, .int .i64 0, .int .i64 0, .bool false, .int .i64 0, .int .i64 0, .int .i64 0, .int .i64 0, .int .i64 0, .int .i64 0, .int .i64 0] 73) w fun t7 w =>
 (O (rdN 15 t45 w) fun t46 =>
 AL (.cells #[.int .i64 0, .int .i64 0, .int .i64 0, .int .i64 0, .int .i64 0, .int .i64 0, .int .i64 0, .bool false, .int .i64 0, .int .i64 0, .int .i64 0, .int .i64 0, .int .i64 0, .int .i64 0, .int .i64 0] 73) w fun t6 w =>
 ST Try.prog 73 t6 t37 w fun _ w =>
 ST Try.prog 73 t7 t46 w fun _ w =>
 j52_1 R t4 t5 I1 μ1 t3_1 wh1 t0 t6 t7 w) ∧
 (AL (.cells #[.int .i64 0, .int .i64 0, .int .i64 0, .int .i64 0, .int .i64 0, .int .i64 0, .int .i64 0, .bool false, .int .i64 0, .int .i64 0, .int .i64 0, .int .i64 0, .int .i64 0, .int .i64 0, .int .i64 0] 73) w fun t6 w =>
 (O (rdN 15 t45 w) fun t46 =>
 ST Try.prog 73 t6 t37 w fun _ w =>
 ST Try.prog 73 t7 t46 w fun _ w =>
 j52_1 R t4 t5 I1 μ1 t3_1 wh1 t0 t6 t7 w) ∧
 (ST Try.prog 73 t6 t37 w fun _ w =>
 O (rdN 15 t45 w) fun t46 =>
 ST Try.prog 73 t7 t46 w fun _ w =>
 j52_1 R t4 t5 I1 μ1 t3_1 wh1 t0 t6 t7 w)))) ∧
 (AL (.cells #[.int .i64 0, .int .i64 0, .int .i64 0, .int .i64 0, .int .i64 0, .int .i64 0, .int .i64 0, .bool false, .int .i64 0, .int .i64 0, .int .i64 0, .int .i64 0, .int .i64 0, .int .i64 0, .int .i64 0] 73) w fun t6 w =>
 (O (rd1 t41 w) fun t42 =>
 O (iS 15 t42 t44) fun t45 =>
 (O (rdN 15 t45 w) fun t46 =>
 AL (.cells #[.int .i64 0, .int .i64 0, .int .i64 0, .int .i64 0, .int .i64 0, .int .i64 0, .int .i64 0, .bool false, .int .i64 0, .int .i64 0, .int .i64 0, .int .i64 0, .int .i64 0, .int .i64 0, .int .i64 0] 73) w fun t7 w =>
 ST Try.prog 73 t6 t37 w fun _ w =>
 ST Try.prog 73 t7 t46 w fun _ w =>
 j52_1 R t4 t5 I1 μ1 t3_1 wh1 t0 t6 t7 w) ∧
 (AL (.cells #[.int .i64 0, .int .i64 0, .int .i64 0, .int .i64 0, .int .i64 0, .int .i64 0, .int .i64 0, .bool false, .int .i64 0, .int .i64 0, .int .i64 0, .int .i64 0, .int .i64 0, .int .i64 0, .int .i64 0] 73) w fun t7 w =>
 (O (rdN 15 t45 w) fun t46 =>
 ST Try.prog 73 t6 t37 w fun _ w =>
 ST Try.prog 73 t7 t46 w fun _ w =>
 j52_1 R t4 t5 I1 μ1 t3_1 wh1 t0 t6 t7 w) ∧
 (ST Try.prog 73 t6 t37 w fun _ w =>
 O (rdN 15 t45 w) fun t46 =>
 ST Try.prog 73 t7 t46 w fun _ w =>
 j52_1 R t4 t5 I1 μ1 t3_1 wh1 t0 t6 t7 w))) ∧
 (AL (.cells #[.int .i64 0, .int .i64 0, .int .i64 0, .int .i64 0, .int .i64 0, .int .i64 0, .int .i64 0, .bool false, .int .i64 0, .int .i64 0, .int .i64 0, .int .i64 0, .int .i64 0, .int .i64 0, .int .i64 0] 73) w fun t7 w =>
 (O (rd1 t41 w) fun t42 =>
 O (iS 15 t42 t44) fun t45 =>
 (O (rdN 15 t45 w) fun t46 =>
 ST Try.prog 73 t6 t37 w fun _ w =>
 ST Try.prog 73 t7 t46 w fun _ w =>
 j52_1 R t4 t5 I1 μ1 t3_1 wh1 t0 t6 t7 w) ∧
 (ST Try.prog 73 t6 t37 w fun _ w =>
 O (rdN 15 t45 w) fun t46 =>
 ST Try.prog 73 t7 t46 w fun _ w =>
 j52_1 R t4 t5 I1 μ1 t3_1 wh1 t0 t6 t7 w)) ∧
 (ST Try.prog 73 t6 t37 w fun _ w =>
 O (rd1 t41 w) fun t42 =>
 O (iS 15 t42 t44) fun t45 =>
 O (rdN 15 t45 w) fun t46 =>
 ST Try.prog 73 t7 t46 w fun _ w =>
 j52_1 R t4 t5 I1 μ1 t3_1 wh1 t0 t6 t7 w))) ∧
 (AL (.cells #[.int .i64 0, .int .i64 0, .int .i64 0, .int .i64 0, .int .i64 0, .int .i64 0, .int .i64 0, .bool false, .int .i64 0, .int .i64 0, .int .i64 0, .int .i64 0, .int .i64 0, .int .i64 0, .int .i64 0] 73) w fun t7 w =>
 (O (rd1 t41 w) fun t42 =>
 O (iS 15 t42 t44) fun t45 =>
 (O (rdN 15 t45 w) fun t46 =>
 AL (.cells #[.int .i64 0, .int .i64 0, .int .i64 0, .int .i64 0, .int .i64 0, .int .i64 0, .int .i64 0, .bool false, .int .i64 0, .int .i64 0, .int .i64 0, .int .i64 0, .int .i64 0, .int .i64 0, .int .i64 0] 73) w fun t6 w =>
 ST Try.prog 73 t6 t37 w fun _ w =>
 ST Try.prog 73 t7 t46 w fun _ w =>
 j52_1 R t4 t5 I1 μ1 t3_1 wh1 t0 t6 t7 w) ∧
 (AL (.cells #[.int .i64 0, .int .i64 0, .int .i64 0, .int .i64 0, .int .i64 0, .int .i64 0, .int .i64 0, .bool false, .int .i64 0, .int .i64 0, .int .i64 0, .int .i64 0, .int .i64 0, .int .i64 0, .int .i64 0] 73) w fun t6 w =>
 (O (rdN 15 t45 w) fun t46 =>
 ST Try.prog 73 t6 t37 w fun _ w =>
 ST Try.prog 73 t7 t46 w fun _ w =>
 j52_1 R t4 t5 I1 μ1 t3_1 wh1 t0 t6 t7 w) ∧
 (ST Try.prog 73 t6 t37 w fun _ w =>
 O (rdN 15 t45 w) fun t46 =>
 ST Try.prog 73 t7 t46 w fun _ w =>
 j52_1 R t4 t5 I1 μ1 t3_1 wh1 t0 t6 t7 w))) ∧
 (AL (.cells #[.int .i64 0, .int .i64 0, .int .i64 0, .int .i64 0, .int .i64 0, .int .i64 0, .int .i64 0, .bool false, .int .i64 0, .int .i64 0, .int .i64 0, .int .i64 0, .int .i64 0, .int .i64 0, .int .i64 0] 73) w fun t6 w =>
 (O (rd1 t41 w) fun t42 =>
 O (iS 15 t42 t44) fun t45 =>
 (O (rdN 15 t45 w) fun t46 =>
 ST Try.prog 73 t6 t37 w fun _ w =>
 ST Try.prog 73 t7 t46 w fun _ w =>
 j52_1 R t4 t5 I1 μ1 t3_1 wh1 t0 t6 t7 w) ∧
 (ST Try.prog 73 t6 t37 w fun _ w =>
 O (rdN 15 t45 w) fun t46 =>
 ST Try.prog 73 t7 t46 w fun _ w =>
 j52_1 R t4 t5 I1 μ1 t3_1 wh1 t0 t6 t7 w)) ∧
 (ST Try.prog 73 t6 t37 w fun _ w =>
 O (rd1 t41 w) fun t42 =>
 O (iS 15 t42 t44) fun t45 =>
 O (rdN 15 t45 w) fun t46 =>
 ST Try.prog 73 t7 t46 w fun _ w =>
 j52_1 R t4 t5 I1 μ1 t3_1 wh1 t0 t6 t7 w))))
 (O (bi .add t4 (.int .i64 1)) fun t18 =>
 I0 t3_1 t18 wh1 ∧ μ0 t3_1 t18 wh1 < μ0 t3 t4 wh0))
 (R t3 wh0)
def p52 : Plan := .seq (.leaf) (.seq (.leaf) (.seq (.seq (.leaf) (.block (.loop [3, 4] [0] (.seq (.seq (.leaf) (.cond (.leaf) (.leaf))) (.seq (.block (.seq (.leaf) (.block (.loop [3, 5] [0, 4] (.seq (.seq (.leaf) (.cond (.leaf) (.leaf))) (.join [3] [0, 4, 5] (.block (.join [6, 7] [0, 3, 4, 5] (.tree [0, 1, 3, 7, 15, 0, 32, 127, 255, 0, 512, 1536, 3584, 7680, 0, 16384, 65024, 130560, 0, 0, 786943, 2097151] (.take 0 (.take 1 (.take 2 (.take 3 (.take 4 (.take 5 (.take 6 (.take 7 (.take 8 (.take 9 (.take 10 (.take 11 (.take 12 (.take 14 (.take 15 (.alt 13 (.take 16 (.alt 17 (.alt 18 (.take 19 (.take 20 (.take 21 (.done)))) (.take 19 (.take 18 (.take 20 (.take 21 (.done)))))) (.alt 18 (.alt 17 (.take 19 (.take 20 (.take 21 (.done)))) (.take 19 (.alt 17 (.take 20 (.take 21 (.done))) (.take 20 (.take 17 (.take 21 (.done))))))) (.take 19 (.alt 17 (.take 18 (.take 20 (.take 21 (.done)))) (.take 18 (.alt 17 (.take 20 (.take 21 (.done))) (.take 20 (.take 17 (.take 21 (.done))))))))))) (.alt 18 (.alt 13 (.take 16 (.alt 17 (.take 19 (.take 20 (.take 21 (.done)))) (.take 19 (.alt 17 (.take 20 (.take 21 (.done))) (.take 20 (.take 17 (.take 21 (.done)))))))) (.take 19 (.alt 13 (.take 16 (.alt 17 (.take 20 (.take 21 (.done))) (.take 20 (.take 17 (.take 21 (.done)))))) (.take 20 (.take 13 (.take 16 (.take 17 (.take 21 (.done))))))))) (.take 19 (.alt 13 (.take 16 (.alt 17 (.take 18 (.take 20 (.take 21 (.done)))) (.take 18 (.alt 17 (.take 20 (.take 21 (.done))) (.take 20 (.take 17 (.take 21 (.done)))))))) (.take 18 (.alt 13 (.take 16 (.alt 17 (.take 20 (.take 21 (.done))) (.take 20 (.take 17 (.take 21 (.done)))))) (.take 20 (.take 13 (.take 16 (.take 17 (.take 21 (.done)))))))))))))))))))))))))))) (.seq (.join [105] [0, 3, 4, 5, 6, 7] (.ord [0, 0, 3, 7, 15, 31, 63, 127, 255, 511, 1023, 511, 2559, 8191, 16383, 32767, 65535, 131071, 262143, 524287, 65535, 2097151, 4194303, 8388607, 16777215, 33554431, 67108863, 134217727, 268435455, 536870911, 67108863, 2147483647, 4294967295, 8589934591, 17179869183, 34359738367, 68719476735, 137438953471, 274877906943, 549755813887, 68719476735, 1168231104511, 3367254360063, 7765300871167, 68719476735, 34153579937791, 69337952026623, 140737488355327, 281474976710655, 68719476735, 563018672898047, 1688918579740671, 3940718393425919, 68719476735, 17451517275537407, 35465915785019391, 72057594037927935, 144115188075855871, 288230376151711743]) (.cond (.leaf) (.leaf))) (.join [8] [0, 3, 4, 5] (.ord [0, 1, 3, 7, 15, 31, 63, 127, 255, 511, 1023, 2047, 4095, 511, 16383, 32767, 511, 66047, 197119, 459263, 511, 2032127, 4129279, 8388607, 16777215, 33554431, 67108863, 67108863, 201326591, 67108863, 603979775, 2147483647, 4294967295, 8589934591, 17179869183, 34359738367, 68719476735, 137438953471, 274877906943, 549755813887, 1099511627775, 2199023255551, 4398046511103, 8796093022207, 4398046511103, 21990232555519, 70368744177663, 140737488355327, 281474976710655, 562949953421311]) (.join [173] [0, 3, 4, 5] (.ord [0, 1, 3, 3, 11, 27, 59, 3, 251, 507, 3, 1027, 3075, 7171, 3, 31747, 64515, 131071, 262143]) (.cond (.seq (.ord [0, 1, 3, 7, 0, 16, 48, 112, 0, 496, 1008, 2047, 4095, 0, 8192, 24576, 57344, 0, 253952, 516096, 1048575, 2097151]) (.leaf)) (.leaf))))))) (.leaf))))))) (.leaf)))))) (.seq (.leaf) (.leaf))))
theorem e52 (R : Value → World → Prop) (t0 : Value) (w : World) : cw Try.prog 196 p52 (Try.f52.body.getD .skip) (fnQ Try.prog Try.f52.results.toList R) (argE 0 [t0]) w = c52 R t0 w := by kernel_rfl
theorem b52 : Try.f52.body = some (Try.f52.body.getD .skip) := by kernel_rfl
theorem s52 {R : Value → World → Prop} {t0 : Value} {w : World} (h : c52 R t0 w) : Cl Try.prog 52 [t0] w R :=
  calls_of_cw mixed p52 Try.func52 b52 Try.ntmps52 (by simp) (by rw [e52]; exact h)

end Go.Proofs.Ytedcfkigfcobaaa
end
/- Printed by wip/tools/gen.py: the bodies of functions 26 27 53 28 10 11 3 with named temporaries, tied to the loaded program. -/
section
set_option maxRecDepth 100000
namespace Go.Proofs.Ytedcfkigfcobaaa
open Go Go.Proofs
def j26_0 (R : Value → World → Prop) (t5 : Value) (I1 : Value → World → Prop) (μ1 : Value → World → Nat) (wh1 : World) (w : World) : Prop :=
 O (bi .add t5 (.int .i64 1)) fun t37 =>
 I1 t37 w ∧ μ1 t37 w < μ1 t5 wh1
def j26_1 (R : Value → World → Prop) (t10 : Value) (t1 : Value) (t5 : Value) (I1 : Value → World → Prop) (μ1 : Value → World → Nat) (wh1 : World) (w : World) : Prop :=
 Dr w fun w =>
 O (nC t10) fun t52 =>
 O (fA 4 t52) fun t53 =>
 O (rdN 2 t1 w) fun t55 =>
 (O (rd1 t53 w) fun t54 =>
 Cl Try.prog 49 [t55, t5] w fun t57 w =>
 BS 3 1 1 (.int .i64 0) [(0, t57)] w fun t58 w =>
 AP Try.prog #[39, 39] 39 [t54, t58] w fun t59 w =>
 O (nC t10) fun t60 =>
 O (fA 4 t60) fun t61 =>
 ST Try.prog 39 t61 t59 w fun _ w =>
 j26_0 R t5 I1 μ1 wh1 w) ∧
 (Cl Try.prog 49 [t55, t5] w fun t57 w =>
 O (rd1 t53 w) fun t54 =>
 BS 3 1 1 (.int .i64 0) [(0, t57)] w fun t58 w =>
 AP Try.prog #[39, 39] 39 [t54, t58] w fun t59 w =>
 O (nC t10) fun t60 =>
 O (fA 4 t60) fun t61 =>
 ST Try.prog 39 t61 t59 w fun _ w =>
 j26_0 R t5 I1 μ1 wh1 w)
def c26 (R : Value → World → Prop) (t0 : Value) (w : World) : Prop :=
 AL (.cells (Value.cells t0) 52) w fun t1 w =>
 O (rdN 2 t1 w) fun t6 =>
 BS 3 1 1 (.int .i64 0) [(0, (.int .i64 (-1)))] w fun t7 w =>
 BS 3 1 1 (.int .i64 0) [(0, (.int .i64 (-1)))] w fun t8 w =>
 O ((fillW Try.prog 110 [(0, t6), (2, t7), (3, t8)]).map .agg) fun t9 =>
 AL (.cells (Value.cells t9) 110) w fun t10 w =>
 ∃ (I0 : Value → World → Prop) (μ0 : Value → World → Nat), I0 (.int .i64 0) w ∧ ∀ (t4 : Value) wh0, I0 t4 wh0 →
 O (fA 1 t1) fun t12 =>
 O (rd1 t12 wh0) fun t13 =>
 O (lenS t13) fun t14 =>
 O (bi .lss t4 t14) fun t15 =>
 Bc t15
 (Dr wh0 fun w =>
 O (nC t10) fun t20 =>
 O (fA 2 t20) fun t21 =>
 O (rd1 t21 w) fun t22 =>
 O (fA 1 t1) fun t23 =>
 O (rd1 t23 w) fun t24 =>
 O (lenS t24) fun t25 =>
 MS 4 1 1 (.bool false) t25 t25 w fun t26 w =>
 BS 59 1 1 (.slice none 0 0) [(0, t26)] w fun t27 w =>
 AP Try.prog #[55, 55] 55 [t22, t27] w fun t28 w =>
 O (nC t10) fun t29 =>
 O (fA 2 t29) fun t30 =>
 ST Try.prog 55 t30 t28 w fun _ w =>
 O (bi .add t4 (.int .i64 1)) fun t17 =>
 I0 t17 w ∧ μ0 t17 w < μ0 t4 wh0)
 (∃ (I1 : Value → World → Prop) (μ1 : Value → World → Nat), I1 (.int .i64 1) wh0 ∧ ∀ (t5 : Value) wh1, I1 t5 wh1 →
 O (fA 0 t1) fun t32 =>
 O (rd1 t32 wh1) fun t33 =>
 O (lenS t33) fun t34 =>
 O (bi .leq t5 t34) fun t35 =>
 Bc t35
 (Dr wh1 fun w =>
 O (nC t10) fun t40 =>
 O (fA 3 t40) fun t41 =>
 O (rdN 2 t1 w) fun t43 =>
 (O (rd1 t41 w) fun t42 =>
 Cl Try.prog 13 [t43, t5] w fun t45 w =>
 BS 3 1 1 (.int .i64 0) [(0, t45)] w fun t46 w =>
 AP Try.prog #[39, 39] 39 [t42, t46] w fun t47 w =>
 O (nC t10) fun t48 =>
 O (fA 3 t48) fun t49 =>
 ST Try.prog 39 t49 t47 w fun _ w =>
 j26_1 R t10 t1 t5 I1 μ1 wh1 w) ∧
 (Cl Try.prog 13 [t43, t5] w fun t45 w =>
 O (rd1 t41 w) fun t42 =>
 BS 3 1 1 (.int .i64 0) [(0, t45)] w fun t46 w =>
 AP Try.prog #[39, 39] 39 [t42, t46] w fun t47 w =>
 O (nC t10) fun t48 =>
 O (fA 3 t48) fun t49 =>
 ST Try.prog 39 t49 t47 w fun _ w =>
 j26_1 R t10 t1 t5 I1 μ1 wh1 w))
 (Cl Try.prog 50 [t10] wh1 fun t63 w =>
 Cl Try.prog 51 [t10] w fun t65 w =>
 ∃ (I2 : World → Prop) (μ2 : World → Nat), I2  w ∧ ∀ wh2, I2  wh2 →
 Cl Try.prog 52 [t10] wh2 fun t67 w =>
 Bc t67
 (Cl Try.prog 51 [t10] w fun t69 w =>
 I2  w ∧ μ2  w < μ2  wh2)
 (R t10 w)))
def p26 : Plan := .seq (.leaf) (.seq (.leaf) (.seq (.seq (.leaf) (.block (.loop [4] [1, 3] (.seq (.seq (.leaf) (.cond (.leaf) (.leaf))) (.seq (.block (.ord [0, 0, 2, 6, 14, 0, 32, 96, 224, 480, 1022, 2047, 4095, 8191])) (.leaf)))))) (.seq (.seq (.leaf) (.block (.loop [5] [1, 3] (.seq (.seq (.leaf) (.cond (.leaf) (.leaf))) (.join [] [1, 3, 5] (.block (.join [] [1, 3, 5] (.tree [0, 0, 2, 6, 14, 0, 0, 96, 224, 510, 1023, 2047, 4095] (.take 0 (.take 1 (.take 2 (.take 3 (.take 5 (.take 6 (.alt 4 (.take 7 (.take 8 (.take 9 (.take 10 (.take 11 (.take 12 (.done))))))) (.take 7 (.take 4 (.take 8 (.take 9 (.take 10 (.take 11 (.take 12 (.done)))))))))))))))) (.tree [0, 0, 2, 6, 14, 0, 0, 96, 224, 510, 1023, 2047, 4095] (.take 0 (.take 1 (.take 2 (.take 3 (.take 5 (.take 6 (.alt 4 (.take 7 (.take 8 (.take 9 (.take 10 (.take 11 (.take 12 (.done))))))) (.take 7 (.take 4 (.take 8 (.take 9 (.take 10 (.take 11 (.take 12 (.done)))))))))))))))))) (.leaf)))))) (.seq (.leaf) (.seq (.leaf) (.seq (.block (.loop [] [3] (.seq (.seq (.leaf) (.cond (.leaf) (.leaf))) (.block (.leaf))))) (.seq (.leaf) (.leaf))))))))
theorem e26 (R : Value → World → Prop) (t0 : Value) (w : World) : cw Try.prog 71 p26 (Try.f26.body.getD .skip) (fnQ Try.prog Try.f26.results.toList R) (argE 0 [t0]) w = c26 R t0 w := by kernel_rfl
theorem b26 : Try.f26.body = some (Try.f26.body.getD .skip) := by kernel_rfl
theorem s26 {R : Value → World → Prop} {t0 : Value} {w : World} (h : c26 R t0 w) : Cl Try.prog 26 [t0] w R :=
  calls_of_cw mixed p26 Try.func26 b26 Try.ntmps26 (by simp) (by rw [e26]; exact h)
def c27 (R : Value → World → Prop) (t0 : Value) (t1 : Value) (w : World) : Prop :=
 O (lenS t0) fun t7 =>
 O (lenS t1) fun t9 =>
 O (bi .neq t7 t9) fun t10 =>
 Bc t10
 (R (.bool false) w)
 (∃ (I0 : Value → World → Prop) (μ0 : Value → World → Nat), I0 (.int .i64 0) w ∧ ∀ (t5 : Value) wh0, I0 t5 wh0 →
 O (lenS t0) fun t13 =>
 O (bi .lss t5 t13) fun t14 =>
 Bc t14
 (Dr wh0 fun w =>
 O (iS 2 t0 t5) fun t19 =>
 O (rdN 2 t19 w) fun t20 =>
 O (iS 2 t1 t5) fun t23 =>
 O (rdN 2 t23 w) fun t24 =>
 O (be 2 .neq t20 t24) fun t25 =>
 Bc t25
 (R (.bool false) w)
 (O (bi .add t5 (.int .i64 1)) fun t16 =>
 I0 t16 w ∧ μ0 t16 w < μ0 t5 wh0))
 (R (.bool true) wh0))
def p27 : Plan := .seq (.leaf) (.seq (.seq (.leaf) (.cond (.seq (.leaf) (.leaf)) (.leaf))) (.seq (.seq (.leaf) (.block (.loop [5] [0, 1] (.seq (.seq (.leaf) (.cond (.leaf) (.leaf))) (.seq (.block (.seq (.ord [0, 0, 3, 7, 0, 0, 48, 112, 255]) (.cond (.seq (.leaf) (.leaf)) (.leaf)))) (.leaf)))))) (.seq (.leaf) (.leaf))))
theorem e27 (R : Value → World → Prop) (t0 : Value) (t1 : Value) (w : World) : cw Try.prog 26 p27 (Try.f27.body.getD .skip) (fnQ Try.prog Try.f27.results.toList R) (argE 0 [t0, t1]) w = c27 R t0 t1 w := by kernel_rfl
theorem b27 : Try.f27.body = some (Try.f27.body.getD .skip) := by kernel_rfl
theorem s27 {R : Value → World → Prop} {t0 : Value} {t1 : Value} {w : World} (h : c27 R t0 t1 w) : Cl Try.prog 27 [t0, t1] w R :=
  calls_of_cw mixed p27 Try.func27 b27 Try.ntmps27 (by simp) (by rw [e27]; exact h)
def j53_0 (R : Value → World → Prop) (t7 : Value) (t8 : Value) (w : World) : Prop :=
 O (fA 0 t7) fun t19 =>
 O (rd1 t19 w) fun t20 =>
 O (bi .eql t20 (.int .i64 3)) fun t21 =>
 Bc t21
 (O (fA 0 t8) fun t23 =>
 O (rd1 t23 w) fun t24 =>
 O (bi .eql t24 (.int .i64 3)) fun t25 =>
 Bc t25
 (O (fA 1 t7) fun t28 =>
 O (rd1 t28 w) fun t29 =>
 O (fA 1 t8) fun t30 =>
 O (rd1 t30 w) fun t31 =>
 O (bi .neq t29 t31) fun t32 =>
 Bc t32
 (O (fA 3 t7) fun t35 =>
 O (fA 1 t35) fun t36 =>
 O (rdN 3 t36 w) fun t37 =>
 O (fA 3 t8) fun t38 =>
 O (fA 1 t38) fun t39 =>
 O (rdN 3 t39 w) fun t40 =>
 O (be 3 .eql t37 t40) fun t41 =>
 Bc t41
 (O (fA 3 t7) fun t44 =>
 O (fA 4 t44) fun t45 =>
 O (rd1 t45 w) fun t46 =>
 Bc t46
 (R (.bool true) w)
 (O (fA 3 t8) fun t48 =>
 O (fA 4 t48) fun t49 =>
 O (rd1 t49 w) fun t50 =>
 R t50 w))
 (R (.bool false) w))
 (R (.bool false) w))
 (R (.bool false) w))
 (R (.bool false) w)
def c53 (R : Value → World → Prop) (t0 : Value) (t1 : Value) (t2 : Value) (w : World) : Prop :=
 AL (.cells (Value.cells t0) 52) w fun t3 w =>
 Dr w fun w =>
 O (fA 1 t3) fun t9 =>
 O (rd1 t9 w) fun t10 =>
 O (iS 8 t10 t1) fun t12 =>
 O (rdN 8 t12 w) fun t13 =>
 O (fA 1 t3) fun t14 =>
 (O (rd1 t14 w) fun t15 =>
 O (iS 8 t15 t2) fun t17 =>
 (O (rdN 8 t17 w) fun t18 =>
 (AL (.cells #[.int .i64 0, .int .i64 0, .int .i64 0, .int .i64 0, .int .i64 0, .int .i64 0, .int .i64 0, .bool false] 67) w fun t7 w =>
 AL (.cells #[.int .i64 0, .int .i64 0, .int .i64 0, .int .i64 0, .int .i64 0, .int .i64 0, .int .i64 0, .bool false] 67) w fun t8 w =>
 ST Try.prog 67 t7 t13 w fun _ w =>
 ST Try.prog 67 t8 t18 w fun _ w =>
 j53_0 R t7 t8 w) ∧
 (AL (.cells #[.int .i64 0, .int .i64 0, .int .i64 0, .int .i64 0, .int .i64 0, .int .i64 0, .int .i64 0, .bool false] 67) w fun t8 w =>
 AL (.cells #[.int .i64 0, .int .i64 0, .int .i64 0, .int .i64 0, .int .i64 0, .int .i64 0, .int .i64 0, .bool false] 67) w fun t7 w =>
 ST Try.prog 67 t7 t13 w fun _ w =>
 ST Try.prog 67 t8 t18 w fun _ w =>
 j53_0 R t7 t8 w)) ∧
 (AL (.cells #[.int .i64 0, .int .i64 0, .int .i64 0, .int .i64 0, .int .i64 0, .int .i64 0, .int .i64 0, .bool false] 67) w fun t7 w =>
 (O (rdN 8 t17 w) fun t18 =>
 AL (.cells #[.int .i64 0, .int .i64 0, .int .i64 0, .int .i64 0, .int .i64 0, .int .i64 0, .int .i64 0, .bool false] 67) w fun t8 w =>
 ST Try.prog 67 t7 t13 w fun _ w =>
 ST Try.prog 67 t8 t18 w fun _ w =>
 j53_0 R t7 t8 w) ∧
 (AL (.cells #[.int .i64 0, .int .i64 0, .int .i64 0, .int .i64 0, .int .i64 0, .int .i64 0, .int .i64 0, .bool false] 67) w fun t8 w =>
 (O (rdN 8 t17 w) fun t18 =>
 ST Try.prog 67 t7 t13 w fun _ w =>
 ST Try.prog 67 t8 t18 w fun _ w =>
 j53_0 R t7 t8 w) ∧
 (ST Try.prog 67 t7 t13 w fun _ w =>
 O (rdN 8 t17 w) fun t18 =>
 ST Try.prog 67 t8 t18 w fun _ w =>
 j53_0 R t7 t8 w))) ∧
 (AL (.cells #[.int .i64 0, .int .i64 0, .int .i64 0, .int .i64 0, .int .i64 0, .int .i64 0, .int .i64 0, .bool false] 67) w fun t8 w =>
 (O (rdN 8 t17 w) fun t18 =>
 AL (.cells #[.int .i64 0, .int .i64 0, .int .i64 0, .int .i64 0, .int .i64 0, .int .i64 0, .int .i64 0, .bool false] 67) w fun t7 w =>
 ST Try.prog 67 t7 t13 w fun _ w =>
 ST Try.prog 67 t8 t18 w fun _ w =>
 j53_0 R t7 t8 w) ∧
 (AL (.cells #[.int .i64 0, .int .i64 0, .int .i64 0, .int .i64 0, .int .i64 0, .int .i64 0, .int .i64 0, .bool false] 67) w fun t7 w =>
 (O (rdN 8 t17 w) fun t18 =>
 ST Try.prog 67 t7 t13 w fun _ w =>
 ST Try.prog 67 t8 t18 w fun _ w =>
 j53_0 R t7 t8 w) ∧
 (ST Try.prog 67 t7 t13 w fun _ w =>
 O (rdN 8 t17 w) fun t18 =>
 ST Try.prog 67 t8 t18 w fun _ w =>
 j53_0 R t7 t8 w)))) ∧
 (AL (.cells #[.int .i64 0, .int .i64 0, .int .i64 0, .int .i64 0, .int .i64 0, .int .i64 0, .int .i64 0, .bool false] 67) w fun t7 w =>
 (O (rd1 t14 w) fun t15 =>
 O (iS 8 t15 t2) fun t17 =>
 (O (rdN 8 t17 w) fun t18 =>
 AL (.cells #[.int .i64 0, .int .i64 0, .int .i64 0, .int .i64 0, .int .i64 0, .int .i64 0, .int .i64 0, .bool false] 67) w fun t8 w =>
 ST Try.prog 67 t7 t13 w fun _ w =>
 ST Try.prog 67 t8 t18 w fun _ w =>
 j53_0 R t7 t8 w) ∧
 (AL (.cells #[.int .i64 0, .int .i64 0, .int .i64 0, .int .i64 0, .int .i64 0, .int .i64 0, .int .i64 0, .bool false] 67) w fun t8 w =>
 (O (rdN 8 t17 w) fun t18 =>
 ST Try.prog 67 t7 t13 w fun _ w =>
 ST Try.prog 67 t8 t18 w fun _ w =>
 j53_0 R t7 t8 w) ∧
 (ST Try.prog 67 t7 t13 w fun _ w =>
 O (rdN 8 t17 w) fun t18 =>
 ST Try.prog 67 t8 t18 w fun _ w =>
 j53_0 R t7 t8 w))) ∧
 (AL (.cells #[.int .i64 0, .int .i64 0, .int .i64 0, .int .i64 0, .int .i64 0, .int .i64 0, .int .i64 0, .bool false] 67) w fun t8 w =>
 (O (rd1 t14 w) fun t15 =>
 O (iS 8 t15 t2) fun t17 =>
 (O (rdN 8 t17 w) fun t18 =>
 ST Try.prog 67 t7 t13 w fun _ w =>
 ST Try.prog 67 t8 t18 w fun _ w =>
 j53_0 R t7 t8 w) ∧
 (ST Try.prog 67 t7 t13 w fun _ w =>
 O (rdN 8 t17 w) fun t18 =>
 ST Try.prog 67 t8 t18 w fun _ w =>
 j53_0 R t7 t8 w)) ∧
 (ST Try.prog 67 t7 t13 w fun _ w =>
 O (rd1 t14 w) fun t15 =>
 O (iS 8 t15 t2) fun t17 =>
 O (rdN 8 t17 w) fun t18 =>
 ST Try.prog 67 t8 t18 w fun _ w =>
 j53_0 R t7 t8 w))) ∧
 (AL (.cells #[.int .i64 0, .int .i64 0, .int .i64 0, .int .i64 0, .int .i64 0, .int .i64 0, .int .i64 0, .bool false] 67) w fun t8 w =>
 (O (rd1 t14 w) fun t15 =>
 O (iS 8 t15 t2) fun t17 =>
 (O (rdN 8 t17 w) fun t18 =>
 AL (.cells #[.int .i64 0, .int .i64 0, .int .i64 0, .int .i64 0, .int .i64 0, .int .i64 0, .int .i64 0, .bool false] 67) w fun t7 w =>
 ST Try.prog 67 t7 t13 w fun _ w =>
 ST Try.prog 67 t8 t18 w fun _ w =>
 j53_0 R t7 t8 w) ∧
 (AL (.cells #[.int .i64 0, .int .i64 0, .int .i64 0, .int .i64 0, .int .i64 0, .int .i64 0, .int .i64 0, .bool false] 67) w fun t7 w =>
 (O (rdN 8 t17 w) fun t18 =>
 ST Try.prog 67 t7 t13 w fun _ w =>
 ST Try.prog 67 t8 t18 w fun _ w =>
 j53_0 R t7 t8 w) ∧
 (ST Try.prog 67 t7 t13 w fun _ w =>
 O (rdN 8 t17 w) fun t18 =>
 ST Try.prog 67 t8 t18 w fun _ w =>
 j53_0 R t7 t8 w))) ∧
 (AL (.cells #[.int .i64 0, .int .i64 0, .int .i64 0, .int .i64 0, .int .i64 0, .int .i64 0, .int .i64 0, .bool false] 67) w fun t7 w =>
 (O (rd1 t14 w) fun t15 =>
 O (iS 8 t15 t2) fun t17 =>
 (O (rdN 8 t17 w) fun t18 =>
 ST Try.prog 67 t7 t13 w fun _ w =>
 ST Try.prog 67 t8 t18 w fun _ w =>
 j53_0 R t7 t8 w) ∧
 (ST Try.prog 67 t7 t13 w fun _ w =>
 O (rdN 8 t17 w) fun t18 =>
 ST Try.prog 67 t8 t18 w fun _ w =>
 j53_0 R t7 t8 w)) ∧
 (ST Try.prog 67 t7 t13 w fun _ w =>
 O (rd1 t14 w) fun t15 =>
 O (iS 8 t15 t2) fun t17 =>
 O (rdN 8 t17 w) fun t18 =>
 ST Try.prog 67 t8 t18 w fun _ w =>
 j53_0 R t7 t8 w)))
def p53 : Plan := .seq (.leaf) (.join [7, 8] [] (.tree [0, 1, 0, 7, 15, 0, 32, 0, 224, 480, 0, 0, 3103, 8191] (.take 0 (.take 1 (.take 2 (.take 3 (.take 4 (.take 5 (.take 7 (.alt 6 (.take 8 (.alt 9 (.alt 10 (.take 11 (.take 12 (.take 13 (.done)))) (.take 11 (.take 10 (.take 12 (.take 13 (.done)))))) (.alt 10 (.alt 9 (.take 11 (.take 12 (.take 13 (.done)))) (.take 11 (.alt 9 (.take 12 (.take 13 (.done))) (.take 12 (.take 9 (.take 13 (.done))))))) (.take 11 (.alt 9 (.take 10 (.take 12 (.take 13 (.done)))) (.take 10 (.alt 9 (.take 12 (.take 13 (.done))) (.take 12 (.take 9 (.take 13 (.done))))))))))) (.alt 10 (.alt 6 (.take 8 (.alt 9 (.take 11 (.take 12 (.take 13 (.done)))) (.take 11 (.alt 9 (.take 12 (.take 13 (.done))) (.take 12 (.take 9 (.take 13 (.done)))))))) (.take 11 (.alt 6 (.take 8 (.alt 9 (.take 12 (.take 13 (.done))) (.take 12 (.take 9 (.take 13 (.done)))))) (.take 12 (.take 6 (.take 8 (.take 9 (.take 13 (.done))))))))) (.take 11 (.alt 6 (.take 8 (.alt 9 (.take 10 (.take 12 (.take 13 (.done)))) (.take 10 (.alt 9 (.take 12 (.take 13 (.done))) (.take 12 (.take 9 (.take 13 (.done)))))))) (.take 10 (.alt 6 (.take 8 (.alt 9 (.take 12 (.take 13 (.done))) (.take 12 (.take 9 (.take 13 (.done)))))) (.take 12 (.take 6 (.take 8 (.take 9 (.take 13 (.done)))))))))))))))))))) (.seq (.leaf) (.leaf)))
theorem e53 (R : Value → World → Prop) (t0 : Value) (t1 : Value) (t2 : Value) (w : World) : cw Try.prog 53 p53 (Try.f53.body.getD .skip) (fnQ Try.prog Try.f53.results.toList R) (argE 0 [t0, t1, t2]) w = c53 R t0 t1 t2 w := by kernel_rfl
theorem b53 : Try.f53.body = some (Try.f53.body.getD .skip) := by kernel_rfl
theorem s53 {R : Value → World → Prop} {t0 : Value} {t1 : Value} {t2 : Value} {w : World} (h : c53 R t0 t1 t2 w) : Cl Try.prog 53 [t0, t1, t2] w R :=
  calls_of_cw mixed p53 Try.func53 b53 Try.ntmps53 (by simp) (by rw [e53]; exact h)
def j28_0 (R : Value → World → Prop) (t5 : Value) (I1 : Value → Value → World → Prop) (μ1 : Value → Value → World → Nat) (t3_1 : Value) (wh1 : World) (t3_2 : Value) (w : World) : Prop :=
 O (bi .add t5 (.int .i64 1)) fun t19 =>
 I1 t3_2 t19 w ∧ μ1 t3_2 t19 w < μ1 t3_1 t5 wh1
def j28_1 (R : Value → World → Prop) (t5 : Value) (t4 : Value) (t3_1 : Value) (I1 : Value → Value → World → Prop) (μ1 : Value → Value → World → Nat) (wh1 : World) (t52 : Value) (w : World) : Prop :=
 Bc t52
 (O ((fillW Try.prog 89 [(0, t5), (1, t4)]).map .agg) fun t56 =>
 BS 89 2 1 (.agg #[.int .i64 0, .int .i64 0]) [(0, t56)] w fun t57 w =>
 AP Try.prog #[84, 84] 84 [t3_1, t57] w fun t58 w =>
 j28_0 R t5 I1 μ1 t3_1 wh1 t58 w)
 (j28_0 R t5 I1 μ1 t3_1 wh1 t3_1 w)
def c28 (R : Value → World → Prop) (t0 : Value) (w : World) : Prop :=
 ∃ (I0 : Value → Value → World → Prop) (μ0 : Value → Value → World → Nat), I0 (.slice none 0 0) (.int .i64 0) w ∧ ∀ (t3 : Value) (t4 : Value) wh0, I0 t3 t4 wh0 →
 O (nC t0) fun t8 =>
 O (fA 2 t8) fun t9 =>
 O (rd1 t9 wh0) fun t10 =>
 O (lenS t10) fun t11 =>
 O (bi .lss t4 t11) fun t12 =>
 Bc t12
 (∃ (I1 : Value → Value → World → Prop) (μ1 : Value → Value → World → Nat), I1 t3 (.int .i64 0) wh0 ∧ ∀ (t3_1 : Value) (t5 : Value) wh1, I1 t3_1 t5 wh1 →
 O (bi .lss t5 t4) fun t17 =>
 Bc t17
 (O (nC t0) fun t21 =>
 O (fA 0 t21) fun t22 =>
 O (rdN 2 t22 wh1) fun t23 =>
 Cl Try.prog 53 [t23, t5, t4] wh1 fun t26 w =>
 Bc t26
 (O (nC t0) fun t29 =>
 O (fA 2 t29) fun t30 =>
 O (rd1 t30 w) fun t31 =>
 O (iS 1 t31 t5) fun t33 =>
 O (rd1 t33 w) fun t34 =>
 O (iS 1 t34 t4) fun t36 =>
 O (rd1 t36 w) fun t37 =>
 O (un .not t37) fun t38 =>
 Bc t38
 (O (nC t0) fun t42 =>
 O (fA 2 t42) fun t43 =>
 O (rd1 t43 w) fun t44 =>
 O (iS 1 t44 t4) fun t46 =>
 O (rd1 t46 w) fun t47 =>
 O (iS 1 t47 t5) fun t49 =>
 O (rd1 t49 w) fun t50 =>
 O (un .not t50) fun t51 =>
 j28_1 R t5 t4 t3_1 I1 μ1 wh1 t51 w)
 (j28_1 R t5 t4 t3_1 I1 μ1 wh1 (.bool false) w))
 (j28_1 R t5 t4 t3_1 I1 μ1 wh1 (.bool false) w))
 (O (bi .add t4 (.int .i64 1)) fun t14 =>
 I0 t3_1 t14 wh1 ∧ μ0 t3_1 t14 wh1 < μ0 t3 t4 wh0))
 (R t3 wh0)
def p28 : Plan := .seq (.leaf) (.seq (.leaf) (.seq (.seq (.leaf) (.block (.loop [3, 4] [0] (.seq (.seq (.leaf) (.cond (.leaf) (.leaf))) (.seq (.block (.seq (.leaf) (.block (.loop [3, 5] [0, 4] (.seq (.seq (.leaf) (.cond (.leaf) (.leaf))) (.join [3] [0, 4, 5] (.block (.join [52] [0, 3, 4, 5] (.leaf) (.cond (.leaf) (.leaf)))) (.leaf))))))) (.leaf)))))) (.seq (.leaf) (.leaf))))
theorem e28 (R : Value → World → Prop) (t0 : Value) (w : World) : cw Try.prog 60 p28 (Try.f28.body.getD .skip) (fnQ Try.prog Try.f28.results.toList R) (argE 0 [t0]) w = c28 R t0 w := by kernel_rfl
theorem b28 : Try.f28.body = some (Try.f28.body.getD .skip) := by kernel_rfl
theorem s28 {R : Value → World → Prop} {t0 : Value} {w : World} (h : c28 R t0 w) : Cl Try.prog 28 [t0] w R :=
  calls_of_cw mixed p28 Try.func28 b28 Try.ntmps28 (by simp) (by rw [e28]; exact h)
def j10_1 (R : Value → World → Prop) (t9 : Value) (I1 : Value → World → Prop) (μ1 : Value → World → Nat) (wh1 : World) (t98 : Value) (w : World) : Prop :=
 Bc t98
 (R (.bool false) w)
 (O (bi .add t9 (.int .i64 1)) fun t66 =>
 I1 t66 w ∧ μ1 t66 w < μ1 t9 wh1)
def j10_0 (R : Value → World → Prop) (t15 : Value) (t1 : Value) (t11 : Value) (t42 : Value) (w : World) : Prop :=
 Bc t42
 (R (.bool false) w)
 (∃ (I0 : Value → World → Prop) (μ0 : Value → World → Nat), I0 (.int .i64 0) w ∧ ∀ (t8 : Value) wh0, I0 t8 wh0 →
 O (lenS t15) fun t45 =>
 O (bi .lss t8 t45) fun t46 =>
 Bc t46
 (Dr wh0 fun w =>
 O (iS 1 t15 t8) fun t51 =>
 O (rd1 t51 w) fun t52 =>
 O (lenS t52) fun t53 =>
 O (fA 1 t1) fun t54 =>
 O (rd1 t54 w) fun t55 =>
 O (lenS t55) fun t56 =>
 O (bi .neq t53 t56) fun t57 =>
 Bc t57
 (R (.bool false) w)
 (∃ (I1 : Value → World → Prop) (μ1 : Value → World → Nat), I1 (.int .i64 0) w ∧ ∀ (t9 : Value) wh1, I1 t9 wh1 →
 O (iS 1 t15 t8) fun t61 =>
 O (rd1 t61 wh1) fun t62 =>
 O (lenS t62) fun t63 =>
 O (bi .lss t9 t63) fun t64 =>
 Bc t64
 (Dr wh1 fun w =>
 O (iS 1 t15 t8) fun t69 =>
 O (rd1 t69 w) fun t70 =>
 O (iS 1 t70 t9) fun t72 =>
 O (rd1 t72 w) fun t73 =>
 O (nC t11) fun t75 =>
 O (fA 2 t75) fun t76 =>
 O (rd1 t76 w) fun t77 =>
 O (iS 1 t77 t8) fun t79 =>
 O (rd1 t79 w) fun t80 =>
 O (iS 1 t80 t9) fun t82 =>
 O (rd1 t82 w) fun t83 =>
 O (bb .neq t73 t83) fun t84 =>
 Bc t84
 (j10_1 R t9 I1 μ1 wh1 (.bool true) w)
 (O (iS 1 t15 t8) fun t88 =>
 O (rd1 t88 w) fun t89 =>
 O (iS 1 t89 t9) fun t91 =>
 O (rd1 t91 w) fun t92 =>
 Bc t92
 (O (bi .geq t8 t9) fun t96 =>
 j10_1 R t9 I1 μ1 wh1 t96 w)
 (j10_1 R t9 I1 μ1 wh1 (.bool false) w)))
 (O (bi .add t8 (.int .i64 1)) fun t48 =>
 I0 t48 wh1 ∧ μ0 t48 wh1 < μ0 t8 wh0)))
 (R (.bool true) wh0))
def c10 (R : Value → World → Prop) (t0 : Value) (w : World) : Prop :=
 AL (.cells (Value.cells t0) 52) w fun t1 w =>
 O (rdN 2 t1 w) fun t10 =>
 Cl Try.prog 26 [t10] w fun t11 w =>
 O (rdN 2 t1 w) fun t13 =>
 Cl Try.prog 12 [t13] w fun t14 w =>
 O (exv t14 0) fun t15 =>
 O (exv t14 1) fun t16 =>
 O (rdN 2 t1 w) fun t18 =>
 Cl Try.prog 17 [t18] w fun t19 w =>
 O (exv t19 0) fun t20 =>
 O (exv t19 1) fun t21 =>
 O (bi .neq t16 (.int .i64 0)) fun t23 =>
 Bc t23
 (j10_0 R t15 t1 t11 (.bool true) w)
 (O (bi .neq t21 (.int .i64 0)) fun t26 =>
 Bc t26
 (j10_0 R t15 t1 t11 (.bool true) w)
 (O (lenS t15) fun t30 =>
 O (fA 1 t1) fun t31 =>
 O (rd1 t31 w) fun t32 =>
 O (lenS t32) fun t33 =>
 O (bi .neq t30 t33) fun t34 =>
 Bc t34
 (j10_0 R t15 t1 t11 (.bool true) w)
 (Cl Try.prog 28 [t11] w fun t39 w =>
 Cl Try.prog 27 [t20, t39] w fun t40 w =>
 O (un .not t40) fun t41 =>
 j10_0 R t15 t1 t11 t41 w)))
def p10 : Plan := .seq (.leaf) (.seq (.leaf) (.seq (.leaf) (.seq (.leaf) (.seq (.join [42] [1, 3, 4] (.leaf) (.cond (.seq (.leaf) (.leaf)) (.leaf))) (.seq (.seq (.leaf) (.block (.loop [8] [1, 3, 4] (.seq (.seq (.leaf) (.cond (.leaf) (.leaf))) (.seq (.block (.seq (.seq (.ord [0, 0, 3, 7, 15, 0, 32, 96, 255]) (.cond (.seq (.leaf) (.leaf)) (.leaf))) (.seq (.leaf) (.block (.loop [9] [1, 3, 4, 8] (.seq (.seq (.leaf) (.cond (.leaf) (.leaf))) (.seq (.block (.join [98] [1, 3, 4, 8, 9] (.ord [0, 0, 3, 7, 0, 31, 63, 0, 128, 384, 896, 0, 3968, 8064, 0, 32640, 65408, 131071, 262143, 524287, 524287, 2097151, 4194303, 524287, 16777215, 33554431, 67108863, 134217727, 134217727, 536870911, 1073741823, 2147483647]) (.cond (.seq (.leaf) (.leaf)) (.leaf)))) (.leaf)))))))) (.leaf)))))) (.seq (.leaf) (.leaf)))))))
theorem e10 (R : Value → World → Prop) (t0 : Value) (w : World) : cw Try.prog 99 p10 (Try.f10.body.getD .skip) (fnQ Try.prog Try.f10.results.toList R) (argE 0 [t0]) w = c10 R t0 w := by kernel_rfl
theorem b10 : Try.f10.body = some (Try.f10.body.getD .skip) := by kernel_rfl
theorem s10 {R : Value → World → Prop} {t0 : Value} {w : World} (h : c10 R t0 w) : Cl Try.prog 10 [t0] w R :=
  calls_of_cw mixed p10 Try.func10 b10 Try.ntmps10 (by simp) (by rw [e10]; exact h)
def c11 (R : Value → World → Prop) (t0 : Value) (w : World) : Prop :=
 AL (.cells #[.slice none 0 0, .slice none 0 0] 52) w fun t2 w =>
 Dr w fun w =>
 O (nC t0) fun t4 =>
 O (fA 12 t4) fun t5 =>
 O (rd1 t5 w) fun t6 =>
 O (nC t0) fun t8 =>
 O (fA 16 t8) fun t9 =>
 O (rd1 t9 w) fun t10 =>
 O ((fillW Try.prog 52 [(0, t6), (1, t10)]).map .agg) fun t11 =>
 ST Try.prog 52 t2 t11 w fun _ w =>
 O (rdN 2 t2 w) fun r0 =>
 R r0 w
def p11 : Plan := .seq (.leaf) (.seq (.ord [0, 1, 3, 7, 0, 16, 48, 112, 255, 511]) (.leaf))
theorem e11 (R : Value → World → Prop) (t0 : Value) (w : World) : cw Try.prog 12 p11 (Try.f11.body.getD .skip) (fnQ Try.prog Try.f11.results.toList R) (argE 0 [t0]) w = c11 R t0 w := by kernel_rfl
theorem b11 : Try.f11.body = some (Try.f11.body.getD .skip) := by kernel_rfl
theorem s11 {R : Value → World → Prop} {t0 : Value} {w : World} (h : c11 R t0 w) : Cl Try.prog 11 [t0] w R :=
  calls_of_cw mixed p11 Try.func11 b11 Try.ntmps11 (by simp) (by rw [e11]; exact h)
def j3_1 (R : Value → World → Prop) (t1 : Value) (t6 : Value) (t21 : Value) (I0 : Value → World → Prop) (μ0 : Value → World → Nat) (wh0 : World) (t33 : Value) (w : World) : Prop :=
 Bc t33
 (O (iS 3 t1 t6) fun t39 =>
 O (rdN 3 t39 w) fun t40 =>
 Cl Try.prog 9 [t21, t40] w fun t41 w =>
 O (bi .add t6 (.int .i64 1)) fun t35 =>
 I0 t35 w ∧ μ0 t35 w < μ0 t6 wh0)
 (Cl Try.prog 11 [t21] w fun t43 w =>
 Cl Try.prog 10 [t43] w fun t44 w =>
 Bc t44
 (Cl Try.prog 7 [] w fun t46 w =>
 R t46 w)
 (R (.bool false) w))
def j3_0 (R : Value → World → Prop) (t2 : Value) (t1 : Value) (t18 : Value) (w : World) : Prop :=
 Bc t18
 (Cl Try.prog 7 [] w fun t19 w =>
 R t19 w)
 (O (rdN 8 t2 w) fun t20 =>
 Cl Try.prog 8 [t20] w fun t21 w =>
 ∃ (I0 : Value → World → Prop) (μ0 : Value → World → Nat), I0 (.int .i64 0) w ∧ ∀ (t6 : Value) wh0, I0 t6 wh0 →
 O (lenS t1) fun t24 =>
 O (bi .lss t6 t24) fun t25 =>
 Bc t25
 (O (nC t21) fun t28 =>
 O (fA 16 t28) fun t29 =>
 O (rd1 t29 wh0) fun t30 =>
 O (lenS t30) fun t31 =>
 O (bi .lss t31 (.int .i64 155)) fun t32 =>
 j3_1 R t1 t6 t21 I0 μ0 wh0 t32 wh0)
 (j3_1 R t1 t6 t21 I0 μ0 wh0 (.bool false) wh0))
def c3 (R : Value → World → Prop) (t0 : Value) (t1 : Value) (w : World) : Prop :=
 AL (.cells (Value.cells t0) 30) w fun t2 w =>
 O (rdN 8 t2 w) fun t7 =>
 Cl Try.prog 5 [t7] w fun t8 w =>
 Bc t8
 (j3_0 R t2 t1 (.bool true) w)
 (O (rdN 8 t2 w) fun t10 =>
 Cl Try.prog 6 [t10] w fun t11 w =>
 O (un .not t11) fun t12 =>
 Bc t12
 (j3_0 R t2 t1 (.bool true) w)
 (O (lenS t1) fun t16 =>
 O (bi .gtr t16 (.int .i64 120)) fun t17 =>
 j3_0 R t2 t1 t17 w))
def p3 : Plan := .seq (.leaf) (.seq (.join [18] [1, 2] (.leaf) (.cond (.seq (.leaf) (.leaf)) (.leaf))) (.seq (.leaf) (.seq (.seq (.leaf) (.block (.loop [6] [1, 5] (.seq (.join [33] [1, 5, 6] (.leaf) (.cond (.leaf) (.leaf))) (.seq (.block (.leaf)) (.leaf)))))) (.seq (.leaf) (.leaf)))))
theorem e3 (R : Value → World → Prop) (t0 : Value) (t1 : Value) (w : World) : cw Try.prog 48 p3 (Try.f3.body.getD .skip) (fnQ Try.prog Try.f3.results.toList R) (argE 0 [t0, t1]) w = c3 R t0 t1 w := by kernel_rfl
theorem b3 : Try.f3.body = some (Try.f3.body.getD .skip) := by kernel_rfl
theorem s3 {R : Value → World → Prop} {t0 : Value} {t1 : Value} {w : World} (h : c3 R t0 t1 w) : Cl Try.prog 3 [t0, t1] w R :=
  calls_of_cw mixed p3 Try.func3 b3 Try.ntmps3 (by simp) (by rw [e3]; exact h)

end Go.Proofs.Ytedcfkigfcobaaa
end
