/-
  A part of the proof that the statement on the tasks of a machine returns true for every input: no condition is asked beyond those of the theorems below.
-/
import Derived.Test.YtedcfkigfcobaaaB2
set_option linter.unusedVariables false
set_option linter.unusedSimpArgs false
set_option linter.unusedSectionVars false
/- Printed by wip/tools/gen.py: the bodies of functions 54 29 63 62 55 56 30 with named temporaries, tied to the loaded program. -/
section
set_option maxRecDepth 100000
namespace Go.Proofs.Ytedcfkigfcobaaa
open Go Go.Proofs
def j54_2 (R : Value → World → Prop) (t70 : Value) (I2 : Value → World → Prop) (μ2 : Value → World → Nat) (wh2 : World) (t107 : Value) (w : World) : Prop :=
 Bc t107
 (R (.bool false) w)
 (O (bi .add t70 (.int .i64 1)) fun t108 =>
 I2 t108 w ∧ μ2 t108 w < μ2 t70 wh2)
def j54_1 (R : Value → World → Prop) (t1 : Value) (t3 : Value) (w : World) : Prop :=
 O (nC t3) fun t33 =>
 O (fA 2 t33) fun t34 =>
 O (rd1 t34 w) fun t35 =>
 O (lenS t35) fun t36 =>
 ∃ (I0 : Value → World → Prop) (μ0 : Value → World → Nat), I0 (.int .i64 0) w ∧ ∀ (t37 : Value) wh0, I0 t37 wh0 →
 O (bi .lss t37 t36) fun t38 =>
 Bc t38
 (Dr wh0 fun w =>
 O (nC t3) fun t41 =>
 O (fA 2 t41) fun t42 =>
 O (rd1 t42 w) fun t43 =>
 O (nC t3) fun t46 =>
 O (fA 3 t46) fun t47 =>
 O (rd1 t47 w) fun t48 =>
 O (iS 1 t43 t37) fun t50 =>
 ST Try.prog 3 t50 (.int .i64 (-1)) w fun _ w =>
 O (iS 1 t48 t37) fun t51 =>
 ST Try.prog 3 t51 (.int .i64 (-1)) w fun _ w =>
 O (bi .add t37 (.int .i64 1)) fun t52 =>
 I0 t52 w ∧ μ0 t52 w < μ0 t37 wh0)
 (O (fA 1 t1) fun t53 =>
 O (rd1 t53 wh0) fun t54 =>
 O (lenS t54) fun t55 =>
 ∃ (I1 : Value → World → Prop) (μ1 : Value → World → Nat), I1 (.int .i64 0) wh0 ∧ ∀ (t56 : Value) wh1, I1 t56 wh1 →
 O (bi .lss t56 t55) fun t57 =>
 Bc t57
 (O (iS 8 t54 t56) fun t59 =>
 O (rdN 8 t59 wh1) fun t60 =>
 AL (.cells #[.int .i64 0, .int .i64 0, .int .i64 0, .int .i64 0, .int .i64 0, .int .i64 0, .int .i64 0, .bool false] 67) wh1 fun t6 w =>
 ST Try.prog 67 t6 t60 w fun _ w =>
 O (rdN 8 t6 w) fun t63 =>
 Cl Try.prog 77 [t3, t56, t63] w fun t64 w =>
 O (un .not t64) fun t65 =>
 Bc t65
 (R (.bool false) w)
 (O (bi .add t56 (.int .i64 1)) fun t66 =>
 I1 t66 w ∧ μ1 t66 w < μ1 t56 wh1))
 (O (fA 0 t1) fun t67 =>
 O (rd1 t67 wh1) fun t68 =>
 O (lenS t68) fun t69 =>
 ∃ (I2 : Value → World → Prop) (μ2 : Value → World → Nat), I2 (.int .i64 0) wh1 ∧ ∀ (t70 : Value) wh2, I2 t70 wh2 →
 O (bi .lss t70 t69) fun t71 =>
 Bc t71
 (O (iS 15 t68 t70) fun t73 =>
 O (rdN 15 t73 wh2) fun t74 =>
 AL (.cells #[.int .i64 0, .int .i64 0, .int .i64 0, .int .i64 0, .int .i64 0, .int .i64 0, .int .i64 0, .bool false, .int .i64 0, .int .i64 0, .int .i64 0, .int .i64 0, .int .i64 0, .int .i64 0, .int .i64 0] 73) wh2 fun t8 w =>
 ST Try.prog 73 t8 t74 w fun _ w =>
 O (fA 0 t8) fun t75 =>
 O (rd1 t75 w) fun t76 =>
 O (bi .lss t76 (.int .i64 1)) fun t77 =>
 Bc t77
 (j54_2 R t70 I2 μ2 wh2 (.bool true) w)
 (O (fA 0 t8) fun t79 =>
 O (rd1 t79 w) fun t80 =>
 O (bi .gtr t80 (.int .i64 5)) fun t81 =>
 Bc t81
 (j54_2 R t70 I2 μ2 wh2 (.bool true) w)
 (O (fA 0 t8) fun t84 =>
 O (rd1 t84 w) fun t85 =>
 O (bi .eql t85 (.int .i64 5)) fun t86 =>
 O (fA 4 t8) fun t87 =>
 O (rd1 t87 w) fun t88 =>
 O (bi .lss t88 (.int .i64 0)) fun t89 =>
 O (bb .neq t86 t89) fun t90 =>
 Bc t90
 (j54_2 R t70 I2 μ2 wh2 (.bool true) w)
 (O (bi .add t70 (.int .i64 1)) fun t95 =>
 O (rdN 15 t8 w) fun t96 =>
 Cl Try.prog 78 [t3, t95, t96] w fun t97 w =>
 O (un .not t97) fun t98 =>
 Bc t98
 (j54_2 R t70 I2 μ2 wh2 (.bool true) w)
 (O (bi .add t70 (.int .i64 1)) fun t103 =>
 O (rdN 15 t8 w) fun t104 =>
 Cl Try.prog 79 [t3, t103, t104] w fun t105 w =>
 O (un .not t105) fun t106 =>
 j54_2 R t70 I2 μ2 wh2 t106 w)))))
 (Cl Try.prog 80 [t3] wh2 fun t110 w =>
 R t110 w)))
def j54_0 (R : Value → World → Prop) (t1 : Value) (t18 : Value) (w : World) : Prop :=
 Bc t18
 (R (.bool false) w)
 (Dr w fun w =>
 O (rdN 2 t1 w) fun t19 =>
 O (fA 0 t1) fun t20 =>
 O (rd1 t20 w) fun t21 =>
 O (lenS t21) fun t22 =>
 O (bi .add t22 (.int .i64 1)) fun t23 =>
 O (fA 0 t1) fun t25 =>
 O (rd1 t25 w) fun t26 =>
 O (lenS t26) fun t27 =>
 O (bi .add t27 (.int .i64 1)) fun t28 =>
 (MS 3 1 8 (.int .i64 0) t23 t23 w fun t24 w =>
 MS 3 1 8 (.int .i64 0) t28 t28 w fun t29 w =>
 O ((fillW Try.prog 169 [(0, t19), (1, t24), (2, t29)]).map .agg) fun t30 =>
 AL (.cells (Value.cells t30) 169) w fun t31 w =>
 j54_1 R t1 t31 w) ∧
 (MS 3 1 8 (.int .i64 0) t28 t28 w fun t29 w =>
 MS 3 1 8 (.int .i64 0) t23 t23 w fun t24 w =>
 O ((fillW Try.prog 169 [(0, t19), (1, t24), (2, t29)]).map .agg) fun t30 =>
 AL (.cells (Value.cells t30) 169) w fun t31 w =>
 j54_1 R t1 t31 w))
def c54 (R : Value → World → Prop) (t0 : Value) (w : World) : Prop :=
 AL (.cells (Value.cells t0) 52) w fun t1 w =>
 O (fA 0 t1) fun t9 =>
 O (rd1 t9 w) fun t10 =>
 O (lenS t10) fun t11 =>
 O (bi .gtr t11 (.int .i64 256)) fun t12 =>
 Bc t12
 (j54_0 R t1 (.bool true) w)
 (O (fA 1 t1) fun t14 =>
 O (rd1 t14 w) fun t15 =>
 O (lenS t15) fun t16 =>
 O (bi .gtr t16 (.int .i64 60000)) fun t17 =>
 j54_0 R t1 t17 w)
def p54 : Plan := .seq (.leaf) (.seq (.join [18] [1] (.leaf) (.cond (.seq (.leaf) (.leaf)) (.leaf))) (.join [3] [1] (.tree [0, 0, 2, 6, 14, 30, 0, 64, 192, 448, 960, 2047, 4095, 8191] (.take 0 (.take 1 (.take 2 (.take 3 (.take 4 (.take 6 (.take 7 (.take 8 (.take 9 (.alt 5 (.take 10 (.take 11 (.take 12 (.take 13 (.done))))) (.take 10 (.take 5 (.take 11 (.take 12 (.take 13 (.done))))))))))))))))) (.seq (.seq (.leaf) (.block (.loop [37] [1, 3, 36] (.seq (.leaf) (.seq (.cond (.leaf) (.leaf)) (.seq (.block (.seq (.leaf) (.ord [0, 1, 3, 7, 0, 0, 32, 96, 224, 0, 511, 1535, 4095, 8191]))) (.leaf))))))) (.seq (.seq (.leaf) (.block (.loop [56] [1, 3, 54, 55] (.seq (.leaf) (.seq (.cond (.leaf) (.leaf)) (.seq (.block (.seq (.leaf) (.seq (.leaf) (.cond (.seq (.leaf) (.leaf)) (.leaf))))) (.leaf))))))) (.seq (.seq (.leaf) (.block (.loop [70] [3, 68, 69] (.seq (.leaf) (.seq (.cond (.leaf) (.leaf)) (.seq (.block (.seq (.leaf) (.join [107] [3, 68, 69, 70] (.leaf) (.cond (.seq (.leaf) (.leaf)) (.leaf))))) (.leaf))))))) (.seq (.leaf) (.leaf)))))))
theorem e54 (R : Value → World → Prop) (t0 : Value) (w : World) : cw Try.prog 111 p54 (Try.f54.body.getD .skip) (fnQ Try.prog Try.f54.results.toList R) (argE 0 [t0]) w = c54 R t0 w := by kernel_rfl
theorem b54 : Try.f54.body = some (Try.f54.body.getD .skip) := by kernel_rfl
theorem s54 {R : Value → World → Prop} {t0 : Value} {w : World} (h : c54 R t0 w) : Cl Try.prog 54 [t0] w R :=
  calls_of_cw mixed p54 Try.func54 b54 Try.ntmps54 (by simp) (by rw [e54]; exact h)
def c29 (R : Value → World → Prop) (t0 : Value) (w : World) : Prop :=
 AL (.cells (Value.cells t0) 52) w fun t1 w =>
 O (rdN 2 t1 w) fun t4 =>
 Cl Try.prog 54 [t4] w fun t5 w =>
 O (un .not t5) fun t6 =>
 Bc t6
 (R (.int .i64 2) w)
 (O (fA 1 t1) fun t8 =>
 O (rd1 t8 w) fun t9 =>
 O (lenS t9) fun t10 =>
 O (bi .gtr t10 (.int .i64 1200)) fun t11 =>
 Bc t11
 (R (.int .i64 9) w)
 (R (.int .i64 0) w))
def p29 : Plan := .seq (.leaf) (.seq (.block (.seq (.leaf) (.cond (.seq (.leaf) (.leaf)) (.seq (.leaf) (.cond (.seq (.leaf) (.leaf)) (.leaf)))))) (.seq (.leaf) (.leaf)))
theorem e29 (R : Value → World → Prop) (t0 : Value) (w : World) : cw Try.prog 12 p29 (Try.f29.body.getD .skip) (fnQ Try.prog Try.f29.results.toList R) (argE 0 [t0]) w = c29 R t0 w := by kernel_rfl
theorem b29 : Try.f29.body = some (Try.f29.body.getD .skip) := by kernel_rfl
theorem s29 {R : Value → World → Prop} {t0 : Value} {w : World} (h : c29 R t0 w) : Cl Try.prog 29 [t0] w R :=
  calls_of_cw mixed p29 Try.func29 b29 Try.ntmps29 (by simp) (by rw [e29]; exact h)
def c63 (R : Value → World → Prop) (t0 : Value) (t1 : Value) (w : World) : Prop :=
 O (bi .quo t1 (.int .i64 64)) fun t7 =>
 O (nC t0) fun t8 =>
 O (iA 19 1 t8 t7) fun t9 =>
 O (rd1 t9 w) fun t10 =>
 O (bi .rem t1 (.int .i64 64)) fun t12 =>
 O (bi .shr t10 t12) fun t13 =>
 O (bi .and t13 (.int .u64 1)) fun t14 =>
 O (bi .eql t14 (.int .u64 1)) fun t15 =>
 R t15 w
def p63 : Plan := .seq (.leaf) (.seq (.leaf) (.leaf))
theorem e63 (R : Value → World → Prop) (t0 : Value) (t1 : Value) (w : World) : cw Try.prog 16 p63 (Try.f63.body.getD .skip) (fnQ Try.prog Try.f63.results.toList R) (argE 0 [t0, t1]) w = c63 R t0 t1 w := by kernel_rfl
theorem b63 : Try.f63.body = some (Try.f63.body.getD .skip) := by kernel_rfl
theorem s63 {R : Value → World → Prop} {t0 : Value} {t1 : Value} {w : World} (h : c63 R t0 t1 w) : Cl Try.prog 63 [t0, t1] w R :=
  calls_of_cw mixed p63 Try.func63 b63 Try.ntmps63 (by simp) (by rw [e63]; exact h)
def j62_0 (R : Value → World → Prop) (t0 : Value) (t2 : Value) (t1 : Value) (t22 : Value) (w : World) : Prop :=
 Bc t22
 (R (.bool false) w)
 (Dr w fun w =>
 O (nC t0) fun t24 =>
 O (fA 2 t24) fun t25 =>
 O (rd1 t25 w) fun t26 =>
 O (bi .quo t2 (.int .i64 64)) fun t29 =>
 O (iS 19 t26 t1) fun t30 =>
 O (iA 19 1 t30 t29) fun t31 =>
 O (rd1 t31 w) fun t32 =>
 O (bi .rem t2 (.int .i64 64)) fun t34 =>
 O (bi .shl (.int .u64 1) t34) fun t35 =>
 O (bi .or t32 t35) fun t36 =>
 O (iS 19 t26 t1) fun t37 =>
 O (iA 19 1 t37 t29) fun t38 =>
 ST Try.prog 147 t38 t36 w fun _ w =>
 R (.bool true) w)
def c62 (R : Value → World → Prop) (t0 : Value) (t1 : Value) (t2 : Value) (w : World) : Prop :=
 O (bi .lss t1 (.int .i64 0)) fun t8 =>
 Bc t8
 (j62_0 R t0 t2 t1 (.bool true) w)
 (O (bi .lss t2 (.int .i64 0)) fun t11 =>
 Bc t11
 (j62_0 R t0 t2 t1 (.bool true) w)
 (O (nC t0) fun t15 =>
 O (fA 2 t15) fun t16 =>
 O (rd1 t16 w) fun t17 =>
 O (iS 19 t17 t1) fun t19 =>
 Cl Try.prog 63 [t19, t2] w fun t21 w =>
 j62_0 R t0 t2 t1 t21 w))
def p62 : Plan := .seq (.leaf) (.seq (.join [22] [0, 1, 2] (.leaf) (.cond (.seq (.leaf) (.leaf)) (.leaf))) (.seq (.ord [0, 1, 3, 7, 0, 0, 32, 31, 255, 511, 0, 1024, 3072, 8191, 31, 32767, 65535]) (.seq (.leaf) (.leaf))))
theorem e62 (R : Value → World → Prop) (t0 : Value) (t1 : Value) (t2 : Value) (w : World) : cw Try.prog 39 p62 (Try.f62.body.getD .skip) (fnQ Try.prog Try.f62.results.toList R) (argE 0 [t0, t1, t2]) w = c62 R t0 t1 t2 w := by kernel_rfl
theorem b62 : Try.f62.body = some (Try.f62.body.getD .skip) := by kernel_rfl
theorem s62 {R : Value → World → Prop} {t0 : Value} {t1 : Value} {t2 : Value} {w : World} (h : c62 R t0 t1 t2 w) : Cl Try.prog 62 [t0, t1, t2] w R :=
  calls_of_cw mixed p62 Try.func62 b62 Try.ntmps62 (by simp) (by rw [e62]; exact h)
def j55_0 (R : Value → World → Prop) (t16 : Value) (I0 : Value → World → Prop) (μ0 : Value → World → Nat) (wh0 : World) (w : World) : Prop :=
 O (bi .add t16 (.int .i64 1)) fun t51 =>
 I0 t51 w ∧ μ0 t51 w < μ0 t16 wh0
def j55_1 (R : Value → World → Prop) (t4 : Value) (t9 : Value) (t16 : Value) (t0 : Value) (I0 : Value → World → Prop) (μ0 : Value → World → Nat) (wh0 : World) (w : World) : Prop :=
 O (fA 1 t4) fun t34 =>
 O (rd1 t34 w) fun t35 =>
 Rn Try.prog (Instr.mapUpdate 172 t9 t35 t16) w fun _ w =>
 O (fA 0 t4) fun t37 =>
 O (rd1 t37 w) fun t38 =>
 O (bi .eql t38 (.int .i64 6)) fun t39 =>
 Bc t39
 (Dr w fun w =>
 O (nC t0) fun t42 =>
 O (fA 4 t42) fun t43 =>
 O (rd1 t43 w) fun t44 =>
 O (fA 2 t4) fun t45 =>
 O (rd1 t45 w) fun t46 =>
 O (iS 1 t44 t46) fun t47 =>
 O (rd1 t47 w) fun t48 =>
 Cl Try.prog 62 [t0, t48, t16] w fun t50 w =>
 j55_0 R t16 I0 μ0 wh0 w)
 (j55_0 R t16 I0 μ0 wh0 w)
def j55_2 (R : Value → World → Prop) (t58 : Value) (I1 : Value → World → Prop) (μ1 : Value → World → Nat) (wh1 : World) (w : World) : Prop :=
 O (bi .add t58 (.int .i64 1)) fun t96 =>
 I1 t96 w ∧ μ1 t96 w < μ1 t58 wh1
def c55 (R : Value → World → Prop) (t0 : Value) (w : World) : Prop :=
 MM w fun t9 w =>
 O (nC t0) fun t11 =>
 O (fA 0 t11) fun t12 =>
 O (fA 1 t12) fun t13 =>
 O (rd1 t13 w) fun t14 =>
 O (lenS t14) fun t15 =>
 ∃ (I0 : Value → World → Prop) (μ0 : Value → World → Nat), I0 (.int .i64 0) w ∧ ∀ (t16 : Value) wh0, I0 t16 wh0 →
 O (bi .lss t16 t15) fun t17 =>
 Bc t17
 (O (iS 8 t14 t16) fun t19 =>
 O (rdN 8 t19 wh0) fun t20 =>
 AL (.cells #[.int .i64 0, .int .i64 0, .int .i64 0, .int .i64 0, .int .i64 0, .int .i64 0, .int .i64 0, .bool false] 67) wh0 fun t4 w =>
 ST Try.prog 67 t4 t20 w fun _ w =>
 O (fA 1 t4) fun t23 =>
 O (rd1 t23 w) fun t24 =>
 Rn Try.prog (Instr.lookup 172 t9 t24 true) w fun t25 w =>
 O (exv t25 0) fun t26 =>
 O (exv t25 1) fun t27 =>
 Bc t27
 (Cl Try.prog 62 [t0, t26, t16] w fun t32 w =>
 j55_1 R t4 t9 t16 t0 I0 μ0 wh0 w)
 (j55_1 R t4 t9 t16 t0 I0 μ0 wh0 w))
 (O (nC t0) fun t53 =>
 O (fA 0 t53) fun t54 =>
 O (fA 0 t54) fun t55 =>
 O (rd1 t55 wh0) fun t56 =>
 O (lenS t56) fun t57 =>
 ∃ (I1 : Value → World → Prop) (μ1 : Value → World → Nat), I1 (.int .i64 0) wh0 ∧ ∀ (t58 : Value) wh1, I1 t58 wh1 →
 O (bi .lss t58 t57) fun t59 =>
 Bc t59
 (O (iS 15 t56 t58) fun t61 =>
 O (rdN 15 t61 wh1) fun t62 =>
 AL (.cells #[.int .i64 0, .int .i64 0, .int .i64 0, .int .i64 0, .int .i64 0, .int .i64 0, .int .i64 0, .bool false, .int .i64 0, .int .i64 0, .int .i64 0, .int .i64 0, .int .i64 0, .int .i64 0, .int .i64 0] 73) wh1 fun t8 w =>
 ST Try.prog 73 t8 t62 w fun _ w =>
 Dr w fun w =>
 O (fA 13 t8) fun t64 =>
 O (rd1 t64 w) fun t65 =>
 O (nC t0) fun t67 =>
 O (fA 3 t67) fun t68 =>
 O (rd1 t68 w) fun t69 =>
 O (bi .add t58 (.int .i64 1)) fun t71 =>
 O (iS 1 t69 t71) fun t72 =>
 O (rd1 t72 w) fun t73 =>
 Cl Try.prog 62 [t0, t65, t73] w fun t74 w =>
 O (fA 14 t8) fun t75 =>
 O (rd1 t75 w) fun t76 =>
 O (bi .gtr t76 (.int .i64 0)) fun t77 =>
 Bc t77
 (Dr w fun w =>
 O (nC t0) fun t80 =>
 O (fA 4 t80) fun t81 =>
 O (rd1 t81 w) fun t82 =>
 O (fA 14 t8) fun t83 =>
 O (rd1 t83 w) fun t84 =>
 O (iS 1 t82 t84) fun t85 =>
 O (rd1 t85 w) fun t86 =>
 O (nC t0) fun t88 =>
 O (fA 3 t88) fun t89 =>
 O (rd1 t89 w) fun t90 =>
 O (bi .add t58 (.int .i64 1)) fun t92 =>
 O (iS 1 t90 t92) fun t93 =>
 O (rd1 t93 w) fun t94 =>
 Cl Try.prog 62 [t0, t86, t94] w fun t95 w =>
 j55_2 R t58 I1 μ1 wh1 w)
 (j55_2 R t58 I1 μ1 wh1 w))
 (R (.tuple #[]) wh1))
def p55 : Plan := .seq (.leaf) (.seq (.seq (.leaf) (.block (.loop [16] [0, 2, 14, 15] (.seq (.leaf) (.seq (.cond (.leaf) (.leaf)) (.join [] [0, 2, 14, 15, 16] (.block (.seq (.leaf) (.join [] [0, 2, 3, 4, 14, 15, 16] (.seq (.leaf) (.seq (.leaf) (.cond (.leaf) (.leaf)))) (.seq (.leaf) (.seq (.leaf) (.cond (.ord [0, 0, 2, 6, 14, 0, 32, 126, 254, 0, 1023]) (.leaf))))))) (.leaf))))))) (.seq (.leaf) (.block (.loop [58] [0, 56, 57] (.seq (.leaf) (.seq (.cond (.leaf) (.leaf)) (.join [] [0, 56, 57, 58] (.block (.seq (.leaf) (.seq (.ord [0, 0, 2, 0, 8, 24, 56, 0, 128, 504, 1016, 2047]) (.seq (.leaf) (.cond (.ord [0, 0, 2, 6, 14, 0, 32, 126, 254, 0, 512, 1536, 3584, 0, 8192, 32256, 65024, 131071]) (.leaf)))))) (.leaf))))))))
theorem e55 (R : Value → World → Prop) (t0 : Value) (w : World) : cw Try.prog 97 p55 (Try.f55.body.getD .skip) (fnQ Try.prog Try.f55.results.toList R) (argE 0 [t0]) w = c55 R t0 w := by kernel_rfl
theorem b55 : Try.f55.body = some (Try.f55.body.getD .skip) := by kernel_rfl
theorem s55 {R : Value → World → Prop} {t0 : Value} {w : World} (h : c55 R t0 w) : Cl Try.prog 55 [t0] w R :=
  calls_of_cw mixed p55 Try.func55 b55 Try.ntmps55 (by simp) (by rw [e55]; exact h)
def j56_0 (R : Value → World → Prop) (t3 : Value) (I1 : Value → World → Prop) (μ1 : Value → World → Nat) (wh1 : World) (w : World) : Prop :=
 O (bi .add t3 (.int .i64 1)) fun t25 =>
 I1 t25 w ∧ μ1 t25 w < μ1 t3 wh1
def c56 (R : Value → World → Prop) (t0 : Value) (w : World) : Prop :=
 O (nC t0) fun t6 =>
 O (fA 2 t6) fun t7 =>
 O (rd1 t7 w) fun t8 =>
 O (lenS t8) fun t9 =>
 O (bi .sub t9 (.int .i64 1)) fun t10 =>
 ∃ (I0 : Value → World → Prop) (μ0 : Value → World → Nat), I0 t10 w ∧ ∀ (t2 : Value) wh0, I0 t2 wh0 →
 O (bi .geq t2 (.int .i64 0)) fun t12 =>
 Bc t12
 (O (bi .add t2 (.int .i64 1)) fun t16 =>
 ∃ (I1 : Value → World → Prop) (μ1 : Value → World → Nat), I1 t16 wh0 ∧ ∀ (t3 : Value) wh1, I1 t3 wh1 →
 O (nC t0) fun t19 =>
 O (fA 2 t19) fun t20 =>
 O (rd1 t20 wh1) fun t21 =>
 O (lenS t21) fun t22 =>
 O (bi .lss t3 t22) fun t23 =>
 Bc t23
 (O (nC t0) fun t27 =>
 O (fA 2 t27) fun t28 =>
 O (rd1 t28 wh1) fun t29 =>
 O (iS 19 t29 t2) fun t31 =>
 Cl Try.prog 63 [t31, t3] wh1 fun t33 w =>
 O (un .not t33) fun t34 =>
 Bc t34
 (j56_0 R t3 I1 μ1 wh1 w)
 (∃ (I2 : Value → World → Prop) (μ2 : Value → World → Nat), I2 (.int .i64 0) w ∧ ∀ (t35 : Value) wh2, I2 t35 wh2 →
 O (bi .lss t35 (.int .i64 19)) fun t36 =>
 Bc t36
 (Dr wh2 fun w =>
 O (nC t0) fun t39 =>
 O (fA 2 t39) fun t40 =>
 O (rd1 t40 w) fun t41 =>
 O (iS 19 t41 t2) fun t44 =>
 O (iA 19 1 t44 t35) fun t45 =>
 O (rd1 t45 w) fun t46 =>
 O (nC t0) fun t48 =>
 O (fA 2 t48) fun t49 =>
 O (rd1 t49 w) fun t50 =>
 O (iS 19 t50 t3) fun t53 =>
 O (iA 19 1 t53 t35) fun t54 =>
 O (rd1 t54 w) fun t55 =>
 O (bi .or t46 t55) fun t56 =>
 O (iS 19 t41 t2) fun t57 =>
 O (iA 19 1 t57 t35) fun t58 =>
 ST Try.prog 147 t58 t56 w fun _ w =>
 O (bi .add t35 (.int .i64 1)) fun t59 =>
 I2 t59 w ∧ μ2 t59 w < μ2 t35 wh2)
 (j56_0 R t3 I1 μ1 wh1 wh2)))
 (O (bi .sub t2 (.int .i64 1)) fun t14 =>
 I0 t14 wh1 ∧ μ0 t14 wh1 < μ0 t2 wh0))
 (R (.tuple #[]) wh0)
def p56 : Plan := .seq (.leaf) (.block (.loop [2] [0] (.seq (.seq (.leaf) (.cond (.leaf) (.leaf))) (.seq (.block (.seq (.leaf) (.block (.loop [3] [0, 2] (.seq (.seq (.leaf) (.cond (.leaf) (.leaf))) (.join [] [0, 2, 3] (.block (.seq (.seq (.leaf) (.cond (.leaf) (.leaf))) (.seq (.leaf) (.block (.loop [35] [0, 2, 3] (.seq (.leaf) (.seq (.cond (.leaf) (.leaf)) (.seq (.block (.seq (.leaf) (.ord [0, 1, 3, 7, 0, 0, 31, 127, 255, 0, 512, 1536, 3584, 0, 0, 15872, 65024, 130560, 262143, 31, 1048575, 2097151]))) (.leaf))))))))) (.leaf))))))) (.leaf)))))
theorem e56 (R : Value → World → Prop) (t0 : Value) (w : World) : cw Try.prog 60 p56 (Try.f56.body.getD .skip) (fnQ Try.prog Try.f56.results.toList R) (argE 0 [t0]) w = c56 R t0 w := by kernel_rfl
theorem b56 : Try.f56.body = some (Try.f56.body.getD .skip) := by kernel_rfl
theorem s56 {R : Value → World → Prop} {t0 : Value} {w : World} (h : c56 R t0 w) : Cl Try.prog 56 [t0] w R :=
  calls_of_cw mixed p56 Try.func56 b56 Try.ntmps56 (by simp) (by rw [e56]; exact h)
def j30_1 (R : Value → World → Prop) (t54 : Value) (I1 : Value → World → Prop) (μ1 : Value → World → Nat) (wh1 : World) (w : World) : Prop :=
 O (bi .add t54 (.int .i64 1)) fun t81 =>
 I1 t81 w ∧ μ1 t81 w < μ1 t54 wh1
def j30_2 (R : Value → World → Prop) (t105 : Value) (I5 : Value → Value → World → Prop) (μ5 : Value → Value → World → Nat) (t8_2 : Value) (wh5 : World) (t8_3 : Value) (w : World) : Prop :=
 O (bi .add t105 (.int .i64 1)) fun t131 =>
 I5 t8_3 t131 w ∧ μ5 t8_3 t131 w < μ5 t8_2 t105 wh5
def j30_3 (R : Value → World → Prop) (t105 : Value) (I5 : Value → Value → World → Prop) (μ5 : Value → Value → World → Nat) (t8_2 : Value) (wh5 : World) (t130 : Value) (w : World) : Prop :=
 Bc t130
 (j30_2 R t105 I5 μ5 t8_2 wh5 (.bool true) w)
 (j30_2 R t105 I5 μ5 t8_2 wh5 t8_2 w)
def j30_0 (R : Value → World → Prop) (t1 : Value) (t3 : Value) (w : World) : Prop :=
 O (rd1 t3 w) fun t30 =>
 O (nC t30) fun t31 =>
 O (fA 3 t31) fun t32 =>
 O (rd1 t32 w) fun t33 =>
 O (lenS t33) fun t34 =>
 ∃ (I0 : Value → World → Prop) (μ0 : Value → World → Nat), I0 (.int .i64 0) w ∧ ∀ (t35 : Value) wh0, I0 t35 wh0 →
 O (bi .lss t35 t34) fun t36 =>
 Bc t36
 (Dr wh0 fun w =>
 O (rd1 t3 w) fun t38 =>
 O (nC t38) fun t39 =>
 O (fA 3 t39) fun t40 =>
 O (rd1 t40 w) fun t41 =>
 O (rd1 t3 w) fun t43 =>
 O (nC t43) fun t44 =>
 O (fA 4 t44) fun t45 =>
 O (rd1 t45 w) fun t46 =>
 O (iS 1 t41 t35) fun t48 =>
 ST Try.prog 3 t48 (.int .i64 (-1)) w fun _ w =>
 O (iS 1 t46 t35) fun t49 =>
 ST Try.prog 3 t49 (.int .i64 (-1)) w fun _ w =>
 O (bi .add t35 (.int .i64 1)) fun t50 =>
 I0 t50 w ∧ μ0 t50 w < μ0 t35 wh0)
 (O (fA 1 t1) fun t51 =>
 O (rd1 t51 wh0) fun t52 =>
 O (lenS t52) fun t53 =>
 ∃ (I1 : Value → World → Prop) (μ1 : Value → World → Nat), I1 (.int .i64 0) wh0 ∧ ∀ (t54 : Value) wh1, I1 t54 wh1 →
 O (bi .lss t54 t53) fun t55 =>
 Bc t55
 (O (iS 8 t52 t54) fun t57 =>
 O (rdN 8 t57 wh1) fun t58 =>
 AL (.cells #[.int .i64 0, .int .i64 0, .int .i64 0, .int .i64 0, .int .i64 0, .int .i64 0, .int .i64 0, .bool false] 67) wh1 fun t6 w =>
 ST Try.prog 67 t6 t58 w fun _ w =>
 O (fA 0 t6) fun t59 =>
 O (rd1 t59 w) fun t60 =>
 O (bi .eql t60 (.int .i64 1)) fun t62 =>
 Bc t62
 (Dr w fun w =>
 O (rd1 t3 w) fun t63 =>
 O (nC t63) fun t64 =>
 O (fA 3 t64) fun t65 =>
 O (rd1 t65 w) fun t66 =>
 O (fA 1 t6) fun t67 =>
 O (rd1 t67 w) fun t68 =>
 O (iS 1 t66 t68) fun t70 =>
 ST Try.prog 3 t70 t54 w fun _ w =>
 j30_1 R t54 I1 μ1 wh1 w)
 (O (bi .eql t60 (.int .i64 2)) fun t72 =>
 Bc t72
 (Dr w fun w =>
 O (rd1 t3 w) fun t73 =>
 O (nC t73) fun t74 =>
 O (fA 4 t74) fun t75 =>
 O (rd1 t75 w) fun t76 =>
 O (fA 1 t6) fun t77 =>
 O (rd1 t77 w) fun t78 =>
 O (iS 1 t76 t78) fun t80 =>
 ST Try.prog 3 t80 t54 w fun _ w =>
 j30_1 R t54 I1 μ1 wh1 w)
 (j30_1 R t54 I1 μ1 wh1 w)))
 (O (rd1 t3 wh1) fun t82 =>
 Cl Try.prog 55 [t82] wh1 fun t83 w =>
 O (rd1 t3 w) fun t84 =>
 Cl Try.prog 56 [t84] w fun t85 w =>
 BS 114 1 2 (.nilFunc) [(0, (.func (.func 57) #[] #[t3])), (1, (.func (.func 60) #[] #[t3]))] w fun t88 w =>
 ∃ (I2 : World → Prop) (μ2 : World → Nat), I2  w ∧ ∀ wh2, I2  wh2 →
 ∃ (I3 : Value → Value → World → Prop) (μ3 : Value → Value → World → Nat), I3 (.bool false) (.int .i64 1) wh2 ∧ ∀ (t8 : Value) (t9 : Value) wh3, I3 t8 t9 wh3 →
 O (fA 0 t1) fun t90 =>
 O (rd1 t90 wh3) fun t91 =>
 O (lenS t91) fun t92 =>
 O (bi .leq t9 t92) fun t93 =>
 Bc t93
 (∃ (I4 : Value → Value → World → Prop) (μ4 : Value → Value → World → Nat), I4 t8 (.int .i64 1) wh3 ∧ ∀ (t8_1 : Value) (t10 : Value) wh4, I4 t8_1 t10 wh4 →
 O (fA 0 t1) fun t97 =>
 O (rd1 t97 wh4) fun t98 =>
 O (lenS t98) fun t99 =>
 O (bi .leq t10 t99) fun t100 =>
 Bc t100
 (O (lenS t88) fun t104 =>
 ∃ (I5 : Value → Value → World → Prop) (μ5 : Value → Value → World → Nat), I5 t8_1 (.int .i64 0) wh4 ∧ ∀ (t8_2 : Value) (t105 : Value) wh5, I5 t8_2 t105 wh5 →
 O (bi .lss t105 t104) fun t106 =>
 Bc t106
 (O (iS 1 t88 t105) fun t107 =>
 O (rd1 t107 wh5) fun t108 =>
 Dr wh5 fun w =>
 CV Try.prog t108 [t9, t10] w fun t112 w =>
 Bc t112
 (O (rd1 t3 w) fun t114 =>
 O (rd1 t3 w) fun t115 =>
 O (nC t115) fun t116 =>
 O (fA 4 t116) fun t117 =>
 O (rd1 t117 w) fun t118 =>
 O (iS 1 t118 t9) fun t120 =>
 O (rd1 t120 w) fun t121 =>
 O (rd1 t3 w) fun t122 =>
 O (nC t122) fun t123 =>
 O (fA 3 t123) fun t124 =>
 O (rd1 t124 w) fun t125 =>
 O (iS 1 t125 t10) fun t127 =>
 O (rd1 t127 w) fun t128 =>
 Cl Try.prog 62 [t114, t121, t128] w fun t129 w =>
 j30_3 R t105 I5 μ5 t8_2 wh5 t129 w)
 (j30_3 R t105 I5 μ5 t8_2 wh5 (.bool false) w))
 (O (bi .add t10 (.int .i64 1)) fun t102 =>
 I4 t8_2 t102 wh5 ∧ μ4 t8_2 t102 wh5 < μ4 t8_1 t10 wh4))
 (O (bi .add t9 (.int .i64 1)) fun t95 =>
 I3 t8_1 t95 wh4 ∧ μ3 t8_1 t95 wh4 < μ3 t8 t9 wh3))
 (O (un .not t8) fun t133 =>
 Bc t133
 (O (rd1 t3 wh3) fun t136 =>
 R t136 wh3)
 (O (rd1 t3 wh3) fun t134 =>
 Cl Try.prog 56 [t134] wh3 fun t135 w =>
 I2  w ∧ μ2  w < μ2  wh2))))
def c30 (R : Value → World → Prop) (t0 : Value) (w : World) : Prop :=
 AL (.cells (Value.cells t0) 52) w fun t1 w =>
 Dr w fun wb1 =>
 O (rdN 2 t1 wb1) fun t13 =>
 O (fA 1 t1) fun t14 =>
 O (rd1 t14 wb1) fun t15 =>
 O (lenS t15) fun t16 =>
 O (fA 0 t1) fun t18 =>
 O (rd1 t18 wb1) fun t19 =>
 O (lenS t19) fun t20 =>
 O (bi .add t20 (.int .i64 1)) fun t21 =>
 O (fA 0 t1) fun t23 =>
 O (rd1 t23 wb1) fun t24 =>
 O (lenS t24) fun t25 =>
 O (bi .add t25 (.int .i64 1)) fun t26 =>
 (MS 149 19 152 (.agg #[.int .u64 0, .int .u64 0, .int .u64 0, .int .u64 0, .int .u64 0, .int .u64 0, .int .u64 0, .int .u64 0, .int .u64 0, .int .u64 0, .int .u64 0, .int .u64 0, .int .u64 0, .int .u64 0, .int .u64 0, .int .u64 0, .int .u64 0, .int .u64 0, .int .u64 0]) t16 t16 wb1 fun t17 w =>
 Hd wb1 w ∧ ((MS 3 1 8 (.int .i64 0) t21 t21 w fun t22 w =>
 Hd wb1 w ∧ ((MS 3 1 8 (.int .i64 0) t26 t26 w fun t27 w =>
 Hd wb1 w ∧ ((O ((fillW Try.prog 145 [(0, t13), (1, t17), (2, t22), (3, t27)]).map .agg) fun t28 =>
 Hd wb1 w ∧ ((AL (.cells (Value.cells t28) 145) w fun t29 w =>
 Hd wb1 w ∧ (AL (.cells #[.pointer none] 112) w fun t3 w =>
 Hd wb1 w ∧ (ST Try.prog 112 t3 t29 w fun _ w =>
 Hd wb1 w ∧ (j30_0 R t1 t3 w)))) ∧
 (AL (.cells #[.pointer none] 112) w fun t3 w =>
 Hd wb1 w ∧ (AL (.cells (Value.cells t28) 145) w fun t29 w =>
 Hd wb1 w ∧ (ST Try.prog 112 t3 t29 w fun _ w =>
 Hd wb1 w ∧ (j30_0 R t1 t3 w)))))) ∧
 (AL (.cells #[.pointer none] 112) w fun t3 w =>
 Hd wb1 w ∧ (O ((fillW Try.prog 145 [(0, t13), (1, t17), (2, t22), (3, t27)]).map .agg) fun t28 =>
 Hd wb1 w ∧ (AL (.cells (Value.cells t28) 145) w fun t29 w =>
 Hd wb1 w ∧ (ST Try.prog 112 t3 t29 w fun _ w =>
 Hd wb1 w ∧ (j30_0 R t1 t3 w))))))) ∧
 (AL (.cells #[.pointer none] 112) w fun t3 w =>
 Hd wb1 w ∧ (MS 3 1 8 (.int .i64 0) t26 t26 w fun t27 w =>
 Hd wb1 w ∧ (O ((fillW Try.prog 145 [(0, t13), (1, t17), (2, t22), (3, t27)]).map .agg) fun t28 =>
 Hd wb1 w ∧ (AL (.cells (Value.cells t28) 145) w fun t29 w =>
 Hd wb1 w ∧ (ST Try.prog 112 t3 t29 w fun _ w =>
 Hd wb1 w ∧ (j30_0 R t1 t3 w)))))))) ∧
 (MS 3 1 8 (.int .i64 0) t26 t26 w fun t27 w =>
 Hd wb1 w ∧ ((MS 3 1 8 (.int .i64 0) t21 t21 w fun t22 w =>
 Hd wb1 w ∧ ((O ((fillW Try.prog 145 [(0, t13), (1, t17), (2, t22), (3, t27)]).map .agg) fun t28 =>
 Hd wb1 w ∧ ((AL (.cells (Value.cells t28) 145) w fun t29 w =>
 Hd wb1 w ∧ (AL (.cells #[.pointer none] 112) w fun t3 w =>
 Hd wb1 w ∧ (ST Try.prog 112 t3 t29 w fun _ w =>
 Hd wb1 w ∧ (j30_0 R t1 t3 w)))) ∧
 (AL (.cells #[.pointer none] 112) w fun t3 w =>
 Hd wb1 w ∧ (AL (.cells (Value.cells t28) 145) w fun t29 w =>
 Hd wb1 w ∧ (ST Try.prog 112 t3 t29 w fun _ w =>
 Hd wb1 w ∧ (j30_0 R t1 t3 w)))))) ∧
 (AL (.cells #[.pointer none] 112) w fun t3 w =>
 Hd wb1 w ∧ (O ((fillW Try.prog 145 [(0, t13), (1, t17), (2, t22), (3, t27)]).map .agg) fun t28 =>
 Hd wb1 w ∧ (AL (.cells (Value.cells t28) 145) w fun t29 w =>
 Hd wb1 w ∧ (ST Try.prog 112 t3 t29 w fun _ w =>
 Hd wb1 w ∧ (j30_0 R t1 t3 w))))))) ∧
 (AL (.cells #[.pointer none] 112) w fun t3 w =>
 Hd wb1 w ∧ (MS 3 1 8 (.int .i64 0) t21 t21 w fun t22 w =>
 Hd wb1 w ∧ (O ((fillW Try.prog 145 [(0, t13), (1, t17), (2, t22), (3, t27)]).map .agg) fun t28 =>
 Hd wb1 w ∧ (AL (.cells (Value.cells t28) 145) w fun t29 w =>
 Hd wb1 w ∧ (ST Try.prog 112 t3 t29 w fun _ w =>
 Hd wb1 w ∧ (j30_0 R t1 t3 w)))))))) ∧
 (AL (.cells #[.pointer none] 112) w fun t3 w =>
 Hd wb1 w ∧ ((MS 3 1 8 (.int .i64 0) t21 t21 w fun t22 w =>
 Hd wb1 w ∧ (MS 3 1 8 (.int .i64 0) t26 t26 w fun t27 w =>
 Hd wb1 w ∧ (O ((fillW Try.prog 145 [(0, t13), (1, t17), (2, t22), (3, t27)]).map .agg) fun t28 =>
 Hd wb1 w ∧ (AL (.cells (Value.cells t28) 145) w fun t29 w =>
 Hd wb1 w ∧ (ST Try.prog 112 t3 t29 w fun _ w =>
 Hd wb1 w ∧ (j30_0 R t1 t3 w)))))) ∧
 (MS 3 1 8 (.int .i64 0) t26 t26 w fun t27 w =>
 Hd wb1 w ∧ (MS 3 1 8 (.int .i64 0) t21 t21 w fun t22 w =>
 Hd wb1 w ∧ (O ((fillW Try.prog 145 [(0, t13), (1, t17), (2, t22), (3, t27)]).map .agg) fun t28 =>
 Hd wb1 w ∧ (AL (.cells (Value.cells t28) 145) w fun t29 w =>
 Hd wb1 w ∧ (ST Try.prog 112 t3 t29 w fun _ w =>
 Hd wb1 w ∧ (j30_0 R t1 t3 w)))))))))) ∧
 (MS 3 1 8 (.int .i64 0) t21 t21 wb1 fun t22 w =>
 Hd wb1 w ∧ ((MS 149 19 152 (.agg #[.int .u64 0, .int .u64 0, .int .u64 0, .int .u64 0, .int .u64 0, .int .u64 0, .int .u64 0, .int .u64 0, .int .u64 0, .int .u64 0, .int .u64 0, .int .u64 0, .int .u64 0, .int .u64 0, .int .u64 0, .int .u64 0, .int .u64 0, .int .u64 0, .int .u64 0]) t16 t16 w fun t17 w =>
 Hd wb1 w ∧ ((MS 3 1 8 (.int .i64 0) t26 t26 w fun t27 w =>
 Hd wb1 w ∧ ((O ((fillW Try.prog 145 [(0, t13), (1, t17), (2, t22), (3, t27)]).map .agg) fun t28 =>
 Hd wb1 w ∧ ((AL (.cells (Value.cells t28) 145) w fun t29 w =>
 Hd wb1 w ∧ (AL (.cells #[.pointer none] 112) w fun t3 w =>
 Hd wb1 w ∧ (ST Try.prog 112 t3 t29 w fun _ w =>
 Hd wb1 w ∧ (j30_0 R t1 t3 w)))) ∧
 (AL (.cells #[.pointer none] 112) w fun t3 w =>
 Hd wb1 w ∧ (AL (.cells (Value.cells t28) 145) w fun t29 w =>
 Hd wb1 w ∧ (ST Try.prog 112 t3 t29 w fun _ w =>
 Hd wb1 w ∧ (j30_0 R t1 t3 w)))))) ∧
 (AL (.cells #[.pointer none] 112) w fun t3 w =>
 Hd wb1 w ∧ (O ((fillW Try.prog 145 [(0, t13), (1, t17), (2, t22), (3, t27)]).map .agg) fun t28 =>
 Hd wb1 w ∧ (AL (.cells (Value.cells t28) 145) w fun t29 w =>
 Hd wb1 w ∧ (ST Try.prog 112 t3 t29 w fun _ w =>
 Hd wb1 w ∧ (j30_0 R t1 t3 w))))))) ∧
 (AL (.cells #[.pointer none] 112) w fun t3 w =>
 Hd wb1 w ∧ (MS 3 1 8 (.int .i64 0) t26 t26 w fun t27 w =>
 Hd wb1 w ∧ (O ((fillW Try.prog 145 [(0, t13), (1, t17), (2, t22), (3, t27)]).map .agg) fun t28 =>
 Hd wb1 w ∧ (AL (.cells (Value.cells t28) 145) w fun t29 w =>
 Hd wb1 w ∧ (ST Try.prog 112 t3 t29 w fun _ w =>
 Hd wb1 w ∧ (j30_0 R t1 t3 w)))))))) ∧
 (MS 3 1 8 (.int .i64 0) t26 t26 w fun t27 w =>
 Hd wb1 w ∧ ((MS 149 19 152 (.agg #[.int .u64 0, .int .u64 0, .int .u64 0, .int .u64 0, .int .u64 0, .int .u64 0, .int .u64 0, .int .u64 0, .int .u64 0, .int .u64 0, .int .u64 0, .int .u64 0, .int .u64 0, .int .u64 0, .int .u64 0, .int .u64 0, .int .u64 0, .int .u64 0, .int .u64 0]) t16 t16 w fun t17 w =>
 Hd wb1 w ∧ ((O ((fillW Try.prog 145 [(0, t13), (1, t17), (2, t22), (3, t27)]).map .agg) fun t28 =>
 Hd wb1 w ∧ ((AL (.cells (Value.cells t28) 145) w fun t29 w =>
 Hd wb1 w ∧ (AL (.cells #[.pointer none] 112) w fun t3 w =>
 Hd wb1 w ∧ (ST Try.prog 112 t3 t29 w fun _ w =>
 Hd wb1 w ∧ (j30_0 R t1 t3 w)))) ∧
 (AL (.cells #[.pointer none] 112) w fun t3 w =>
 Hd wb1 w ∧ (AL (.cells (Value.cells t28) 145) w fun t29 w =>
 Hd wb1 w ∧ (ST Try.prog 112 t3 t29 w fun _ w =>
 Hd wb1 w ∧ (j30_0 R t1 t3 w)))))) ∧
 (AL (.cells #[.pointer none] 112) w fun t3 w =>
 Hd wb1 w ∧ (O ((fillW Try.prog 145 [(0, t13), (1, t17), (2, t22), (3, t27)]).map .agg) fun t28 =>
 Hd wb1 w ∧ (AL (.cells (Value.cells t28) 145) w fun t29 w =>
 Hd wb1 w ∧ (ST Try.prog 112 t3 t29 w fun _ w =>
 Hd wb1 w ∧ (j30_0 R t1 t3 w))))))) ∧
 (AL (.cells #[.pointer none] 112) w fun t3 w =>
 Hd wb1 w ∧ (MS 149 19 152 (.agg #[.int .u64 0, .int .u64 0, .int .u64 0, .int .u64 0, .int .u64 0, .int .u64 0, .int .u64 0, .int .u64 0, .int .u64 0, .int .u64 0, .int .u64 0, .int .u64 0, .int .u64 0, .int .u64 0, .int .u64 0, .int .u64 0, .int .u64 0, .int .u64 0, .int .u64 0]) t16 t16 w fun t17 w =>
 Hd wb1 w ∧ (O ((fillW Try.prog 145 [(0, t13), (1, t17), (2, t22), (3, t27)]).map .agg) fun t28 =>
 Hd wb1 w ∧ (AL (.cells (Value.cells t28) 145) w fun t29 w =>
 Hd wb1 w ∧ (ST Try.prog 112 t3 t29 w fun _ w =>
 Hd wb1 w ∧ (j30_0 R t1 t3 w)))))))) ∧
 (AL (.cells #[.pointer none] 112) w fun t3 w =>
 Hd wb1 w ∧ ((MS 149 19 152 (.agg #[.int .u64 0, .int .u64 0, .int .u64 0, .int .u64 0, .int .u64 0, .int .u64 0, .int .u64 0, .int .u64 0, .int .u64 0, .int .u64 0, .int .u64 0, .int .u64 0, .int .u64 0, .int .u64 0, .int .u64 0, .int .u64 0, .int .u64 0, .int .u64 0, .int .u64 0]) t16 t16 w fun t17 w =>
 Hd wb1 w ∧ (MS 3 1 8 (.int .i64 0) t26 t26 w fun t27 w =>
 Hd wb1 w ∧ (O ((fillW Try.prog 145 [(0, t13), (1, t17), (2, t22), (3, t27)]).map .agg) fun t28 =>
 Hd wb1 w ∧ (AL (.cells (Value.cells t28) 145) w fun t29 w =>
 Hd wb1 w ∧ (ST Try.prog 112 t3 t29 w fun _ w =>
 Hd wb1 w ∧ (j30_0 R t1 t3 w)))))) ∧
 (MS 3 1 8 (.int .i64 0) t26 t26 w fun t27 w =>
 Hd wb1 w ∧ (MS 149 19 152 (.agg #[.int .u64 0, .int .u64 0, .int .u64 0, .int .u64 0, .int .u64 0, .int .u64 0, .int .u64 0, .int .u64 0, .int .u64 0, .int .u64 0, .int .u64 0, .int .u64 0, .int .u64 0, .int .u64 0, .int .u64 0, .int .u64 0, .int .u64 0, .int .u64 0, .int .u64 0]) t16 t16 w fun t17 w =>
 Hd wb1 w ∧ (O ((fillW Try.prog 145 [(0, t13), (1, t17), (2, t22), (3, t27)]).map .agg) fun t28 =>
 Hd wb1 w ∧ (AL (.cells (Value.cells t28) 145) w fun t29 w =>
 Hd wb1 w ∧ (ST Try.prog 112 t3 t29 w fun _ w =>
 Hd wb1 w ∧ (j30_0 R t1 t3 w)))))))))) ∧
 (MS 3 1 8 (.int .i64 0) t26 t26 wb1 fun t27 w =>
 Hd wb1 w ∧ ((MS 149 19 152 (.agg #[.int .u64 0, .int .u64 0, .int .u64 0, .int .u64 0, .int .u64 0, .int .u64 0, .int .u64 0, .int .u64 0, .int .u64 0, .int .u64 0, .int .u64 0, .int .u64 0, .int .u64 0, .int .u64 0, .int .u64 0, .int .u64 0, .int .u64 0, .int .u64 0, .int .u64 0]) t16 t16 w fun t17 w =>
 Hd wb1 w ∧ ((MS 3 1 8 (.int .i64 0) t21 t21 w fun t22 w =>
 Hd wb1 w ∧ ((O ((fillW Try.prog 145 [(0, t13), (1, t17), (2, t22), (3, t27)]).map .agg) fun t28 =>
 Hd wb1 w ∧ ((AL (.cells (Value.cells t28) 145) w fun t29 w =>
 Hd wb1 w ∧ (AL (.cells #[.pointer none] 112) w fun t3 w =>
 Hd wb1 w ∧ (ST Try.prog 112 t3 t29 w fun _ w =>
 Hd wb1 w ∧ (j30_0 R t1 t3 w)))) ∧
 (AL (.cells #[.pointer none] 112) w fun t3 w =>
 Hd wb1 w ∧ (AL (.cells (Value.cells t28) 145) w fun t29 w =>
 Hd wb1 w ∧ (ST Try.prog 112 t3 t29 w fun _ w =>
 Hd wb1 w ∧ (j30_0 R t1 t3 w)))))) ∧
 (AL (.cells #[.pointer none] 112) w fun t3 w =>
 Hd wb1 w ∧ (O ((fillW Try.prog 145 [(0, t13), (1, t17), (2, t22), (3, t27)]).map .agg) fun t28 =>
 Hd wb1 w ∧ (AL (.cells (Value.cells t28) 145) w fun t29 w =>
 Hd wb1 w ∧ (ST Try.prog 112 t3 t29 w fun _ w =>
 Hd wb1 w ∧ (j30_0 R t1 t3 w))))))) ∧
 (AL (.cells #[.pointer none] 112) w fun t3 w =>
 Hd wb1 w ∧ (MS 3 1 8 (.int .i64 0) t21 t21 w fun t22 w =>
 Hd wb1 w ∧ (O ((fillW Try.prog 145 [(0, t13), (1, t17), (2, t22), (3, t27)]).map .agg) fun t28 =>
 Hd wb1 w ∧ (AL (.cells (Value.cells t28) 145) w fun t29 w =>
 Hd wb1 w ∧ (ST Try.prog 112 t3 t29 w fun _ w =>
 Hd wb1 w ∧ (j30_0 R t1 t3 w)))))))) ∧
 (MS 3 1 8 (.int .i64 0) t21 t21 w fun t22 w =>
 Hd wb1 w ∧ ((MS 149 19 152 (.agg #[.int .u64 0, .int .u64 0, .int .u64 0, .int .u64 0, .int .u64 0, .int .u64 0, .int .u64 0, .int .u64 0, .int .u64 0, .int .u64 0, .int .u64 0, .int .u64 0, .int .u64 0, .int .u64 0, .int .u64 0, .int .u64 0, .int .u64 0, .int .u64 0, .int .u64 0]) t16 t16 w fun t17 w =>
 Hd wb1 w ∧ ((O ((fillW Try.prog 145 [(0, t13), (1, t17), (2, t22), (3, t27)]).map .agg) fun t28 =>
 Hd wb1 w ∧ ((AL (.cells (Value.cells t28) 145) w fun t29 w =>
 Hd wb1 w ∧ (AL (.cells #[.pointer none] 112) w fun t3 w =>
 Hd wb1 w ∧ (ST Try.prog 112 t3 t29 w fun _ w =>
 Hd wb1 w ∧ (j30_0 R t1 t3 w)))) ∧
 (AL (.cells #[.pointer none] 112) w fun t3 w =>
 Hd wb1 w ∧ (AL (.cells (Value.cells t28) 145) w fun t29 w =>
 Hd wb1 w ∧ (ST Try.prog 112 t3 t29 w fun _ w =>
 Hd wb1 w ∧ (j30_0 R t1 t3 w)))))) ∧
 (AL (.cells #[.pointer none] 112) w fun t3 w =>
 Hd wb1 w ∧ (O ((fillW Try.prog 145 [(0, t13), (1, t17), (2, t22), (3, t27)]).map .agg) fun t28 =>
 Hd wb1 w ∧ (AL (.cells (Value.cells t28) 145) w fun t29 w =>
 Hd wb1 w ∧ (ST Try.prog 112 t3 t29 w fun _ w =>
 Hd wb1 w ∧ (j30_0 R t1 t3 w))))))) ∧
 (AL (.cells #[.pointer none] 112) w fun t3 w =>
 Hd wb1 w ∧ (MS 149 19 152 (.agg #[.int .u64 0, .int .u64 0, .int .u64 0, .int .u64 0, .int .u64 0, .int .u64 0, .int .u64 0, .int .u64 0, .int .u64 0, .int .u64 0, .int .u64 0, .int .u64 0, .int .u64 0, .int .u64 0, .int .u64 0, .int .u64 0, .int .u64 0, .int .u64 0, .int .u64 0]) t16 t16 w fun t17 w =>
 Hd wb1 w ∧ (O ((fillW Try.prog 145 [(0, t13), (1, t17), (2, t22), (3, t27)]).map .agg) fun t28 =>
 Hd wb1 w ∧ (AL (.cells (Value.cells t28) 145) w fun t29 w =>
 Hd wb1 w ∧ (ST Try.prog 112 t3 t29 w fun _ w =>
 Hd wb1 w ∧ (j30_0 R t1 t3 w)))))))) ∧
 (AL (.cells #[.pointer none] 112) w fun t3 w =>
 Hd wb1 w ∧ ((MS 149 19 152 (.agg #[.int .u64 0, .int .u64 0, .int .u64 0, .int .u64 0, .int .u64 0, .int .u64 0, .int .u64 0, .int .u64 0, .int .u64 0, .int .u64 0, .int .u64 0, .int .u64 0, .int .u64 0, .int .u64 0, .int .u64 0, .int .u64 0, .int .u64 0, .int .u64 0, .int .u64 0]) t16 t16 w fun t17 w =>
 Hd wb1 w ∧ (MS 3 1 8 (.int .i64 0) t21 t21 w fun t22 w =>
 Hd wb1 w ∧ (O ((fillW Try.prog 145 [(0, t13), (1, t17), (2, t22), (3, t27)]).map .agg) fun t28 =>
 Hd wb1 w ∧ (AL (.cells (Value.cells t28) 145) w fun t29 w =>
 Hd wb1 w ∧ (ST Try.prog 112 t3 t29 w fun _ w =>
 Hd wb1 w ∧ (j30_0 R t1 t3 w)))))) ∧
 (MS 3 1 8 (.int .i64 0) t21 t21 w fun t22 w =>
 Hd wb1 w ∧ (MS 149 19 152 (.agg #[.int .u64 0, .int .u64 0, .int .u64 0, .int .u64 0, .int .u64 0, .int .u64 0, .int .u64 0, .int .u64 0, .int .u64 0, .int .u64 0, .int .u64 0, .int .u64 0, .int .u64 0, .int .u64 0, .int .u64 0, .int .u64 0, .int .u64 0, .int .u64 0, .int .u64 0]) t16 t16 w fun t17 w =>
 Hd wb1 w ∧ (O ((fillW Try.prog 145 [(0, t13), (1, t17), (2, t22), (3, t27)]).map .agg) fun t28 =>
 Hd wb1 w ∧ (AL (.cells (Value.cells t28) 145) w fun t29 w =>
 Hd wb1 w ∧ (ST Try.prog 112 t3 t29 w fun _ w =>
 Hd wb1 w ∧ (j30_0 R t1 t3 w)))))))))) ∧
 (AL (.cells #[.pointer none] 112) wb1 fun t3 w =>
 Hd wb1 w ∧ ((MS 149 19 152 (.agg #[.int .u64 0, .int .u64 0, .int .u64 0, .int .u64 0, .int .u64 0, .int .u64 0, .int .u64 0, .int .u64 0, .int .u64 0, .int .u64 0, .int .u64 0, .int .u64 0, .int .u64 0, .int .u64 0, .int .u64 0, .int .u64 0, .int .u64 0, .int .u64 0, .int .u64 0]) t16 t16 w fun t17 w =>
 Hd wb1 w ∧ ((MS 3 1 8 (.int .i64 0) t21 t21 w fun t22 w =>
 Hd wb1 w ∧ (MS 3 1 8 (.int .i64 0) t26 t26 w fun t27 w =>
 Hd wb1 w ∧ (O ((fillW Try.prog 145 [(0, t13), (1, t17), (2, t22), (3, t27)]).map .agg) fun t28 =>
 Hd wb1 w ∧ (AL (.cells (Value.cells t28) 145) w fun t29 w =>
 Hd wb1 w ∧ (ST Try.prog 112 t3 t29 w fun _ w =>
 Hd wb1 w ∧ (j30_0 R t1 t3 w)))))) ∧
 (MS 3 1 8 (.int .i64 0) t26 t26 w fun t27 w =>
 Hd wb1 w ∧ (MS 3 1 8 (.int .i64 0) t21 t21 w fun t22 w =>
 Hd wb1 w ∧ (O ((fillW Try.prog 145 [(0, t13), (1, t17), (2, t22), (3, t27)]).map .agg) fun t28 =>
 Hd wb1 w ∧ (AL (.cells (Value.cells t28) 145) w fun t29 w =>
 Hd wb1 w ∧ (ST Try.prog 112 t3 t29 w fun _ w =>
 Hd wb1 w ∧ (j30_0 R t1 t3 w)))))))) ∧
 (MS 3 1 8 (.int .i64 0) t21 t21 w fun t22 w =>
 Hd wb1 w ∧ ((MS 149 19 152 (.agg #[.int .u64 0, .int .u64 0, .int .u64 0, .int .u64 0, .int .u64 0, .int .u64 0, .int .u64 0, .int .u64 0, .int .u64 0, .int .u64 0, .int .u64 0, .int .u64 0, .int .u64 0, .int .u64 0, .int .u64 0, .int .u64 0, .int .u64 0, .int .u64 0, .int .u64 0]) t16 t16 w fun t17 w =>
 Hd wb1 w ∧ (MS 3 1 8 (.int .i64 0) t26 t26 w fun t27 w =>
 Hd wb1 w ∧ (O ((fillW Try.prog 145 [(0, t13), (1, t17), (2, t22), (3, t27)]).map .agg) fun t28 =>
 Hd wb1 w ∧ (AL (.cells (Value.cells t28) 145) w fun t29 w =>
 Hd wb1 w ∧ (ST Try.prog 112 t3 t29 w fun _ w =>
 Hd wb1 w ∧ (j30_0 R t1 t3 w)))))) ∧
 (MS 3 1 8 (.int .i64 0) t26 t26 w fun t27 w =>
 Hd wb1 w ∧ (MS 149 19 152 (.agg #[.int .u64 0, .int .u64 0, .int .u64 0, .int .u64 0, .int .u64 0, .int .u64 0, .int .u64 0, .int .u64 0, .int .u64 0, .int .u64 0, .int .u64 0, .int .u64 0, .int .u64 0, .int .u64 0, .int .u64 0, .int .u64 0, .int .u64 0, .int .u64 0, .int .u64 0]) t16 t16 w fun t17 w =>
 Hd wb1 w ∧ (O ((fillW Try.prog 145 [(0, t13), (1, t17), (2, t22), (3, t27)]).map .agg) fun t28 =>
 Hd wb1 w ∧ (AL (.cells (Value.cells t28) 145) w fun t29 w =>
 Hd wb1 w ∧ (ST Try.prog 112 t3 t29 w fun _ w =>
 Hd wb1 w ∧ (j30_0 R t1 t3 w)))))))) ∧
 (MS 3 1 8 (.int .i64 0) t26 t26 w fun t27 w =>
 Hd wb1 w ∧ ((MS 149 19 152 (.agg #[.int .u64 0, .int .u64 0, .int .u64 0, .int .u64 0, .int .u64 0, .int .u64 0, .int .u64 0, .int .u64 0, .int .u64 0, .int .u64 0, .int .u64 0, .int .u64 0, .int .u64 0, .int .u64 0, .int .u64 0, .int .u64 0, .int .u64 0, .int .u64 0, .int .u64 0]) t16 t16 w fun t17 w =>
 Hd wb1 w ∧ (MS 3 1 8 (.int .i64 0) t21 t21 w fun t22 w =>
 Hd wb1 w ∧ (O ((fillW Try.prog 145 [(0, t13), (1, t17), (2, t22), (3, t27)]).map .agg) fun t28 =>
 Hd wb1 w ∧ (AL (.cells (Value.cells t28) 145) w fun t29 w =>
 Hd wb1 w ∧ (ST Try.prog 112 t3 t29 w fun _ w =>
 Hd wb1 w ∧ (j30_0 R t1 t3 w)))))) ∧
 (MS 3 1 8 (.int .i64 0) t21 t21 w fun t22 w =>
 Hd wb1 w ∧ (MS 149 19 152 (.agg #[.int .u64 0, .int .u64 0, .int .u64 0, .int .u64 0, .int .u64 0, .int .u64 0, .int .u64 0, .int .u64 0, .int .u64 0, .int .u64 0, .int .u64 0, .int .u64 0, .int .u64 0, .int .u64 0, .int .u64 0, .int .u64 0, .int .u64 0, .int .u64 0, .int .u64 0]) t16 t16 w fun t17 w =>
 Hd wb1 w ∧ (O ((fillW Try.prog 145 [(0, t13), (1, t17), (2, t22), (3, t27)]).map .agg) fun t28 =>
 Hd wb1 w ∧ (AL (.cells (Value.cells t28) 145) w fun t29 w =>
 Hd wb1 w ∧ (ST Try.prog 112 t3 t29 w fun _ w =>
 Hd wb1 w ∧ (j30_0 R t1 t3 w))))))))))
def p30 : Plan := .seq (.leaf) (.scope (.join [3] [1] (.held [0, 0, 2, 6, 14, 0, 32, 96, 224, 480, 0, 1024, 3072, 7168, 15360, 32767, 65535, 0, 262143] [0, 1, 2, 3, 5, 6, 7, 8, 10, 11, 12, 13] (.alt 4 (.alt 9 (.alt 14 (.alt 15 (.alt 16 (.take 17 (.take 18 (.done))) (.take 17 (.take 16 (.take 18 (.done))))) (.take 17 (.take 15 (.take 16 (.take 18 (.done)))))) (.take 17 (.take 14 (.take 15 (.take 16 (.take 18 (.done))))))) (.alt 14 (.alt 9 (.alt 15 (.alt 16 (.take 17 (.take 18 (.done))) (.take 17 (.take 16 (.take 18 (.done))))) (.take 17 (.take 15 (.take 16 (.take 18 (.done)))))) (.take 17 (.take 9 (.take 15 (.take 16 (.take 18 (.done))))))) (.take 17 (.alt 9 (.take 14 (.take 15 (.take 16 (.take 18 (.done))))) (.take 14 (.take 9 (.take 15 (.take 16 (.take 18 (.done)))))))))) (.alt 9 (.alt 4 (.alt 14 (.alt 15 (.alt 16 (.take 17 (.take 18 (.done))) (.take 17 (.take 16 (.take 18 (.done))))) (.take 17 (.take 15 (.take 16 (.take 18 (.done)))))) (.take 17 (.take 14 (.take 15 (.take 16 (.take 18 (.done))))))) (.alt 14 (.alt 4 (.alt 15 (.alt 16 (.take 17 (.take 18 (.done))) (.take 17 (.take 16 (.take 18 (.done))))) (.take 17 (.take 15 (.take 16 (.take 18 (.done)))))) (.take 17 (.take 4 (.take 15 (.take 16 (.take 18 (.done))))))) (.take 17 (.alt 4 (.take 14 (.take 15 (.take 16 (.take 18 (.done))))) (.take 14 (.take 4 (.take 15 (.take 16 (.take 18 (.done)))))))))) (.alt 14 (.alt 4 (.alt 9 (.alt 15 (.alt 16 (.take 17 (.take 18 (.done))) (.take 17 (.take 16 (.take 18 (.done))))) (.take 17 (.take 15 (.take 16 (.take 18 (.done)))))) (.take 17 (.take 9 (.take 15 (.take 16 (.take 18 (.done))))))) (.alt 9 (.alt 4 (.alt 15 (.alt 16 (.take 17 (.take 18 (.done))) (.take 17 (.take 16 (.take 18 (.done))))) (.take 17 (.take 15 (.take 16 (.take 18 (.done)))))) (.take 17 (.take 4 (.take 15 (.take 16 (.take 18 (.done))))))) (.take 17 (.alt 4 (.take 9 (.take 15 (.take 16 (.take 18 (.done))))) (.take 9 (.take 4 (.take 15 (.take 16 (.take 18 (.done)))))))))) (.take 17 (.alt 4 (.alt 9 (.take 14 (.take 15 (.take 16 (.take 18 (.done))))) (.take 14 (.take 9 (.take 15 (.take 16 (.take 18 (.done))))))) (.alt 9 (.alt 4 (.take 14 (.take 15 (.take 16 (.take 18 (.done))))) (.take 14 (.take 4 (.take 15 (.take 16 (.take 18 (.done))))))) (.take 14 (.alt 4 (.take 9 (.take 15 (.take 16 (.take 18 (.done))))) (.take 9 (.take 4 (.take 15 (.take 16 (.take 18 (.done))))))))))))))) (.seq (.seq (.leaf) (.block (.loop [35] [1, 3, 34] (.seq (.leaf) (.seq (.cond (.leaf) (.leaf)) (.seq (.block (.seq (.leaf) (.ord [0, 1, 3, 7, 0, 0, 32, 96, 224, 0, 511, 1535, 4095, 8191]))) (.leaf))))))) (.seq (.seq (.leaf) (.block (.loop [54] [1, 3, 52, 53] (.seq (.leaf) (.seq (.cond (.leaf) (.leaf)) (.join [] [1, 3, 52, 53, 54] (.block (.seq (.leaf) (.seq (.leaf) (.block (.seq (.leaf) (.cond (.ord [0, 1, 3, 7, 0, 16, 0, 127, 255]) (.seq (.leaf) (.cond (.ord [0, 1, 3, 7, 0, 16, 0, 127, 255]) (.leaf))))))))) (.leaf))))))) (.seq (.leaf) (.seq (.leaf) (.seq (.leaf) (.seq (.leaf) (.seq (.block (.loop [] [1, 3, 7] (.block (.seq (.leaf) (.seq (.seq (.leaf) (.block (.loop [8, 9] [1, 3, 7] (.seq (.seq (.leaf) (.cond (.leaf) (.leaf))) (.seq (.block (.seq (.leaf) (.block (.loop [8, 10] [1, 3, 7, 9] (.seq (.seq (.leaf) (.cond (.leaf) (.leaf))) (.seq (.block (.seq (.leaf) (.block (.loop [8, 105] [1, 3, 7, 9, 10, 103, 104] (.seq (.leaf) (.seq (.cond (.leaf) (.leaf)) (.join [8] [1, 3, 7, 9, 10, 103, 104, 105] (.block (.seq (.leaf) (.join [130] [1, 3, 7, 8, 9, 10, 103, 104, 105] (.ord [0, 0, 0, 7, 15, 31, 31, 95, 223, 479, 31, 2015, 4063, 31, 8223, 24607, 57375, 31, 253983, 516127, 1048575, 2097151]) (.cond (.leaf) (.leaf))))) (.leaf)))))))) (.leaf))))))) (.leaf)))))) (.seq (.seq (.leaf) (.cond (.leaf) (.leaf))) (.leaf))))))) (.seq (.leaf) (.leaf)))))))))))
theorem e30 (R : Value → World → Prop) (t0 : Value) (w : World) : cw Try.prog 137 p30 (Try.f30.body.getD .skip) (fnQ Try.prog Try.f30.results.toList R) (argE 0 [t0]) w = c30 R t0 w := by kernel_rfl
theorem b30 : Try.f30.body = some (Try.f30.body.getD .skip) := by kernel_rfl
theorem s30 {R : Value → World → Prop} {t0 : Value} {w : World} (h : c30 R t0 w) : Cl Try.prog 30 [t0] w R :=
  calls_of_cw mixed p30 Try.func30 b30 Try.ntmps30 (by simp) (by rw [e30]; exact h)

end Go.Proofs.Ytedcfkigfcobaaa
end
/- Printed by wip/tools/gen.py: the bodies of functions 31 36 17 18 7 19 64 37 65 38 20 with named temporaries, tied to the loaded program. -/
section
set_option maxRecDepth 100000
namespace Go.Proofs.Ytedcfkigfcobaaa
open Go Go.Proofs
def c31 (R : Value → World → Prop) (t0 : Value) (t1 : Value) (t2 : Value) (w : World) : Prop :=
 O (bi .geq t1 (.int .i64 0)) fun t8 =>
 Bc t8
 (O (bi .geq t2 (.int .i64 0)) fun t11 =>
 Bc t11
 (O (nC t0) fun t15 =>
 O (fA 2 t15) fun t16 =>
 O (rd1 t16 w) fun t17 =>
 O (iS 19 t17 t1) fun t19 =>
 Cl Try.prog 63 [t19, t2] w fun t21 w =>
 R t21 w)
 (R (.bool false) w))
 (R (.bool false) w)
def p31 : Plan := .seq (.leaf) (.seq (.leaf) (.leaf))
theorem e31 (R : Value → World → Prop) (t0 : Value) (t1 : Value) (t2 : Value) (w : World) : cw Try.prog 23 p31 (Try.f31.body.getD .skip) (fnQ Try.prog Try.f31.results.toList R) (argE 0 [t0, t1, t2]) w = c31 R t0 t1 t2 w := by kernel_rfl
theorem b31 : Try.f31.body = some (Try.f31.body.getD .skip) := by kernel_rfl
theorem s31 {R : Value → World → Prop} {t0 : Value} {t1 : Value} {t2 : Value} {w : World} (h : c31 R t0 t1 t2 w) : Cl Try.prog 31 [t0, t1, t2] w R :=
  calls_of_cw mixed p31 Try.func31 b31 Try.ntmps31 (by simp) (by rw [e31]; exact h)
def j36_0 (R : Value → World → Prop) (t14 : Value) (I0 : Value → Value → World → Prop) (μ0 : Value → Value → World → Nat) (t3 : Value) (wh0 : World) (t3_1 : Value) (w : World) : Prop :=
 O (bi .add t14 (.int .i64 1)) fun t69 =>
 I0 t3_1 t69 w ∧ μ0 t3_1 t69 w < μ0 t3 t14 wh0
def j36_1 (R : Value → World → Prop) (t28 : Value) (I1 : Value → Value → World → Prop) (μ1 : Value → Value → World → Nat) (t3_1 : Value) (wh1 : World) (t3_2 : Value) (w : World) : Prop :=
 O (bi .add t28 (.int .i64 1)) fun t58 =>
 I1 t3_2 t58 w ∧ μ1 t3_2 t58 w < μ1 t3_1 t28 wh1
def j36_2 (R : Value → World → Prop) (t31 : Value) (t14 : Value) (t3_1 : Value) (t28 : Value) (I1 : Value → Value → World → Prop) (μ1 : Value → Value → World → Nat) (wh1 : World) (t51 : Value) (w : World) : Prop :=
 Bc t51
 (O ((fillW Try.prog 89 [(0, t31), (1, t14)]).map .agg) fun t55 =>
 BS 89 2 1 (.agg #[.int .i64 0, .int .i64 0]) [(0, t55)] w fun t56 w =>
 AP Try.prog #[84, 84] 84 [t3_1, t56] w fun t57 w =>
 j36_1 R t28 I1 μ1 t3_1 wh1 t57 w)
 (j36_1 R t28 I1 μ1 t3_1 wh1 t3_1 w)
def c36 (R : Value → World → Prop) (t0 : Value) (w : World) : Prop :=
 AL (.cells (Value.cells t0) 52) w fun t1 w =>
 MM w fun t10 w =>
 O (fA 1 t1) fun t11 =>
 O (rd1 t11 w) fun t12 =>
 O (lenS t12) fun t13 =>
 ∃ (I0 : Value → Value → World → Prop) (μ0 : Value → Value → World → Nat), I0 (.slice none 0 0) (.int .i64 0) w ∧ ∀ (t3 : Value) (t14 : Value) wh0, I0 t3 t14 wh0 →
 O (bi .lss t14 t13) fun t15 =>
 Bc t15
 (O (iS 8 t12 t14) fun t17 =>
 O (rdN 8 t17 wh0) fun t18 =>
 AL (.cells #[.int .i64 0, .int .i64 0, .int .i64 0, .int .i64 0, .int .i64 0, .int .i64 0, .int .i64 0, .bool false] 67) wh0 fun t6 w =>
 ST Try.prog 67 t6 t18 w fun _ w =>
 O (fA 0 t6) fun t19 =>
 O (rd1 t19 w) fun t20 =>
 O (bi .neq t20 (.int .i64 3)) fun t21 =>
 Bc t21
 (j36_0 R t14 I0 μ0 t3 wh0 t3 w)
 (O (fA 3 t6) fun t23 =>
 O (fA 1 t23) fun t24 =>
 O (rdN 3 t24 w) fun t25 =>
 Rn Try.prog (Instr.lookup 150 t10 t25 false) w fun t26 w =>
 O (lenS t26) fun t27 =>
 ∃ (I1 : Value → Value → World → Prop) (μ1 : Value → Value → World → Nat), I1 t3 (.int .i64 0) w ∧ ∀ (t3_1 : Value) (t28 : Value) wh1, I1 t3_1 t28 wh1 →
 O (bi .lss t28 t27) fun t29 =>
 Bc t29
 (O (iS 1 t26 t28) fun t30 =>
 O (rd1 t30 wh1) fun t31 =>
 O (fA 1 t1) fun t32 =>
 O (rd1 t32 wh1) fun t33 =>
 O (iS 8 t33 t31) fun t35 =>
 O (rdN 8 t35 wh1) fun t36 =>
 AL (.cells #[.int .i64 0, .int .i64 0, .int .i64 0, .int .i64 0, .int .i64 0, .int .i64 0, .int .i64 0, .bool false] 67) wh1 fun t9 w =>
 ST Try.prog 67 t9 t36 w fun _ w =>
 O (fA 1 t9) fun t37 =>
 O (rd1 t37 w) fun t38 =>
 O (fA 1 t6) fun t39 =>
 O (rd1 t39 w) fun t40 =>
 O (bi .neq t38 t40) fun t41 =>
 Bc t41
 (O (fA 3 t6) fun t43 =>
 O (fA 4 t43) fun t44 =>
 O (rd1 t44 w) fun t45 =>
 Bc t45
 (j36_2 R t31 t14 t3_1 t28 I1 μ1 wh1 (.bool true) w)
 (O (fA 3 t9) fun t47 =>
 O (fA 4 t47) fun t48 =>
 O (rd1 t48 w) fun t49 =>
 j36_2 R t31 t14 t3_1 t28 I1 μ1 wh1 t49 w))
 (j36_2 R t31 t14 t3_1 t28 I1 μ1 wh1 (.bool false) w))
 (O (fA 3 t6) fun t60 =>
 O (fA 1 t60) fun t61 =>
 O (rdN 3 t61 wh1) fun t62 =>
 BS 3 1 1 (.int .i64 0) [(0, t14)] wh1 fun t65 w =>
 Rn Try.prog (Instr.mapEntry 150 t10 t62) w fun t66 w =>
 O (exv t66 0) fun t63 =>
 AP Try.prog #[39, 39] 39 [t63, t65] w fun t67 w =>
 O (exv t66 1) fun t68 =>
 Rn Try.prog (Instr.entryStore 150 t10 t68 t67) w fun _ w =>
 j36_0 R t14 I0 μ0 t3 wh0 t3_1 w)))
 (R t3 wh0)
def p36 : Plan := .seq (.leaf) (.seq (.leaf) (.seq (.leaf) (.seq (.seq (.leaf) (.block (.loop [3, 14] [1, 4, 12, 13] (.seq (.leaf) (.seq (.cond (.leaf) (.leaf)) (.join [3] [1, 4, 12, 13, 14] (.block (.seq (.leaf) (.seq (.seq (.leaf) (.cond (.leaf) (.leaf))) (.seq (.seq (.leaf) (.block (.loop [3, 28] [1, 4, 5, 6, 12, 13, 14, 26, 27] (.seq (.leaf) (.seq (.cond (.leaf) (.leaf)) (.join [3] [1, 4, 5, 6, 12, 13, 14, 26, 27, 28] (.block (.seq (.leaf) (.seq (.leaf) (.join [51] [1, 3, 4, 5, 6, 8, 12, 13, 14, 26, 27, 28] (.leaf) (.cond (.leaf) (.leaf)))))) (.leaf))))))) (.leaf))))) (.leaf))))))) (.seq (.leaf) (.leaf)))))
theorem e36 (R : Value → World → Prop) (t0 : Value) (w : World) : cw Try.prog 71 p36 (Try.f36.body.getD .skip) (fnQ Try.prog Try.f36.results.toList R) (argE 0 [t0]) w = c36 R t0 w := by kernel_rfl
theorem b36 : Try.f36.body = some (Try.f36.body.getD .skip) := by kernel_rfl
theorem s36 {R : Value → World → Prop} {t0 : Value} {w : World} (h : c36 R t0 w) : Cl Try.prog 36 [t0] w R :=
  calls_of_cw mixed p36 Try.func36 b36 Try.ntmps36 (by simp) (by rw [e36]; exact h)
def j17_0 (R : Value → World → Prop) (t19 : Value) (I0 : Value → Value → World → Prop) (μ0 : Value → Value → World → Nat) (t6 : Value) (wh0 : World) (t6_1 : Value) (w : World) : Prop :=
 O (bi .add t19 (.int .i64 1)) fun t43 =>
 I0 t6_1 t43 w ∧ μ0 t6_1 t43 w < μ0 t6 t19 wh0
def j17_1 (R : Value → World → Prop) (t8 : Value) (t6 : Value) (t19 : Value) (I0 : Value → Value → World → Prop) (μ0 : Value → Value → World → Nat) (wh0 : World) (t38 : Value) (w : World) : Prop :=
 Bc t38
 (O (rdN 2 t8 w) fun t40 =>
 BS 89 2 1 (.agg #[.int .i64 0, .int .i64 0]) [(0, t40)] w fun t41 w =>
 AP Try.prog #[84, 84] 84 [t6, t41] w fun t42 w =>
 j17_0 R t19 I0 μ0 t6 wh0 t42 w)
 (j17_0 R t19 I0 μ0 t6 wh0 t6 w)
def c17 (R : Value → World → Prop) (t0 : Value) (w : World) : Prop :=
 AL (.cells (Value.cells t0) 52) w fun t1 w =>
 O (rdN 2 t1 w) fun t9 =>
 Cl Try.prog 29 [t9] w fun t10 w =>
 O (bi .neq t10 (.int .i64 0)) fun t12 =>
 Bc t12
 (R (.tuple #[(.slice none 0 0), t10]) w)
 (O (rdN 2 t1 w) fun t14 =>
 Cl Try.prog 30 [t14] w fun t15 w =>
 O (rdN 2 t1 w) fun t16 =>
 Cl Try.prog 36 [t16] w fun t17 w =>
 O (lenS t17) fun t18 =>
 ∃ (I0 : Value → Value → World → Prop) (μ0 : Value → Value → World → Nat), I0 (.slice none 0 0) (.int .i64 0) w ∧ ∀ (t6 : Value) (t19 : Value) wh0, I0 t6 t19 wh0 →
 O (bi .lss t19 t18) fun t20 =>
 Bc t20
 (O (iS 2 t17 t19) fun t21 =>
 O (rdN 2 t21 wh0) fun t22 =>
 AL (.cells #[.int .i64 0, .int .i64 0] 89) wh0 fun t8 w =>
 ST Try.prog 89 t8 t22 w fun _ w =>
 O (fA 0 t8) fun t24 =>
 O (rd1 t24 w) fun t25 =>
 O (fA 1 t8) fun t26 =>
 O (rd1 t26 w) fun t27 =>
 Cl Try.prog 31 [t15, t25, t27] w fun t28 w =>
 O (un .not t28) fun t29 =>
 Bc t29
 (O (fA 1 t8) fun t32 =>
 O (rd1 t32 w) fun t33 =>
 O (fA 0 t8) fun t34 =>
 O (rd1 t34 w) fun t35 =>
 Cl Try.prog 31 [t15, t33, t35] w fun t36 w =>
 O (un .not t36) fun t37 =>
 j17_1 R t8 t6 t19 I0 μ0 wh0 t37 w)
 (j17_1 R t8 t6 t19 I0 μ0 wh0 (.bool false) w))
 (R (.tuple #[t6, (.int .i64 0)]) wh0))
def p17 : Plan := .seq (.leaf) (.seq (.seq (.leaf) (.seq (.leaf) (.cond (.seq (.leaf) (.leaf)) (.leaf)))) (.seq (.leaf) (.seq (.leaf) (.seq (.seq (.leaf) (.block (.loop [6, 19] [5, 17, 18] (.seq (.leaf) (.seq (.cond (.leaf) (.leaf)) (.join [6] [5, 17, 18, 19] (.block (.seq (.leaf) (.join [38] [5, 6, 8, 17, 18, 19] (.leaf) (.cond (.leaf) (.leaf))))) (.leaf))))))) (.seq (.leaf) (.leaf))))))
theorem e17 (R : Value → World → Prop) (t0 : Value) (w : World) : cw Try.prog 45 p17 (Try.f17.body.getD .skip) (fnQ Try.prog Try.f17.results.toList R) (argE 0 [t0]) w = c17 R t0 w := by kernel_rfl
theorem b17 : Try.f17.body = some (Try.f17.body.getD .skip) := by kernel_rfl
theorem s17 {R : Value → World → Prop} {t0 : Value} {w : World} (h : c17 R t0 w) : Cl Try.prog 17 [t0] w R :=
  calls_of_cw mixed p17 Try.func17 b17 Try.ntmps17 (by simp) (by rw [e17]; exact h)
def c18 (R : Value → World → Prop) (t0 : Value) (w : World) : Prop :=
 AL (.cells #[.slice none 0 0, .slice none 0 0] 52) w fun t2 w =>
 O ((fillW Try.prog 63 [(0, (.int .i64 1))]).map .agg) fun t4 =>
 AL (.cells #[.int .i64 0, .int .i64 0, .int .i64 0] 63) w fun t3 w =>
 ST Try.prog 63 t3 t4 w fun _ w =>
 O ((fillW Try.prog 73 [(0, (.int .i64 1)), (13, (.int .i64 (-1)))]).map .agg) fun t5 =>
 O ((fillW Try.prog 73 [(0, (.int .i64 4)), (5, (.int .i64 1)), (13, (.int .i64 1)), (4, t0)]).map .agg) fun t7 =>
 BS 73 15 2 (.agg #[.int .i64 0, .int .i64 0, .int .i64 0, .int .i64 0, .int .i64 0, .int .i64 0, .int .i64 0, .bool false, .int .i64 0, .int .i64 0, .int .i64 0, .int .i64 0, .int .i64 0, .int .i64 0, .int .i64 0]) [(0, t5), (1, t7)] w fun t8 w =>
 O ((fillW Try.prog 67 [(0, (.int .i64 1)), (1, (.int .i64 1))]).map .agg) fun t9 =>
 O ((fillW Try.prog 67 [(0, (.int .i64 4)), (1, (.int .i64 1)), (2, (.int .i64 2))]).map .agg) fun t10 =>
 O (rdN 3 t3 w) fun t11 =>
 O ((fillW Try.prog 65 [(1, t11), (2, (.bool true))]).map .agg) fun t12 =>
 O ((fillW Try.prog 67 [(0, (.int .i64 3)), (1, (.int .i64 1)), (3, t12)]).map .agg) fun t13 =>
 O ((fillW Try.prog 67 [(0, (.int .i64 2)), (1, (.int .i64 1))]).map .agg) fun t14 =>
 O ((fillW Try.prog 67 [(0, (.int .i64 1)), (1, (.int .i64 2))]).map .agg) fun t15 =>
 O (rdN 3 t3 w) fun t16 =>
 O ((fillW Try.prog 65 [(1, t16)]).map .agg) fun t17 =>
 O ((fillW Try.prog 67 [(0, (.int .i64 3)), (1, (.int .i64 2)), (3, t17)]).map .agg) fun t18 =>
 BS 67 8 6 (.agg #[.int .i64 0, .int .i64 0, .int .i64 0, .int .i64 0, .int .i64 0, .int .i64 0, .int .i64 0, .bool false]) [(0, t9), (1, t10), (2, t13), (3, t14), (4, t15), (5, t18)] w fun t19 w =>
 O ((fillW Try.prog 52 [(0, t8), (1, t19)]).map .agg) fun t20 =>
 ST Try.prog 52 t2 t20 w fun _ w =>
 O (rdN 2 t2 w) fun r0 =>
 R r0 w
def p18 : Plan := .seq (.leaf) (.seq (.leaf) (.seq (.leaf) (.leaf)))
theorem e18 (R : Value → World → Prop) (t0 : Value) (w : World) : cw Try.prog 21 p18 (Try.f18.body.getD .skip) (fnQ Try.prog Try.f18.results.toList R) (argE 0 [t0]) w = c18 R t0 w := by kernel_rfl
theorem b18 : Try.f18.body = some (Try.f18.body.getD .skip) := by kernel_rfl
theorem s18 {R : Value → World → Prop} {t0 : Value} {w : World} (h : c18 R t0 w) : Cl Try.prog 18 [t0] w R :=
  calls_of_cw mixed p18 Try.func18 b18 Try.ntmps18 (by simp) (by rw [e18]; exact h)
def c7 (R : Value → World → Prop)  (w : World) : Prop :=
 Cl Try.prog 18 [(.int .i64 1)] w fun t6 w =>
 Cl Try.prog 17 [t6] w fun t7 w =>
 O (exv t7 0) fun t8 =>
 O (exv t7 1) fun t9 =>
 Cl Try.prog 18 [(.int .i64 0)] w fun t11 w =>
 Cl Try.prog 17 [t11] w fun t12 w =>
 O (exv t12 0) fun t13 =>
 O (exv t12 1) fun t14 =>
 O (bi .eql t9 (.int .i64 0)) fun t16 =>
 Bc t16
 (O (bi .eql t14 (.int .i64 0)) fun t19 =>
 Bc t19
 (O (lenS t8) fun t23 =>
 O (bi .eql t23 (.int .i64 1)) fun t24 =>
 Bc t24
 (O (iS 2 t8 (.int .i64 0)) fun t28 =>
 O (rdN 2 t28 w) fun t29 =>
 O ((fillW Try.prog 89 [(0, (.int .i64 2)), (1, (.int .i64 5))]).map .agg) fun t30 =>
 O (be 2 .eql t29 t30) fun t31 =>
 Bc t31
 (O (lenS t13) fun t35 =>
 O (bi .eql t35 (.int .i64 0)) fun t36 =>
 R t36 w)
 (R (.bool false) w))
 (R (.bool false) w))
 (R (.bool false) w))
 (R (.bool false) w)
def p7 : Plan := .seq (.leaf) (.seq (.leaf) (.seq (.leaf) (.seq (.leaf) (.leaf))))
theorem e7 (R : Value → World → Prop)  (w : World) : cw Try.prog 38 p7 (Try.f7.body.getD .skip) (fnQ Try.prog Try.f7.results.toList R) (argE 0 []) w = c7 R  w := by kernel_rfl
theorem b7 : Try.f7.body = some (Try.f7.body.getD .skip) := by kernel_rfl
theorem s7 {R : Value → World → Prop}  {w : World} (h : c7 R  w) : Cl Try.prog 7 [] w R :=
  calls_of_cw mixed p7 Try.func7 b7 Try.ntmps7 (by simp) (by rw [e7]; exact h)
def c19 (R : Value → World → Prop) (t0 : Value) (t1 : Value) (w : World) : Prop :=
 AP Try.prog #[59, 59] 59 [(.slice none 0 0), t1] w fun t8 w =>
 O ((fillW Try.prog 127 [(1, t8)]).map .agg) fun t9 =>
 AL (.cells (Value.cells t9) 127) w fun t10 w =>
 ∃ (I0 : Value → World → Prop) (μ0 : Value → World → Nat), I0 (.int .i64 0) w ∧ ∀ (t6 : Value) wh0, I0 t6 wh0 →
 O (bi .lss t6 t0) fun t13 =>
 Bc t13
 (O (nC t10) fun t18 =>
 O (fA 0 t18) fun t19 =>
 O (rd1 t19 wh0) fun t20 =>
 BS 3 1 1 (.int .i64 0) [(0, (.int .i64 (-1)))] wh0 fun t21 w =>
 AP Try.prog #[39, 39] 39 [t20, t21] w fun t22 w =>
 O (nC t10) fun t23 =>
 O (fA 0 t23) fun t24 =>
 ST Try.prog 39 t24 t22 w fun _ w =>
 O (bi .add t6 (.int .i64 1)) fun t15 =>
 I0 t15 w ∧ μ0 t15 w < μ0 t6 wh0)
 (R t10 wh0)
def p19 : Plan := .seq (.leaf) (.seq (.leaf) (.seq (.seq (.leaf) (.block (.loop [6] [0, 5] (.seq (.seq (.leaf) (.cond (.leaf) (.leaf))) (.seq (.block (.leaf)) (.leaf)))))) (.seq (.leaf) (.leaf))))
theorem e19 (R : Value → World → Prop) (t0 : Value) (t1 : Value) (w : World) : cw Try.prog 26 p19 (Try.f19.body.getD .skip) (fnQ Try.prog Try.f19.results.toList R) (argE 0 [t0, t1]) w = c19 R t0 t1 w := by kernel_rfl
theorem b19 : Try.f19.body = some (Try.f19.body.getD .skip) := by kernel_rfl
theorem s19 {R : Value → World → Prop} {t0 : Value} {t1 : Value} {w : World} (h : c19 R t0 t1 w) : Cl Try.prog 19 [t0, t1] w R :=
  calls_of_cw mixed p19 Try.func19 b19 Try.ntmps19 (by simp) (by rw [e19]; exact h)
def c64 (R : Value → World → Prop) (t0 : Value) (t1 : Value) (t2 : Value) (w : World) : Prop :=
 AL (.cells (Value.cells t0) 30) w fun t3 w =>
 AL (.cells #[.int .i64 0, .int .i64 0, .slice none 0 0] 152) w fun t6 w =>
 O (fA 3 t3) fun t10 =>
 O (rd1 t10 w) fun t11 =>
 O (iS 4 t11 t1) fun t13 =>
 O (fA 2 t13) fun t14 =>
 O (rd1 t14 w) fun t15 =>
 MS 2 1 8 (.int .i64 0) t15 t15 w fun t16 w =>
 O ((fillW Try.prog 152 [(0, t1), (2, t16)]).map .agg) fun t17 =>
 AL (.cells #[.int .i64 0, .int .i64 0, .slice none 0 0] 152) w fun t7 w =>
 ST Try.prog 152 t7 t17 w fun _ w =>
 ∃ (I0 : Value → World → Prop) (μ0 : Value → World → Nat), I0 (.int .i64 0) w ∧ ∀ (t8 : Value) wh0, I0 t8 wh0 →
 O (lenS t2) fun t20 =>
 O (bi .lss t8 t20) fun t21 =>
 Bc t21
 (Dr wh0 fun w =>
 O (fA 2 t7) fun t24 =>
 O (rd1 t24 w) fun t25 =>
 O (iS 1 t2 t8) fun t29 =>
 O (rd1 t29 w) fun t30 =>
 O (iS 1 t25 t8) fun t31 =>
 ST Try.prog 2 t31 t30 w fun _ w =>
 O (bi .add t8 (.int .i64 1)) fun t23 =>
 I0 t23 w ∧ μ0 t23 w < μ0 t8 wh0)
 (O (rdN 3 t7 wh0) fun t32 =>
 ST Try.prog 152 t6 t32 wh0 fun _ w =>
 O (rdN 3 t6 w) fun r0 =>
 R r0 w)
def p64 : Plan := .seq (.leaf) (.seq (.leaf) (.seq (.seq (.leaf) (.block (.loop [8] [2, 6, 7] (.seq (.seq (.leaf) (.cond (.leaf) (.leaf))) (.seq (.block (.ord [0, 1, 0, 0, 0, 24, 56, 127, 255])) (.leaf)))))) (.seq (.leaf) (.leaf))))
theorem e64 (R : Value → World → Prop) (t0 : Value) (t1 : Value) (t2 : Value) (w : World) : cw Try.prog 33 p64 (Try.f64.body.getD .skip) (fnQ Try.prog Try.f64.results.toList R) (argE 0 [t0, t1, t2]) w = c64 R t0 t1 t2 w := by kernel_rfl
theorem b64 : Try.f64.body = some (Try.f64.body.getD .skip) := by kernel_rfl
theorem s64 {R : Value → World → Prop} {t0 : Value} {t1 : Value} {t2 : Value} {w : World} (h : c64 R t0 t1 t2 w) : Cl Try.prog 64 [t0, t1, t2] w R :=
  calls_of_cw mixed p64 Try.func64 b64 Try.ntmps64 (by simp) (by rw [e64]; exact h)
def j37_0 (R : Value → World → Prop) (t3 : Value) (t1 : Value) (t2 : Value) (t24 : Value) (w : World) : Prop :=
 Bc t24
 (R (.tuple #[(.pointer none), (.int .i64 2)]) w)
 (Dr w fun w =>
 O (rdN 8 t3 w) fun t26 =>
 (O (rdN 8 t3 w) fun t25 =>
 Cl Try.prog 64 [t26, t1, t2] w fun t29 w =>
 BS 152 3 1 (.agg #[.int .i64 0, .int .i64 0, .slice none 0 0]) [(0, t29)] w fun t30 w =>
 O ((fillW Try.prog 156 [(0, t25), (1, t30)]).map .agg) fun t31 =>
 AL (.cells (Value.cells t31) 156) w fun t32 w =>
 R (.tuple #[t32, (.int .i64 0)]) w) ∧
 (Cl Try.prog 64 [t26, t1, t2] w fun t29 w =>
 O (rdN 8 t3 w) fun t25 =>
 BS 152 3 1 (.agg #[.int .i64 0, .int .i64 0, .slice none 0 0]) [(0, t29)] w fun t30 w =>
 O ((fillW Try.prog 156 [(0, t25), (1, t30)]).map .agg) fun t31 =>
 AL (.cells (Value.cells t31) 156) w fun t32 w =>
 R (.tuple #[t32, (.int .i64 0)]) w))
def c37 (R : Value → World → Prop) (t0 : Value) (t1 : Value) (t2 : Value) (w : World) : Prop :=
 AL (.cells (Value.cells t0) 30) w fun t3 w =>
 O (fA 3 t3) fun t9 =>
 O (rd1 t9 w) fun t10 =>
 O (lenS t10) fun t11 =>
 Cl Try.prog 34 [t1, t11] w fun t12 w =>
 O (un .not t12) fun t13 =>
 Bc t13
 (j37_0 R t3 t1 t2 (.bool true) w)
 (O (lenS t2) fun t16 =>
 O (fA 3 t3) fun t17 =>
 O (rd1 t17 w) fun t18 =>
 O (iS 4 t18 t1) fun t20 =>
 O (fA 1 t20) fun t21 =>
 O (rd1 t21 w) fun t22 =>
 O (bi .neq t16 t22) fun t23 =>
 j37_0 R t3 t1 t2 t23 w)
def p37 : Plan := .seq (.leaf) (.seq (.join [24] [1, 2, 3] (.leaf) (.cond (.seq (.leaf) (.leaf)) (.leaf))) (.seq (.tree [0, 0, 0, 0, 14, 30, 63, 127, 255, 511] (.take 1 (.take 2 (.take 3 (.alt 0 (.take 4 (.take 5 (.take 6 (.take 7 (.take 8 (.take 9 (.done))))))) (.take 4 (.take 0 (.take 5 (.take 6 (.take 7 (.take 8 (.take 9 (.done))))))))))))) (.leaf)))
theorem e37 (R : Value → World → Prop) (t0 : Value) (t1 : Value) (t2 : Value) (w : World) : cw Try.prog 33 p37 (Try.f37.body.getD .skip) (fnQ Try.prog Try.f37.results.toList R) (argE 0 [t0, t1, t2]) w = c37 R t0 t1 t2 w := by kernel_rfl
theorem b37 : Try.f37.body = some (Try.f37.body.getD .skip) := by kernel_rfl
theorem s37 {R : Value → World → Prop} {t0 : Value} {t1 : Value} {t2 : Value} {w : World} (h : c37 R t0 t1 t2 w) : Cl Try.prog 37 [t0, t1, t2] w R :=
  calls_of_cw mixed p37 Try.func37 b37 Try.ntmps37 (by simp) (by rw [e37]; exact h)
def c65 (R : Value → World → Prop) (t0 : Value) (t1 : Value) (w : World) : Prop :=
 ∃ (I0 : Value → World → Prop) (μ0 : Value → World → Nat), I0 (.int .i64 0) w ∧ ∀ (t5 : Value) wh0, I0 t5 wh0 →
 O (nC t0) fun t8 =>
 O (fA 0 t8) fun t9 =>
 O (rd1 t9 wh0) fun t10 =>
 O (lenS t10) fun t11 =>
 O (bi .lss t5 t11) fun t12 =>
 Bc t12
 (O (nC t0) fun t16 =>
 O (fA 0 t16) fun t17 =>
 O (rd1 t17 wh0) fun t18 =>
 O (iS 3 t18 t5) fun t20 =>
 O (fA 0 t20) fun t21 =>
 O (rd1 t21 wh0) fun t22 =>
 O (bi .eql t22 t1) fun t24 =>
 Bc t24
 (R t5 wh0)
 (O (bi .add t5 (.int .i64 1)) fun t14 =>
 I0 t14 wh0 ∧ μ0 t14 wh0 < μ0 t5 wh0))
 (R (.int .i64 (-1)) wh0)
def p65 : Plan := .seq (.leaf) (.seq (.seq (.leaf) (.block (.loop [5] [0, 1] (.seq (.seq (.leaf) (.cond (.leaf) (.leaf))) (.seq (.block (.seq (.leaf) (.cond (.seq (.leaf) (.leaf)) (.leaf)))) (.leaf)))))) (.seq (.leaf) (.leaf)))
theorem e65 (R : Value → World → Prop) (t0 : Value) (t1 : Value) (w : World) : cw Try.prog 26 p65 (Try.f65.body.getD .skip) (fnQ Try.prog Try.f65.results.toList R) (argE 0 [t0, t1]) w = c65 R t0 t1 w := by kernel_rfl
theorem b65 : Try.f65.body = some (Try.f65.body.getD .skip) := by kernel_rfl
theorem s65 {R : Value → World → Prop} {t0 : Value} {t1 : Value} {w : World} (h : c65 R t0 t1 w) : Cl Try.prog 65 [t0, t1] w R :=
  calls_of_cw mixed p65 Try.func65 b65 Try.ntmps65 (by simp) (by rw [e65]; exact h)
def j38_0 (R : Value → World → Prop) (t3 : Value) (t0 : Value) (t12 : Value) (w : World) : Prop :=
 Bc t12
 (R (.int .i64 2) w)
 (O (fA 0 t3) fun t14 =>
 O (rd1 t14 w) fun t15 =>
 Cl Try.prog 65 [t0, t15] w fun t16 w =>
 O (bi .geq t16 (.int .i64 0)) fun t17 =>
 Bc t17
 (R (.int .i64 7) w)
 (Dr w fun w =>
 O (nC t0) fun t20 =>
 O (fA 0 t20) fun t21 =>
 O (rd1 t21 w) fun t22 =>
 (AP Try.prog #[97, 97] 97 [(.slice none 0 0), t22] w fun t23 w =>
 O (rdN 3 t3 w) fun t24 =>
 BS 133 3 1 (.agg #[.int .i64 0, .bool false, .int .i64 0]) [(0, t24)] w fun t25 w =>
 AP Try.prog #[97, 97] 97 [t23, t25] w fun t26 w =>
 O (nC t0) fun t27 =>
 O (fA 0 t27) fun t28 =>
 ST Try.prog 97 t28 t26 w fun _ w =>
 R (.int .i64 0) w) ∧
 (O (rdN 3 t3 w) fun t24 =>
 (AP Try.prog #[97, 97] 97 [(.slice none 0 0), t22] w fun t23 w =>
 BS 133 3 1 (.agg #[.int .i64 0, .bool false, .int .i64 0]) [(0, t24)] w fun t25 w =>
 AP Try.prog #[97, 97] 97 [t23, t25] w fun t26 w =>
 O (nC t0) fun t27 =>
 O (fA 0 t27) fun t28 =>
 ST Try.prog 97 t28 t26 w fun _ w =>
 R (.int .i64 0) w) ∧
 (BS 133 3 1 (.agg #[.int .i64 0, .bool false, .int .i64 0]) [(0, t24)] w fun t25 w =>
 AP Try.prog #[97, 97] 97 [(.slice none 0 0), t22] w fun t23 w =>
 AP Try.prog #[97, 97] 97 [t23, t25] w fun t26 w =>
 O (nC t0) fun t27 =>
 O (fA 0 t27) fun t28 =>
 ST Try.prog 97 t28 t26 w fun _ w =>
 R (.int .i64 0) w))))
def c38 (R : Value → World → Prop) (t0 : Value) (t1 : Value) (w : World) : Prop :=
 AL (.cells (Value.cells t1) 133) w fun t3 w =>
 O (fA 0 t3) fun t5 =>
 O (rd1 t5 w) fun t6 =>
 O (bi .lss t6 (.int .i64 0)) fun t7 =>
 Bc t7
 (j38_0 R t3 t0 (.bool true) w)
 (O (fA 2 t3) fun t9 =>
 O (rd1 t9 w) fun t10 =>
 O (bi .lss t10 (.int .i64 0)) fun t11 =>
 j38_0 R t3 t0 t11 w)
def p38 : Plan := .seq (.leaf) (.seq (.join [12] [0, 3] (.leaf) (.cond (.seq (.leaf) (.leaf)) (.leaf))) (.seq (.seq (.leaf) (.cond (.seq (.leaf) (.leaf)) (.leaf))) (.seq (.tree [0, 0, 2, 6, 14, 30, 0, 64, 254, 511, 1023, 2047] (.take 0 (.take 1 (.take 2 (.take 3 (.take 4 (.alt 5 (.take 6 (.take 7 (.take 8 (.take 9 (.take 10 (.take 11 (.done))))))) (.take 6 (.alt 5 (.take 7 (.take 8 (.take 9 (.take 10 (.take 11 (.done)))))) (.take 7 (.take 5 (.take 8 (.take 9 (.take 10 (.take 11 (.done)))))))))))))))) (.seq (.leaf) (.leaf)))))
theorem e38 (R : Value → World → Prop) (t0 : Value) (t1 : Value) (w : World) : cw Try.prog 29 p38 (Try.f38.body.getD .skip) (fnQ Try.prog Try.f38.results.toList R) (argE 0 [t0, t1]) w = c38 R t0 t1 w := by kernel_rfl
theorem b38 : Try.f38.body = some (Try.f38.body.getD .skip) := by kernel_rfl
theorem s38 {R : Value → World → Prop} {t0 : Value} {t1 : Value} {w : World} (h : c38 R t0 t1 w) : Cl Try.prog 38 [t0, t1] w R :=
  calls_of_cw mixed p38 Try.func38 b38 Try.ntmps38 (by simp) (by rw [e38]; exact h)
def j20_0 (R : Value → World → Prop) (t0 : Value) (w : World) : Prop :=
 O (nC t0) fun t78 =>
 O (fA 12 t78) fun t79 =>
 O (rd1 t79 w) fun t80 =>
 O (lenS t80) fun t81 =>
 R t81 w
def c20 (R : Value → World → Prop) (t0 : Value) (t1 : Value) (t2 : Value) (w : World) : Prop :=
 AL (.cells (Value.cells t1) 73) w fun t4 w =>
 O (nC t0) fun t10 =>
 O (fA 12 t10) fun t11 =>
 O (rd1 t11 w) fun t12 =>
 O (lenS t12) fun t13 =>
 O (bi .geq t13 (.int .i64 256)) fun t14 =>
 Bc t14
 (R (.int .i64 0) w)
 (O (fA 11 t4) fun t15 =>
 ST Try.prog 70 t15 (.int .i64 1) w fun _ w =>
 Dr w fun w =>
 O (nC t0) fun t17 =>
 O (fA 18 t17) fun t18 =>
 O (rd1 t18 w) fun t19 =>
 O (fA 8 t4) fun t20 =>
 O (rd1 t20 w) fun t21 =>
 O (bi .add t19 t21) fun t22 =>
 O (fA 9 t4) fun t23 =>
 ST Try.prog 2 t23 t22 w fun _ w =>
 Dr w fun w =>
 O (nC t0) fun t26 =>
 O (fA 12 t26) fun t27 =>
 O (rd1 t27 w) fun t28 =>
 O (rdN 15 t4 w) fun t29 =>
 BS 73 15 1 (.agg #[.int .i64 0, .int .i64 0, .int .i64 0, .int .i64 0, .int .i64 0, .int .i64 0, .int .i64 0, .bool false, .int .i64 0, .int .i64 0, .int .i64 0, .int .i64 0, .int .i64 0, .int .i64 0, .int .i64 0]) [(0, t29)] w fun t30 w =>
 AP Try.prog #[40, 40] 40 [t28, t30] w fun t31 w =>
 O (nC t0) fun t32 =>
 O (fA 12 t32) fun t33 =>
 ST Try.prog 40 t33 t31 w fun _ w =>
 Dr w fun w =>
 O (nC t0) fun t36 =>
 O (fA 0 t36) fun t37 =>
 O (rdN 8 t37 w) fun t38 =>
 O (fA 3 t4) fun t39 =>
 O (rd1 t39 w) fun t40 =>
 Cl Try.prog 37 [t38, t40, t2] w fun t42 w =>
 O (exv t42 0) fun t43 =>
 O (exv t42 1) fun t44 =>
 O (nC t0) fun t47 =>
 O (fA 13 t47) fun t48 =>
 O (rd1 t48 w) fun t49 =>
 BS 128 1 1 (.pointer none) [(0, t43)] w fun t51 w =>
 AP Try.prog #[41, 41] 41 [t49, t51] w fun t52 w =>
 O (nC t0) fun t53 =>
 O (fA 13 t53) fun t54 =>
 ST Try.prog 41 t54 t52 w fun _ w =>
 O (fA 4 t4) fun t55 =>
 O (rd1 t55 w) fun t56 =>
 O (bi .geq t56 (.int .i64 0)) fun t57 =>
 Bc t57
 (Dr w fun w =>
 O (nC t0) fun t59 =>
 O (fA 10 t59) fun t60 =>
 O (rd1 t60 w) fun t61 =>
 O (fA 4 t4) fun t62 =>
 O (rd1 t62 w) fun t63 =>
 O (iS 1 t61 t63) fun t64 =>
 O (rd1 t64 w) fun t65 =>
 O (nC t0) fun t67 =>
 O (fA 12 t67) fun t68 =>
 O (rd1 t68 w) fun t69 =>
 O (lenS t69) fun t70 =>
 O (fA 7 t4) fun t71 =>
 O (rd1 t71 w) fun t72 =>
 O (fA 9 t4) fun t73 =>
 O (rd1 t73 w) fun t74 =>
 O ((fillW Try.prog 133 [(0, t70), (1, t72), (2, t74)]).map .agg) fun t75 =>
 Cl Try.prog 38 [t65, t75] w fun t76 w =>
 j20_0 R t0 w)
 (j20_0 R t0 w))
def p20 : Plan := .seq (.leaf) (.seq (.seq (.leaf) (.cond (.seq (.leaf) (.leaf)) (.leaf))) (.seq (.leaf) (.seq (.ord [0, 1, 3, 7, 0, 16, 63, 127, 255]) (.seq (.ord [0, 0, 2, 6, 14, 0, 32, 126, 255, 511, 1023]) (.seq (.ord [0, 1, 3, 7, 0, 16, 0, 127, 255, 511, 511, 1023, 4095]) (.seq (.leaf) (.join [] [0] (.seq (.leaf) (.cond (.ord [0, 1, 3, 7, 0, 16, 63, 127, 0, 256, 768, 1792, 3840, 0, 8192, 0, 32768, 130816, 262143]) (.leaf))) (.seq (.leaf) (.leaf)))))))))
theorem e20 (R : Value → World → Prop) (t0 : Value) (t1 : Value) (t2 : Value) (w : World) : cw Try.prog 82 p20 (Try.f20.body.getD .skip) (fnQ Try.prog Try.f20.results.toList R) (argE 0 [t0, t1, t2]) w = c20 R t0 t1 t2 w := by kernel_rfl
theorem b20 : Try.f20.body = some (Try.f20.body.getD .skip) := by kernel_rfl
theorem s20 {R : Value → World → Prop} {t0 : Value} {t1 : Value} {t2 : Value} {w : World} (h : c20 R t0 t1 t2 w) : Cl Try.prog 20 [t0, t1, t2] w R :=
  calls_of_cw mixed p20 Try.func20 b20 Try.ntmps20 (by simp) (by rw [e20]; exact h)

end Go.Proofs.Ytedcfkigfcobaaa
end
/- Printed by wip/tools/gen.py: the bodies of functions 8 66 39 67 40 41 68 42 69 70 43 73 81 82 with named temporaries, tied to the loaded program. -/
section
set_option maxRecDepth 100000
namespace Go.Proofs.Ytedcfkigfcobaaa
open Go Go.Proofs
def j8_0 (R : Value → World → Prop) (t1 : Value) (t3 : Value) (w : World) : Prop :=
 ∃ (I0 : Value → Value → World → Prop) (μ0 : Value → Value → World → Nat), I0 (.slice none 0 0) (.int .i64 0) w ∧ ∀ (t4 : Value) (t5 : Value) wh0, I0 t4 t5 wh0 →
 O (fA 5 t1) fun t17 =>
 O (rd1 t17 wh0) fun t18 =>
 O (lenS t18) fun t19 =>
 O (bi .lss t5 t19) fun t20 =>
 Bc t20
 (O (fA 5 t1) fun t24 =>
 O (rd1 t24 wh0) fun t25 =>
 O (iS 4 t25 t5) fun t27 =>
 O (fA 2 t27) fun t28 =>
 O (rd1 t28 wh0) fun t29 =>
 BS 4 1 1 (.bool false) [(0, t29)] wh0 fun t30 w =>
 AP Try.prog #[59, 59] 59 [t4, t30] w fun t31 w =>
 O (nC t3) fun t34 =>
 O (fA 17 t34) fun t35 =>
 O (rd1 t35 w) fun t36 =>
 BS 3 1 1 (.int .i64 0) [(0, (.int .i64 (-1)))] w fun t37 w =>
 AP Try.prog #[39, 39] 39 [t36, t37] w fun t38 w =>
 O (nC t3) fun t39 =>
 O (fA 17 t39) fun t40 =>
 ST Try.prog 39 t40 t38 w fun _ w =>
 O (bi .add t5 (.int .i64 1)) fun t22 =>
 I0 t31 t22 w ∧ μ0 t31 t22 w < μ0 t4 t5 wh0)
 (O (fA 4 t1) fun t42 =>
 O (rd1 t42 wh0) fun t43 =>
 O (lenS t43) fun t44 =>
 Cl Try.prog 19 [t44, t4] wh0 fun t46 w =>
 O (nC t3) fun t47 =>
 O (fA 9 t47) fun t48 =>
 ST Try.prog 37 t48 t46 w fun _ w =>
 ∃ (I1 : Value → World → Prop) (μ1 : Value → World → Nat), I1 (.int .i64 0) w ∧ ∀ (t6 : Value) wh1, I1 t6 wh1 →
 O (fA 0 t1) fun t50 =>
 O (rd1 t50 wh1) fun t51 =>
 O (lenS t51) fun t52 =>
 O (bi .lss t6 t52) fun t53 =>
 Bc t53
 (O (nC t3) fun t58 =>
 O (fA 10 t58) fun t59 =>
 O (rd1 t59 wh1) fun t60 =>
 O ((fillW Try.prog 99 []).map .agg) fun t61 =>
 AL (.cells (Value.cells t61) 99) wh1 fun t62 w =>
 BS 96 1 1 (.pointer none) [(0, t62)] w fun t63 w =>
 AP Try.prog #[38, 38] 38 [t60, t63] w fun t64 w =>
 O (nC t3) fun t65 =>
 O (fA 10 t65) fun t66 =>
 ST Try.prog 38 t66 t64 w fun _ w =>
 O (nC t3) fun t69 =>
 O (fA 11 t69) fun t70 =>
 O (rd1 t70 w) fun t71 =>
 BS 3 1 1 (.int .i64 0) [(0, (.int .i64 0))] w fun t72 w =>
 AP Try.prog #[39, 39] 39 [t71, t72] w fun t73 w =>
 O (nC t3) fun t74 =>
 O (fA 11 t74) fun t75 =>
 ST Try.prog 39 t75 t73 w fun _ w =>
 O (bi .add t6 (.int .i64 1)) fun t55 =>
 I1 t55 w ∧ μ1 t55 w < μ1 t6 wh1)
 (O (fA 6 t1) fun t77 =>
 O (rd1 t77 wh1) fun t78 =>
 O ((fillW Try.prog 73 [(0, (.int .i64 1)), (3, t78), (13, (.int .i64 (-1)))]).map .agg) fun t79 =>
 Cl Try.prog 20 [t3, t79, (.slice none 0 0)] wh1 fun t80 w =>
 R t3 w))
def c8 (R : Value → World → Prop) (t0 : Value) (w : World) : Prop :=
 AL (.cells (Value.cells t0) 30) w fun t1 w =>
 Dr w fun w =>
 O (rdN 8 t1 w) fun t7 =>
 O ((fillW Try.prog 92 []).map .agg) fun t8 =>
 O (fA 2 t1) fun t10 =>
 O (rd1 t10 w) fun t11 =>
 O (lenS t11) fun t12 =>
 (AL (.cells (Value.cells t8) 92) w fun t9 w =>
 MS 2 1 8 (.int .i64 0) t12 t12 w fun t13 w =>
 O ((fillW Try.prog 45 [(0, t7), (1, t9), (7, t13)]).map .agg) fun t14 =>
 AL (.cells (Value.cells t14) 45) w fun t15 w =>
 j8_0 R t1 t15 w) ∧
 (MS 2 1 8 (.int .i64 0) t12 t12 w fun t13 w =>
 AL (.cells (Value.cells t8) 92) w fun t9 w =>
 O ((fillW Try.prog 45 [(0, t7), (1, t9), (7, t13)]).map .agg) fun t14 =>
 AL (.cells (Value.cells t14) 45) w fun t15 w =>
 j8_0 R t1 t15 w)
def p8 : Plan := .seq (.leaf) (.join [3] [1] (.tree [0, 0, 2, 0, 8, 24, 56, 127, 255, 511] (.take 0 (.take 1 (.take 3 (.take 4 (.take 5 (.alt 2 (.take 6 (.take 7 (.take 8 (.take 9 (.done))))) (.take 6 (.take 2 (.take 7 (.take 8 (.take 9 (.done))))))))))))) (.seq (.leaf) (.seq (.seq (.leaf) (.block (.loop [4, 5] [1, 3] (.seq (.seq (.leaf) (.cond (.leaf) (.leaf))) (.seq (.block (.seq (.leaf) (.leaf))) (.leaf)))))) (.seq (.leaf) (.seq (.seq (.leaf) (.block (.loop [6] [1, 3] (.seq (.seq (.leaf) (.cond (.leaf) (.leaf))) (.seq (.block (.seq (.leaf) (.leaf))) (.leaf)))))) (.seq (.leaf) (.seq (.leaf) (.leaf))))))))
theorem e8 (R : Value → World → Prop) (t0 : Value) (w : World) : cw Try.prog 82 p8 (Try.f8.body.getD .skip) (fnQ Try.prog Try.f8.results.toList R) (argE 0 [t0]) w = c8 R t0 w := by kernel_rfl
theorem b8 : Try.f8.body = some (Try.f8.body.getD .skip) := by kernel_rfl
theorem s8 {R : Value → World → Prop} {t0 : Value} {w : World} (h : c8 R t0 w) : Cl Try.prog 8 [t0] w R :=
  calls_of_cw mixed p8 Try.func8 b8 Try.ntmps8 (by simp) (by rw [e8]; exact h)
def j66_0 (R : Value → World → Prop) (t4 : Value) (I0 : Value → Value → World → Prop) (μ0 : Value → Value → World → Nat) (t3 : Value) (wh0 : World) (t3_1 : Value) (w : World) : Prop :=
 O (bi .add t4 (.int .i64 1)) fun t15 =>
 I0 t3_1 t15 w ∧ μ0 t3_1 t15 w < μ0 t3 t4 wh0
def j66_1 (R : Value → World → Prop) (t4 : Value) (I0 : Value → Value → World → Prop) (μ0 : Value → Value → World → Nat) (t3 : Value) (wh0 : World) (t46 : Value) (w : World) : Prop :=
 Bc t46
 (j66_0 R t4 I0 μ0 t3 wh0 t4 w)
 (j66_0 R t4 I0 μ0 t3 wh0 t3 w)
def c66 (R : Value → World → Prop) (t0 : Value) (w : World) : Prop :=
 ∃ (I0 : Value → Value → World → Prop) (μ0 : Value → Value → World → Nat), I0 (.int .i64 (-1)) (.int .i64 0) w ∧ ∀ (t3 : Value) (t4 : Value) wh0, I0 t3 t4 wh0 →
 O (nC t0) fun t9 =>
 O (fA 0 t9) fun t10 =>
 O (rd1 t10 wh0) fun t11 =>
 O (lenS t11) fun t12 =>
 O (bi .lss t4 t12) fun t13 =>
 Bc t13
 (O (nC t0) fun t17 =>
 O (fA 0 t17) fun t18 =>
 O (rd1 t18 wh0) fun t19 =>
 O (iS 3 t19 t4) fun t21 =>
 O (rdN 3 t21 wh0) fun t22 =>
 AL (.cells #[.int .i64 0, .bool false, .int .i64 0] 133) wh0 fun t5 w =>
 ST Try.prog 133 t5 t22 w fun _ w =>
 O (bi .lss t3 (.int .i64 0)) fun t24 =>
 Bc t24
 (j66_0 R t4 I0 μ0 t3 wh0 t4 w)
 (O (nC t0) fun t27 =>
 O (fA 0 t27) fun t28 =>
 O (rd1 t28 w) fun t29 =>
 O (iS 3 t29 t3) fun t31 =>
 O (rdN 3 t31 w) fun t32 =>
 AL (.cells #[.int .i64 0, .bool false, .int .i64 0] 133) w fun t6 w =>
 ST Try.prog 133 t6 t32 w fun _ w =>
 O (fA 1 t5) fun t33 =>
 O (rd1 t33 w) fun t34 =>
 Bc t34
 (j66_1 R t4 I0 μ0 t3 wh0 (.bool true) w)
 (O (fA 1 t6) fun t36 =>
 O (rd1 t36 w) fun t37 =>
 O (un .not t37) fun t38 =>
 Bc t38
 (O (fA 2 t5) fun t40 =>
 O (rd1 t40 w) fun t41 =>
 O (fA 2 t6) fun t42 =>
 O (rd1 t42 w) fun t43 =>
 O (bi .lss t41 t43) fun t44 =>
 j66_1 R t4 I0 μ0 t3 wh0 t44 w)
 (j66_1 R t4 I0 μ0 t3 wh0 (.bool false) w))))
 (R t3 wh0)
def p66 : Plan := .seq (.leaf) (.seq (.leaf) (.seq (.seq (.leaf) (.block (.loop [3, 4] [0] (.seq (.seq (.leaf) (.cond (.leaf) (.leaf))) (.join [3] [0, 4] (.block (.seq (.leaf) (.seq (.seq (.leaf) (.cond (.seq (.leaf) (.leaf)) (.leaf))) (.seq (.leaf) (.join [46] [0, 3, 4] (.leaf) (.cond (.leaf) (.leaf))))))) (.leaf)))))) (.seq (.leaf) (.leaf))))
theorem e66 (R : Value → World → Prop) (t0 : Value) (w : World) : cw Try.prog 49 p66 (Try.f66.body.getD .skip) (fnQ Try.prog Try.f66.results.toList R) (argE 0 [t0]) w = c66 R t0 w := by kernel_rfl
theorem b66 : Try.f66.body = some (Try.f66.body.getD .skip) := by kernel_rfl
theorem s66 {R : Value → World → Prop} {t0 : Value} {w : World} (h : c66 R t0 w) : Cl Try.prog 66 [t0] w R :=
  calls_of_cw mixed p66 Try.func66 b66 Try.ntmps66 (by simp) (by rw [e66]; exact h)
def j39_0 (R : Value → World → Prop) (t4 : Value) (t0 : Value) (t8 : Value) (t33 : Value) (w : World) : Prop :=
 Bc t33
 (O ((fillW Try.prog 133 []).map .agg) fun t34 =>
 ST Try.prog 133 t4 t34 w fun _ w =>
 O (rdN 3 t4 w) fun r0 =>
 R (.tuple #[r0, (.bool false)]) w)
 (O (nC t0) fun t36 =>
 O (fA 0 t36) fun t37 =>
 O (rd1 t37 w) fun t38 =>
 O (iS 3 t38 t8) fun t40 =>
 O (rdN 3 t40 w) fun t41 =>
 ST Try.prog 133 t4 t41 w fun _ w =>
 O (rdN 3 t4 w) fun r0 =>
 R (.tuple #[r0, (.bool true)]) w)
def c39 (R : Value → World → Prop) (t0 : Value) (t1 : Value) (w : World) : Prop :=
 AL (.cells #[.int .i64 0, .bool false, .int .i64 0] 133) w fun t4 w =>
 Cl Try.prog 66 [t0] w fun t8 w =>
 O (bi .lss t8 (.int .i64 0)) fun t10 =>
 Bc t10
 (j39_0 R t4 t0 t8 (.bool true) w)
 (O (nC t0) fun t13 =>
 O (fA 0 t13) fun t14 =>
 O (rd1 t14 w) fun t15 =>
 O (iS 3 t15 t8) fun t17 =>
 O (fA 1 t17) fun t18 =>
 O (rd1 t18 w) fun t19 =>
 O (un .not t19) fun t20 =>
 Bc t20
 (O (nC t0) fun t23 =>
 O (fA 0 t23) fun t24 =>
 O (rd1 t24 w) fun t25 =>
 O (iS 3 t25 t8) fun t27 =>
 O (fA 2 t27) fun t28 =>
 O (rd1 t28 w) fun t29 =>
 O (bi .gtr t29 t1) fun t31 =>
 j39_0 R t4 t0 t8 t31 w)
 (j39_0 R t4 t0 t8 (.bool false) w))
def p39 : Plan := .seq (.leaf) (.seq (.leaf) (.seq (.join [33] [0, 4, 6] (.leaf) (.cond (.seq (.leaf) (.leaf)) (.leaf))) (.seq (.leaf) (.leaf))))
theorem e39 (R : Value → World → Prop) (t0 : Value) (t1 : Value) (w : World) : cw Try.prog 42 p39 (Try.f39.body.getD .skip) (fnQ Try.prog Try.f39.results.toList R) (argE 0 [t0, t1]) w = c39 R t0 t1 w := by kernel_rfl
theorem b39 : Try.f39.body = some (Try.f39.body.getD .skip) := by kernel_rfl
theorem s39 {R : Value → World → Prop} {t0 : Value} {t1 : Value} {w : World} (h : c39 R t0 t1 w) : Cl Try.prog 39 [t0, t1] w R :=
  calls_of_cw mixed p39 Try.func39 b39 Try.ntmps39 (by simp) (by rw [e39]; exact h)
def c67 (R : Value → World → Prop) (t0 : Value) (w : World) : Prop :=
 AL (.cells #[.int .i64 0, .int .i64 0, .int .i64 0, .int .i64 0, .int .i64 0, .slice none 0 0, .int .i64 0, .int .i64 0] 79) w fun t2 w =>
 Dr w fun w =>
 O (nC t0) fun t5 =>
 O (fA 8 t5) fun t6 =>
 O (rd1 t6 w) fun t7 =>
 O (nC t0) fun t9 =>
 O (fA 8 t9) fun t10 =>
 O (rd1 t10 w) fun t11 =>
 O (lenS t11) fun t12 =>
 O (bi .sub t12 (.int .i64 1)) fun t13 =>
 O (iS 3 t7 t13) fun t14 =>
 O (rdN 3 t14 w) fun t15 =>
 AL (.cells #[.int .i64 0, .int .i64 0, .slice none 0 0] 152) w fun t3 w =>
 ST Try.prog 152 t3 t15 w fun _ w =>
 Dr w fun w =>
 O (nC t0) fun t17 =>
 O (fA 0 t17) fun t18 =>
 O (fA 3 t18) fun t19 =>
 O (rd1 t19 w) fun t20 =>
 O (fA 0 t3) fun t21 =>
 O (rd1 t21 w) fun t22 =>
 O (iS 4 t20 t22) fun t23 =>
 O (fA 3 t23) fun t24 =>
 O (rd1 t24 w) fun t25 =>
 O (fA 1 t3) fun t26 =>
 O (rd1 t26 w) fun t27 =>
 O (iS 8 t25 t27) fun t28 =>
 O (rdN 8 t28 w) fun t29 =>
 ST Try.prog 79 t2 t29 w fun _ w =>
 O (rdN 8 t2 w) fun r0 =>
 R r0 w
def p67 : Plan := .seq (.leaf) (.seq (.ord [0, 1, 3, 7, 0, 16, 48, 112, 240, 496, 1023, 2047, 0, 8191]) (.seq (.ord [0, 1, 3, 7, 15, 0, 32, 127, 255, 511, 0, 1024, 4095, 8191, 16383]) (.leaf)))
theorem e67 (R : Value → World → Prop) (t0 : Value) (w : World) : cw Try.prog 30 p67 (Try.f67.body.getD .skip) (fnQ Try.prog Try.f67.results.toList R) (argE 0 [t0]) w = c67 R t0 w := by kernel_rfl
theorem b67 : Try.f67.body = some (Try.f67.body.getD .skip) := by kernel_rfl
theorem s67 {R : Value → World → Prop} {t0 : Value} {w : World} (h : c67 R t0 w) : Cl Try.prog 67 [t0] w R :=
  calls_of_cw mixed p67 Try.func67 b67 Try.ntmps67 (by simp) (by rw [e67]; exact h)
def j40_1 (R : Value → World → Prop) (t60 : Value) (t95 : Value) (w : World) : Prop :=
 Bc t95
 (R t60 w)
 (R (.int .i64 0) w)
def j40_0 (R : Value → World → Prop) (t0 : Value) (t1 : Value) (t30 : Value) (w : World) : Prop :=
 Bc t30
 (R (.int .i64 0) w)
 (O (nC t0) fun t32 =>
 O (fA 13 t32) fun t33 =>
 O (rd1 t33 w) fun t34 =>
 O (bi .sub t1 (.int .i64 1)) fun t36 =>
 O (iS 1 t34 t36) fun t37 =>
 O (rd1 t37 w) fun t38 =>
 Cl Try.prog 67 [t38] w fun t40 w =>
 AL (.cells #[.int .i64 0, .int .i64 0, .int .i64 0, .int .i64 0, .int .i64 0, .slice none 0 0, .int .i64 0, .int .i64 0] 79) w fun t6 w =>
 ST Try.prog 79 t6 t40 w fun _ w =>
 O (fA 0 t6) fun t41 =>
 O (rd1 t41 w) fun t42 =>
 O (bi .neq t42 (.int .i64 29)) fun t43 =>
 Bc t43
 (R (.int .i64 0) w)
 (Dr w fun w =>
 O (nC t38) fun t45 =>
 O (fA 8 t45) fun t46 =>
 O (rd1 t46 w) fun t47 =>
 O (nC t38) fun t49 =>
 O (fA 8 t49) fun t50 =>
 O (rd1 t50 w) fun t51 =>
 O (lenS t51) fun t52 =>
 O (bi .sub t52 (.int .i64 1)) fun t53 =>
 O (iS 3 t47 t53) fun t54 =>
 O (fA 2 t54) fun t55 =>
 O (rd1 t55 w) fun t56 =>
 O (fA 1 t6) fun t57 =>
 O (rd1 t57 w) fun t58 =>
 O (iS 1 t56 t58) fun t59 =>
 O (rd1 t59 w) fun t60 =>
 O (bi .geq t60 (.int .i64 1)) fun t62 =>
 Bc t62
 (O (nC t0) fun t66 =>
 O (fA 12 t66) fun t67 =>
 O (rd1 t67 w) fun t68 =>
 O (lenS t68) fun t69 =>
 O (bi .leq t60 t69) fun t70 =>
 Bc t70
 (O (nC t0) fun t74 =>
 O (fA 12 t74) fun t75 =>
 O (rd1 t75 w) fun t76 =>
 O (bi .sub t60 (.int .i64 1)) fun t78 =>
 O (iS 15 t76 t78) fun t79 =>
 O (fA 0 t79) fun t80 =>
 O (rd1 t80 w) fun t81 =>
 O (bi .eql t81 (.int .i64 5)) fun t82 =>
 Bc t82
 (O (nC t0) fun t86 =>
 O (fA 12 t86) fun t87 =>
 O (rd1 t87 w) fun t88 =>
 O (bi .sub t60 (.int .i64 1)) fun t90 =>
 O (iS 15 t88 t90) fun t91 =>
 O (fA 11 t91) fun t92 =>
 O (rd1 t92 w) fun t93 =>
 O (bi .neq t93 (.int .i64 3)) fun t94 =>
 j40_1 R t60 t94 w)
 (j40_1 R t60 (.bool false) w))
 (j40_1 R t60 (.bool false) w))
 (j40_1 R t60 (.bool false) w)))
def c40 (R : Value → World → Prop) (t0 : Value) (t1 : Value) (w : World) : Prop :=
 O (bi .lss t1 (.int .i64 1)) fun t9 =>
 Bc t9
 (j40_0 R t0 t1 (.bool true) w)
 (O (nC t0) fun t13 =>
 O (fA 12 t13) fun t14 =>
 O (rd1 t14 w) fun t15 =>
 O (lenS t15) fun t16 =>
 O (bi .gtr t1 t16) fun t17 =>
 Bc t17
 (j40_0 R t0 t1 (.bool true) w)
 (O (nC t0) fun t21 =>
 O (fA 12 t21) fun t22 =>
 O (rd1 t22 w) fun t23 =>
 O (bi .sub t1 (.int .i64 1)) fun t25 =>
 O (iS 15 t23 t25) fun t26 =>
 O (fA 11 t26) fun t27 =>
 O (rd1 t27 w) fun t28 =>
 O (bi .neq t28 (.int .i64 2)) fun t29 =>
 j40_0 R t0 t1 t29 w))
def p40 : Plan := .seq (.leaf) (.seq (.join [30] [0, 1] (.leaf) (.cond (.seq (.leaf) (.leaf)) (.leaf))) (.seq (.leaf) (.seq (.leaf) (.seq (.seq (.leaf) (.cond (.seq (.leaf) (.leaf)) (.leaf))) (.seq (.ord [0, 1, 3, 7, 0, 16, 48, 112, 240, 496, 1023, 2047, 4095, 0, 8192, 32767, 65535, 131071]) (.seq (.join [95] [7] (.leaf) (.cond (.seq (.leaf) (.leaf)) (.leaf))) (.seq (.leaf) (.leaf))))))))
theorem e40 (R : Value → World → Prop) (t0 : Value) (t1 : Value) (w : World) : cw Try.prog 97 p40 (Try.f40.body.getD .skip) (fnQ Try.prog Try.f40.results.toList R) (argE 0 [t0, t1]) w = c40 R t0 t1 w := by kernel_rfl
theorem b40 : Try.f40.body = some (Try.f40.body.getD .skip) := by kernel_rfl
theorem s40 {R : Value → World → Prop} {t0 : Value} {t1 : Value} {w : World} (h : c40 R t0 t1 w) : Cl Try.prog 40 [t0, t1] w R :=
  calls_of_cw mixed p40 Try.func40 b40 Try.ntmps40 (by simp) (by rw [e40]; exact h)
def c41 (R : Value → World → Prop) (t0 : Value) (w : World) : Prop :=
 O (nC t0) fun t4 =>
 O (fA 20 t4) fun t5 =>
 ST Try.prog 4 t5 (.bool true) w fun _ w =>
 R (.int .i64 11) w
def p41 : Plan := .seq (.leaf) (.seq (.leaf) (.seq (.leaf) (.leaf)))
theorem e41 (R : Value → World → Prop) (t0 : Value) (w : World) : cw Try.prog 6 p41 (Try.f41.body.getD .skip) (fnQ Try.prog Try.f41.results.toList R) (argE 0 [t0]) w = c41 R t0 w := by kernel_rfl
theorem b41 : Try.f41.body = some (Try.f41.body.getD .skip) := by kernel_rfl
theorem s41 {R : Value → World → Prop} {t0 : Value} {w : World} (h : c41 R t0 w) : Cl Try.prog 41 [t0] w R :=
  calls_of_cw mixed p41 Try.func41 b41 Try.ntmps41 (by simp) (by rw [e41]; exact h)
def c68 (R : Value → World → Prop) (t0 : Value) (t1 : Value) (w : World) : Prop :=
 Cl Try.prog 65 [t0, t1] w fun t8 w =>
 O (bi .lss t8 (.int .i64 0)) fun t10 =>
 Bc t10
 (R (.bool false) w)
 (Dr w fun w =>
 O (nC t0) fun t13 =>
 O (fA 0 t13) fun t14 =>
 O (rd1 t14 w) fun t15 =>
 O (slc 3 t15 none (some t8)) fun t17 =>
 O (nC t0) fun t20 =>
 O (fA 0 t20) fun t21 =>
 O (bi .add t8 (.int .i64 1)) fun t24 =>
 (AP Try.prog #[97, 97] 97 [(.slice none 0 0), t17] w fun t18 w =>
 O (rd1 t21 w) fun t22 =>
 O (slc 3 t22 (some t24) none) fun t25 =>
 AP Try.prog #[97, 97] 97 [t18, t25] w fun t26 w =>
 O (nC t0) fun t27 =>
 O (fA 0 t27) fun t28 =>
 ST Try.prog 97 t28 t26 w fun _ w =>
 R (.bool true) w) ∧
 (O (rd1 t21 w) fun t22 =>
 AP Try.prog #[97, 97] 97 [(.slice none 0 0), t17] w fun t18 w =>
 O (slc 3 t22 (some t24) none) fun t25 =>
 AP Try.prog #[97, 97] 97 [t18, t25] w fun t26 w =>
 O (nC t0) fun t27 =>
 O (fA 0 t27) fun t28 =>
 ST Try.prog 97 t28 t26 w fun _ w =>
 R (.bool true) w))
def p68 : Plan := .seq (.leaf) (.seq (.leaf) (.seq (.seq (.leaf) (.cond (.seq (.leaf) (.leaf)) (.leaf))) (.seq (.tree [0, 0, 2, 6, 14, 0, 62, 126, 0, 256, 768, 1792, 0, 4096, 16128, 32766, 65535, 131071, 262143] (.take 0 (.take 1 (.take 2 (.take 3 (.take 4 (.take 5 (.take 6 (.take 8 (.take 9 (.take 10 (.take 12 (.take 13 (.alt 7 (.take 11 (.take 14 (.take 15 (.take 16 (.take 17 (.take 18 (.done))))))) (.take 11 (.take 7 (.take 14 (.take 15 (.take 16 (.take 17 (.take 18 (.done)))))))))))))))))))))) (.seq (.leaf) (.leaf)))))
theorem e68 (R : Value → World → Prop) (t0 : Value) (t1 : Value) (w : World) : cw Try.prog 29 p68 (Try.f68.body.getD .skip) (fnQ Try.prog Try.f68.results.toList R) (argE 0 [t0, t1]) w = c68 R t0 t1 w := by kernel_rfl
theorem b68 : Try.f68.body = some (Try.f68.body.getD .skip) := by kernel_rfl
theorem s68 {R : Value → World → Prop} {t0 : Value} {t1 : Value} {w : World} (h : c68 R t0 t1 w) : Cl Try.prog 68 [t0, t1] w R :=
  calls_of_cw mixed p68 Try.func68 b68 Try.ntmps68 (by simp) (by rw [e68]; exact h)
def j42_0 (R : Value → World → Prop) (t6 : Value) (t4 : Value) (t13 : Value) (w : World) : Prop :=
 O (rdN 3 t6 w) fun t19 =>
 ST Try.prog 133 t4 t19 w fun _ w =>
 O (rdN 3 t4 w) fun r0 =>
 R (.tuple #[r0, t13]) w
def c42 (R : Value → World → Prop) (t0 : Value) (t1 : Value) (w : World) : Prop :=
 AL (.cells #[.int .i64 0, .bool false, .int .i64 0] 133) w fun t4 w =>
 Cl Try.prog 39 [t0, t1] w fun t11 w =>
 O (exv t11 0) fun t12 =>
 O (exv t11 1) fun t13 =>
 AL (.cells #[.int .i64 0, .bool false, .int .i64 0] 133) w fun t6 w =>
 ST Try.prog 133 t6 t12 w fun _ w =>
 Bc t13
 (O (fA 0 t6) fun t16 =>
 O (rd1 t16 w) fun t17 =>
 Cl Try.prog 68 [t0, t17] w fun t18 w =>
 j42_0 R t6 t4 t13 w)
 (j42_0 R t6 t4 t13 w)
def p42 : Plan := .seq (.leaf) (.seq (.leaf) (.join [] [4, 6, 7] (.seq (.leaf) (.cond (.leaf) (.leaf))) (.seq (.leaf) (.leaf))))
theorem e42 (R : Value → World → Prop) (t0 : Value) (t1 : Value) (w : World) : cw Try.prog 21 p42 (Try.f42.body.getD .skip) (fnQ Try.prog Try.f42.results.toList R) (argE 0 [t0, t1]) w = c42 R t0 t1 w := by kernel_rfl
theorem b42 : Try.f42.body = some (Try.f42.body.getD .skip) := by kernel_rfl
theorem s42 {R : Value → World → Prop} {t0 : Value} {t1 : Value} {w : World} (h : c42 R t0 t1 w) : Cl Try.prog 42 [t0, t1] w R :=
  calls_of_cw mixed p42 Try.func42 b42 Try.ntmps42 (by simp) (by rw [e42]; exact h)
def c69 (R : Value → World → Prop) (t0 : Value) (t1 : Value) (t2 : Value) (t3 : Value) (w : World) : Prop :=
 O (nC t0) fun t10 =>
 O (fA 16 t10) fun t11 =>
 O (rd1 t11 w) fun t12 =>
 O ((fillW Try.prog 67 [(0, t1), (1, t2), (2, t3)]).map .agg) fun t16 =>
 BS 67 8 1 (.agg #[.int .i64 0, .int .i64 0, .int .i64 0, .int .i64 0, .int .i64 0, .int .i64 0, .int .i64 0, .bool false]) [(0, t16)] w fun t17 w =>
 AP Try.prog #[43, 43] 43 [t12, t17] w fun t18 w =>
 O (nC t0) fun t19 =>
 O (fA 16 t19) fun t20 =>
 ST Try.prog 43 t20 t18 w fun _ w =>
 R (.tuple #[]) w
def p69 : Plan := .leaf
theorem e69 (R : Value → World → Prop) (t0 : Value) (t1 : Value) (t2 : Value) (t3 : Value) (w : World) : cw Try.prog 21 p69 (Try.f69.body.getD .skip) (fnQ Try.prog Try.f69.results.toList R) (argE 0 [t0, t1, t2, t3]) w = c69 R t0 t1 t2 t3 w := by kernel_rfl
theorem b69 : Try.f69.body = some (Try.f69.body.getD .skip) := by kernel_rfl
theorem s69 {R : Value → World → Prop} {t0 : Value} {t1 : Value} {t2 : Value} {t3 : Value} {w : World} (h : c69 R t0 t1 t2 t3 w) : Cl Try.prog 69 [t0, t1, t2, t3] w R :=
  calls_of_cw mixed p69 Try.func69 b69 Try.ntmps69 (by simp) (by rw [e69]; exact h)
def c70 (R : Value → World → Prop) (t0 : Value) (t1 : Value) (t2 : Value) (t3 : Value) (t4 : Value) (t5 : Value) (w : World) : Prop :=
 O (nC t0) fun t14 =>
 O (fA 16 t14) fun t15 =>
 O (rd1 t15 w) fun t16 =>
 O ((fillW Try.prog 63 [(0, t3), (1, t4)]).map .agg) fun t21 =>
 O ((fillW Try.prog 65 [(0, t2), (1, t21), (2, t5)]).map .agg) fun t23 =>
 O ((fillW Try.prog 67 [(0, (.int .i64 3)), (1, t1), (3, t23)]).map .agg) fun t24 =>
 BS 67 8 1 (.agg #[.int .i64 0, .int .i64 0, .int .i64 0, .int .i64 0, .int .i64 0, .int .i64 0, .int .i64 0, .bool false]) [(0, t24)] w fun t25 w =>
 AP Try.prog #[43, 43] 43 [t16, t25] w fun t26 w =>
 O (nC t0) fun t27 =>
 O (fA 16 t27) fun t28 =>
 ST Try.prog 43 t28 t26 w fun _ w =>
 R (.tuple #[]) w
def p70 : Plan := .leaf
theorem e70 (R : Value → World → Prop) (t0 : Value) (t1 : Value) (t2 : Value) (t3 : Value) (t4 : Value) (t5 : Value) (w : World) : cw Try.prog 29 p70 (Try.f70.body.getD .skip) (fnQ Try.prog Try.f70.results.toList R) (argE 0 [t0, t1, t2, t3, t4, t5]) w = c70 R t0 t1 t2 t3 t4 t5 w := by kernel_rfl
theorem b70 : Try.f70.body = some (Try.f70.body.getD .skip) := by kernel_rfl
theorem s70 {R : Value → World → Prop} {t0 : Value} {t1 : Value} {t2 : Value} {t3 : Value} {t4 : Value} {t5 : Value} {w : World} (h : c70 R t0 t1 t2 t3 t4 t5 w) : Cl Try.prog 70 [t0, t1, t2, t3, t4, t5] w R :=
  calls_of_cw mixed p70 Try.func70 b70 Try.ntmps70 (by simp) (by rw [e70]; exact h)
def c43 (R : Value → World → Prop) (t0 : Value) (t1 : Value) (w : World) : Prop :=
 O (nC t0) fun t5 =>
 O (fA 12 t5) fun t6 =>
 O (rd1 t6 w) fun t7 =>
 O (bi .sub t1 (.int .i64 1)) fun t9 =>
 O (iS 15 t7 t9) fun t10 =>
 O (fA 11 t10) fun t11 =>
 ST Try.prog 70 t11 (.int .i64 2) w fun _ w =>
 Cl Try.prog 69 [t0, (.int .i64 1), t1, (.int .i64 0)] w fun t14 w =>
 O (nC t0) fun t16 =>
 O (fA 12 t16) fun t17 =>
 O (rd1 t17 w) fun t18 =>
 O (bi .sub t1 (.int .i64 1)) fun t20 =>
 O (iS 15 t18 t20) fun t21 =>
 O (fA 0 t21) fun t22 =>
 O (rd1 t22 w) fun t23 =>
 O (bi .eql t23 (.int .i64 4)) fun t24 =>
 Bc t24
 (O (nC t0) fun t28 =>
 O (fA 12 t28) fun t29 =>
 O (rd1 t29 w) fun t30 =>
 O (bi .sub t1 (.int .i64 1)) fun t32 =>
 O (iS 15 t30 t32) fun t33 =>
 O (fA 1 t33) fun t34 =>
 O (rd1 t34 w) fun t35 =>
 Cl Try.prog 70 [t0, t1, t35, (.int .i64 5), t1, (.bool true)] w fun t37 w =>
 R (.tuple #[]) w)
 (R (.tuple #[]) w)
def p43 : Plan := .seq (.leaf) (.seq (.leaf) (.seq (.leaf) (.cond (.leaf) (.leaf))))
theorem e43 (R : Value → World → Prop) (t0 : Value) (t1 : Value) (w : World) : cw Try.prog 38 p43 (Try.f43.body.getD .skip) (fnQ Try.prog Try.f43.results.toList R) (argE 0 [t0, t1]) w = c43 R t0 t1 w := by kernel_rfl
theorem b43 : Try.f43.body = some (Try.f43.body.getD .skip) := by kernel_rfl
theorem s43 {R : Value → World → Prop} {t0 : Value} {t1 : Value} {w : World} (h : c43 R t0 t1 w) : Cl Try.prog 43 [t0, t1] w R :=
  calls_of_cw mixed p43 Try.func43 b43 Try.ntmps43 (by simp) (by rw [e43]; exact h)
def c73 (R : Value → World → Prop) (t0 : Value) (w : World) : Prop :=
 O (nC t0) fun t4 =>
 O (fA 8 t4) fun t5 =>
 O (rd1 t5 w) fun t6 =>
 O (lenS t6) fun t7 =>
 O (bi .eql t7 (.int .i64 0)) fun t8 =>
 Bc t8
 (R (.bool true) w)
 (O (nC t0) fun t11 =>
 O (fA 9 t11) fun t12 =>
 O (rd1 t12 w) fun t13 =>
 O (bi .neq t13 (.int .i64 0)) fun t14 =>
 R t14 w)
def p73 : Plan := .seq (.leaf) (.seq (.leaf) (.leaf))
theorem e73 (R : Value → World → Prop) (t0 : Value) (w : World) : cw Try.prog 16 p73 (Try.f73.body.getD .skip) (fnQ Try.prog Try.f73.results.toList R) (argE 0 [t0]) w = c73 R t0 w := by kernel_rfl
theorem b73 : Try.f73.body = some (Try.f73.body.getD .skip) := by kernel_rfl
theorem s73 {R : Value → World → Prop} {t0 : Value} {w : World} (h : c73 R t0 w) : Cl Try.prog 73 [t0] w R :=
  calls_of_cw mixed p73 Try.func73 b73 Try.ntmps73 (by simp) (by rw [e73]; exact h)
def c81 (R : Value → World → Prop) (t0 : Value) (w : World) : Prop :=
 O (bi .eql t0 (.int .i64 9)) fun t4 =>
 Bc t4
 (R (.bool true) w)
 (O (bi .eql t0 (.int .i64 10)) fun t7 =>
 Bc t7
 (R (.bool true) w)
 (O (bi .geq t0 (.int .i64 23)) fun t11 =>
 Bc t11
 (O (bi .leq t0 (.int .i64 30)) fun t14 =>
 R t14 w)
 (R (.bool false) w)))
def p81 : Plan := .seq (.leaf) (.seq (.leaf) (.leaf))
theorem e81 (R : Value → World → Prop) (t0 : Value) (w : World) : cw Try.prog 17 p81 (Try.f81.body.getD .skip) (fnQ Try.prog Try.f81.results.toList R) (argE 0 [t0]) w = c81 R t0 w := by kernel_rfl
theorem b81 : Try.f81.body = some (Try.f81.body.getD .skip) := by kernel_rfl
theorem s81 {R : Value → World → Prop} {t0 : Value} {w : World} (h : c81 R t0 w) : Cl Try.prog 81 [t0] w R :=
  calls_of_cw mixed p81 Try.func81 b81 Try.ntmps81 (by simp) (by rw [e81]; exact h)
def j82_2 (R : Value → World → Prop) (t7 : Value) (t6 : Value) (w : World) : Prop :=
 O (rdN 6 t7 w) fun t69 =>
 ST Try.prog 162 t6 t69 w fun _ w =>
 O (rdN 6 t6 w) fun r0 =>
 R r0 w
def j82_3 (R : Value → World → Prop) (t4 : Value) (t2 : Value) (t7 : Value) (t6 : Value) (t62 : Value) (w : World) : Prop :=
 Bc t62
 (O (fA 1 t4) fun t64 =>
 O (rd1 t64 w) fun t65 =>
 O (iS 1 t2 t65) fun t66 =>
 O (rd1 t66 w) fun t67 =>
 O (fA 3 t7) fun t68 =>
 ST Try.prog 2 t68 t67 w fun _ w =>
 j82_2 R t7 t6 w)
 (j82_2 R t7 t6 w)
def j82_1 (R : Value → World → Prop) (t4 : Value) (t2 : Value) (t7 : Value) (t6 : Value) (w : World) : Prop :=
 O (fA 0 t4) fun t45 =>
 O (rd1 t45 w) fun t46 =>
 O (bi .eql t46 (.int .i64 10)) fun t47 =>
 Bc t47
 (j82_3 R t4 t2 t7 t6 (.bool true) w)
 (O (fA 0 t4) fun t49 =>
 O (rd1 t49 w) fun t50 =>
 O (bi .eql t50 (.int .i64 25)) fun t51 =>
 Bc t51
 (j82_3 R t4 t2 t7 t6 (.bool true) w)
 (O (fA 0 t4) fun t54 =>
 O (rd1 t54 w) fun t55 =>
 O (bi .eql t55 (.int .i64 29)) fun t56 =>
 Bc t56
 (j82_3 R t4 t2 t7 t6 (.bool true) w)
 (O (fA 0 t4) fun t59 =>
 O (rd1 t59 w) fun t60 =>
 O (bi .eql t60 (.int .i64 30)) fun t61 =>
 j82_3 R t4 t2 t7 t6 t61 w)))
def j82_4 (R : Value → World → Prop) (t4 : Value) (t7 : Value) (t2 : Value) (t6 : Value) (t41 : Value) (w : World) : Prop :=
 Bc t41
 (O (fA 3 t4) fun t42 =>
 O (rd1 t42 w) fun t43 =>
 O (fA 4 t7) fun t44 =>
 ST Try.prog 3 t44 t43 w fun _ w =>
 j82_1 R t4 t2 t7 t6 w)
 (j82_1 R t4 t2 t7 t6 w)
def j82_0 (R : Value → World → Prop) (t4 : Value) (t7 : Value) (t2 : Value) (t6 : Value) (w : World) : Prop :=
 O (fA 0 t4) fun t34 =>
 O (rd1 t34 w) fun t35 =>
 O (bi .eql t35 (.int .i64 23)) fun t36 =>
 Bc t36
 (j82_4 R t4 t7 t2 t6 (.bool true) w)
 (O (fA 0 t4) fun t38 =>
 O (rd1 t38 w) fun t39 =>
 O (bi .eql t39 (.int .i64 24)) fun t40 =>
 j82_4 R t4 t7 t2 t6 t40 w)
def j82_5 (R : Value → World → Prop) (t4 : Value) (t2 : Value) (t7 : Value) (t6 : Value) (t27 : Value) (w : World) : Prop :=
 Bc t27
 (O (fA 2 t4) fun t29 =>
 O (rd1 t29 w) fun t30 =>
 O (iS 1 t2 t30) fun t31 =>
 O (rd1 t31 w) fun t32 =>
 O (fA 3 t7) fun t33 =>
 ST Try.prog 2 t33 t32 w fun _ w =>
 j82_0 R t4 t7 t2 t6 w)
 (j82_0 R t4 t7 t2 t6 w)
def c82 (R : Value → World → Prop) (t0 : Value) (t1 : Value) (t2 : Value) (w : World) : Prop :=
 AL (.cells (Value.cells t1) 79) w fun t4 w =>
 AL (.cells #[.int .i64 0, .int .i64 0, .int .i64 0, .int .i64 0, .int .i64 0, .slice none 0 0] 162) w fun t6 w =>
 O (fA 0 t4) fun t8 =>
 O (rd1 t8 w) fun t9 =>
 O (fA 6 t4) fun t10 =>
 O (rd1 t10 w) fun t11 =>
 O (fA 4 t4) fun t12 =>
 O (rd1 t12 w) fun t13 =>
 O ((fillW Try.prog 162 [(0, t9), (1, t11), (2, t13)]).map .agg) fun t14 =>
 AL (.cells #[.int .i64 0, .int .i64 0, .int .i64 0, .int .i64 0, .int .i64 0, .slice none 0 0] 162) w fun t7 w =>
 ST Try.prog 162 t7 t14 w fun _ w =>
 O (fA 0 t4) fun t15 =>
 O (rd1 t15 w) fun t16 =>
 O (bi .eql t16 (.int .i64 23)) fun t17 =>
 Bc t17
 (j82_5 R t4 t2 t7 t6 (.bool true) w)
 (O (fA 0 t4) fun t19 =>
 O (rd1 t19 w) fun t20 =>
 O (bi .eql t20 (.int .i64 24)) fun t21 =>
 Bc t21
 (j82_5 R t4 t2 t7 t6 (.bool true) w)
 (O (fA 0 t4) fun t24 =>
 O (rd1 t24 w) fun t25 =>
 O (bi .eql t25 (.int .i64 28)) fun t26 =>
 j82_5 R t4 t2 t7 t6 t26 w))
def p82 : Plan := .seq (.leaf) (.seq (.leaf) (.join [] [2, 4, 6, 7] (.join [27] [2, 4, 6, 7] (.leaf) (.cond (.leaf) (.leaf))) (.join [] [2, 4, 6, 7] (.join [41] [2, 4, 6, 7] (.leaf) (.cond (.leaf) (.leaf))) (.join [] [6, 7] (.join [62] [2, 4, 6, 7] (.leaf) (.cond (.leaf) (.leaf))) (.seq (.leaf) (.leaf))))))
theorem e82 (R : Value → World → Prop) (t0 : Value) (t1 : Value) (t2 : Value) (w : World) : cw Try.prog 70 p82 (Try.f82.body.getD .skip) (fnQ Try.prog Try.f82.results.toList R) (argE 0 [t0, t1, t2]) w = c82 R t0 t1 t2 w := by kernel_rfl
theorem b82 : Try.f82.body = some (Try.f82.body.getD .skip) := by kernel_rfl
theorem s82 {R : Value → World → Prop} {t0 : Value} {t1 : Value} {t2 : Value} {w : World} (h : c82 R t0 t1 t2 w) : Cl Try.prog 82 [t0, t1, t2] w R :=
  calls_of_cw mixed p82 Try.func82 b82 Try.ntmps82 (by simp) (by rw [e82]; exact h)

end Go.Proofs.Ytedcfkigfcobaaa
end
/- Printed by wip/tools/gen.py: the bodies of functions 88 83 101 96 97 84 100 86 87 98 99 85 with named temporaries, tied to the loaded program. -/
section
set_option maxRecDepth 100000
namespace Go.Proofs.Ytedcfkigfcobaaa
open Go Go.Proofs
def c88 (R : Value → World → Prop) (t0 : Value) (t1 : Value) (w : World) : Prop :=
 Dr w fun w =>
 O (nC t0) fun t5 =>
 O (fA 8 t5) fun t6 =>
 O (rd1 t6 w) fun t7 =>
 O (nC t0) fun t9 =>
 O (fA 8 t9) fun t10 =>
 O (rd1 t10 w) fun t11 =>
 O (lenS t11) fun t12 =>
 O (bi .sub t12 (.int .i64 1)) fun t13 =>
 O (bi .sub t13 t1) fun t15 =>
 O (iS 3 t7 t15) fun t16 =>
 O (fA 1 t16) fun t17 =>
 O (rd1 t17 w) fun t18 =>
 O (bi .add t18 (.int .i64 1)) fun t19 =>
 O (iS 3 t7 t15) fun t20 =>
 O (fA 1 t20) fun t21 =>
 ST Try.prog 3 t21 t19 w fun _ w =>
 R (.tuple #[]) w
def p88 : Plan := .ord [0, 1, 3, 7, 0, 16, 48, 112, 240, 496, 0, 2032, 4095, 8191, 16383, 32767, 65535, 131071, 262143]
theorem e88 (R : Value → World → Prop) (t0 : Value) (t1 : Value) (w : World) : cw Try.prog 22 p88 (Try.f88.body.getD .skip) (fnQ Try.prog Try.f88.results.toList R) (argE 0 [t0, t1]) w = c88 R t0 t1 w := by kernel_rfl
theorem b88 : Try.f88.body = some (Try.f88.body.getD .skip) := by kernel_rfl
theorem s88 {R : Value → World → Prop} {t0 : Value} {t1 : Value} {w : World} (h : c88 R t0 t1 w) : Cl Try.prog 88 [t0, t1] w R :=
  calls_of_cw mixed p88 Try.func88 b88 Try.ntmps88 (by simp) (by rw [e88]; exact h)
def j83_0 (R : Value → World → Prop) (t5 : Value) (t2 : Value) (t0 : Value) (t9 : Value) (w : World) : Prop :=
 O (fA 1 t5) fun t92 =>
 O (rd1 t92 w) fun t93 =>
 O (iS 1 t2 t93) fun t95 =>
 ST Try.prog 2 t95 t9 w fun _ w =>
 Cl Try.prog 88 [t0, (.int .i64 0)] w fun t97 w =>
 R (.bool true) w
def c83 (R : Value → World → Prop) (t0 : Value) (t1 : Value) (t2 : Value) (t3 : Value) (w : World) : Prop :=
 AL (.cells (Value.cells t1) 79) w fun t5 w =>
 O (fA 0 t5) fun t10 =>
 O (rd1 t10 w) fun t11 =>
 O (bi .eql t11 (.int .i64 1)) fun t13 =>
 Bc t13
 (O (fA 4 t5) fun t14 =>
 O (rd1 t14 w) fun t15 =>
 j83_0 R t5 t2 t0 t15 w)
 (O (bi .eql t11 (.int .i64 2)) fun t17 =>
 Bc t17
 (O (fA 2 t5) fun t19 =>
 O (rd1 t19 w) fun t20 =>
 O (iS 1 t2 t20) fun t21 =>
 O (rd1 t21 w) fun t22 =>
 j83_0 R t5 t2 t0 t22 w)
 (O (bi .eql t11 (.int .i64 3)) fun t24 =>
 Bc t24
 (Dr w fun w =>
 O (fA 2 t5) fun t26 =>
 O (rd1 t26 w) fun t27 =>
 O (iS 1 t2 t27) fun t28 =>
 O (rd1 t28 w) fun t29 =>
 O (fA 3 t5) fun t31 =>
 O (rd1 t31 w) fun t32 =>
 O (iS 1 t2 t32) fun t33 =>
 O (rd1 t33 w) fun t34 =>
 O (bi .add t29 t34) fun t35 =>
 j83_0 R t5 t2 t0 t35 w)
 (O (bi .eql t11 (.int .i64 4)) fun t37 =>
 Bc t37
 (Dr w fun w =>
 O (fA 2 t5) fun t39 =>
 O (rd1 t39 w) fun t40 =>
 O (iS 1 t2 t40) fun t41 =>
 O (rd1 t41 w) fun t42 =>
 O (fA 3 t5) fun t44 =>
 O (rd1 t44 w) fun t45 =>
 O (iS 1 t2 t45) fun t46 =>
 O (rd1 t46 w) fun t47 =>
 O (bi .sub t42 t47) fun t48 =>
 j83_0 R t5 t2 t0 t48 w)
 (O (bi .eql t11 (.int .i64 5)) fun t50 =>
 Bc t50
 (Dr w fun w =>
 O (fA 2 t5) fun t52 =>
 O (rd1 t52 w) fun t53 =>
 O (iS 1 t2 t53) fun t54 =>
 O (rd1 t54 w) fun t55 =>
 O (fA 3 t5) fun t57 =>
 O (rd1 t57 w) fun t58 =>
 O (iS 1 t2 t58) fun t59 =>
 O (rd1 t59 w) fun t60 =>
 O (bi .mul t55 t60) fun t61 =>
 j83_0 R t5 t2 t0 t61 w)
 (O (bi .eql t11 (.int .i64 6)) fun t63 =>
 Bc t63
 (Dr w fun w =>
 O (fA 2 t5) fun t65 =>
 O (rd1 t65 w) fun t66 =>
 O (iS 1 t2 t66) fun t67 =>
 O (rd1 t67 w) fun t68 =>
 O (fA 3 t5) fun t70 =>
 O (rd1 t70 w) fun t71 =>
 O (iS 1 t2 t71) fun t72 =>
 O (rd1 t72 w) fun t73 =>
 O (bi .lss t68 t73) fun t74 =>
 Bc t74
 (j83_0 R t5 t2 t0 (.int .i64 1) w)
 (j83_0 R t5 t2 t0 (.int .i64 0) w))
 (O (bi .eql t11 (.int .i64 7)) fun t76 =>
 Bc t76
 (Dr w fun w =>
 O (fA 2 t5) fun t78 =>
 O (rd1 t78 w) fun t79 =>
 O (iS 1 t2 t79) fun t80 =>
 O (rd1 t80 w) fun t81 =>
 O (fA 3 t5) fun t83 =>
 O (rd1 t83 w) fun t84 =>
 O (iS 1 t2 t84) fun t85 =>
 O (rd1 t85 w) fun t86 =>
 O (bi .eql t81 t86) fun t87 =>
 Bc t87
 (j83_0 R t5 t2 t0 (.int .i64 1) w)
 (j83_0 R t5 t2 t0 (.int .i64 0) w))
 (O (bi .eql t11 (.int .i64 8)) fun t89 =>
 Bc t89
 (j83_0 R t5 t2 t0 t3 w)
 (R (.bool false) w))))))))
def p83 : Plan := .seq (.leaf) (.seq (.leaf) (.join [9] [0, 2, 5] (.seq (.leaf) (.block (.seq (.leaf) (.cond (.leaf) (.seq (.leaf) (.cond (.leaf) (.seq (.leaf) (.cond (.ord [0, 0, 2, 7, 15, 0, 0, 64, 224, 480, 1023, 2047]) (.seq (.leaf) (.cond (.ord [0, 0, 2, 7, 15, 0, 0, 64, 224, 480, 1023, 2047]) (.seq (.leaf) (.cond (.ord [0, 0, 2, 7, 15, 0, 0, 64, 224, 480, 1023, 2047]) (.seq (.leaf) (.cond (.seq (.ord [0, 0, 2, 7, 15, 0, 0, 64, 224, 480, 1023]) (.cond (.leaf) (.leaf))) (.seq (.leaf) (.cond (.seq (.ord [0, 0, 2, 7, 15, 0, 0, 64, 224, 480, 1023]) (.cond (.leaf) (.leaf))) (.seq (.leaf) (.cond (.leaf) (.seq (.leaf) (.leaf)))))))))))))))))))) (.seq (.leaf) (.seq (.leaf) (.seq (.leaf) (.leaf))))))
theorem e83 (R : Value → World → Prop) (t0 : Value) (t1 : Value) (t2 : Value) (t3 : Value) (w : World) : cw Try.prog 98 p83 (Try.f83.body.getD .skip) (fnQ Try.prog Try.f83.results.toList R) (argE 0 [t0, t1, t2, t3]) w = c83 R t0 t1 t2 t3 w := by kernel_rfl
theorem b83 : Try.f83.body = some (Try.f83.body.getD .skip) := by kernel_rfl
theorem s83 {R : Value → World → Prop} {t0 : Value} {t1 : Value} {t2 : Value} {t3 : Value} {w : World} (h : c83 R t0 t1 t2 t3 w) : Cl Try.prog 83 [t0, t1, t2, t3] w R :=
  calls_of_cw mixed p83 Try.func83 b83 Try.ntmps83 (by simp) (by rw [e83]; exact h)
def j101_0 (R : Value → World → Prop) (t6 : Value) (I0 : Value → World → Prop) (μ0 : Value → World → Nat) (wh0 : World) (w : World) : Prop :=
 O (bi .add t6 (.int .i64 1)) fun t22 =>
 I0 t22 w ∧ μ0 t22 w < μ0 t6 wh0
def c101 (R : Value → World → Prop) (t0 : Value) (t1 : Value) (w : World) : Prop :=
 AL (.cells (Value.cells t1) 195) w fun t3 w =>
 O (nC t0) fun t8 =>
 O (fA 0 t8) fun t9 =>
 O (rd1 t9 w) fun t10 =>
 O (lenS t10) fun t11 =>
 O (bi .geq t11 (.int .i64 1024)) fun t12 =>
 Bc t12
 (R (.tuple #[(.int .i64 0), (.int .i64 11)]) w)
 (O (fA 5 t3) fun t13 =>
 ST Try.prog 3 t13 (.int .i64 0) w fun _ w =>
 ∃ (I0 : Value → World → Prop) (μ0 : Value → World → Nat), I0 (.int .i64 0) w ∧ ∀ (t6 : Value) wh0, I0 t6 wh0 →
 O (nC t0) fun t16 =>
 O (fA 0 t16) fun t17 =>
 O (rd1 t17 wh0) fun t18 =>
 O (lenS t18) fun t19 =>
 O (bi .lss t6 t19) fun t20 =>
 Bc t20
 (Dr wh0 fun w =>
 O (nC t0) fun t24 =>
 O (fA 0 t24) fun t25 =>
 O (rd1 t25 w) fun t26 =>
 O (iS 6 t26 t6) fun t28 =>
 O (fA 4 t28) fun t29 =>
 O (rd1 t29 w) fun t30 =>
 O (fA 4 t3) fun t31 =>
 O (rd1 t31 w) fun t32 =>
 O (bi .eql t30 t32) fun t33 =>
 Bc t33
 (O (fA 5 t3) fun t34 =>
 O (rd1 t34 w) fun t35 =>
 O (bi .add t35 (.int .i64 1)) fun t36 =>
 O (fA 5 t3) fun t37 =>
 ST Try.prog 3 t37 t36 w fun _ w =>
 j101_0 R t6 I0 μ0 wh0 w)
 (j101_0 R t6 I0 μ0 wh0 w))
 (Dr wh0 fun w =>
 O (nC t0) fun t40 =>
 O (fA 0 t40) fun t41 =>
 O (rd1 t41 w) fun t42 =>
 O (rdN 6 t3 w) fun t43 =>
 BS 195 6 1 (.agg #[.int .i64 0, .int .i64 0, .slice none 0 0, .int .i64 0, .int .i64 0, .int .i64 0]) [(0, t43)] w fun t44 w =>
 AP Try.prog #[90, 90] 90 [t42, t44] w fun t45 w =>
 O (nC t0) fun t46 =>
 O (fA 0 t46) fun t47 =>
 ST Try.prog 90 t47 t45 w fun _ w =>
 O (nC t0) fun t49 =>
 O (fA 0 t49) fun t50 =>
 O (rd1 t50 w) fun t51 =>
 O (lenS t51) fun t52 =>
 R (.tuple #[t52, (.int .i64 0)]) w))
def p101 : Plan := .seq (.leaf) (.seq (.seq (.leaf) (.cond (.seq (.leaf) (.leaf)) (.leaf))) (.seq (.leaf) (.seq (.seq (.leaf) (.block (.loop [6] [0, 3] (.seq (.seq (.leaf) (.cond (.leaf) (.leaf))) (.join [] [0, 3, 6] (.block (.seq (.ord [0, 1, 3, 7, 0, 31, 63, 127, 0, 256, 1023]) (.cond (.leaf) (.leaf)))) (.leaf)))))) (.seq (.ord [0, 0, 2, 6, 14, 0, 32, 126, 255, 511, 1023]) (.seq (.leaf) (.leaf))))))
theorem e101 (R : Value → World → Prop) (t0 : Value) (t1 : Value) (w : World) : cw Try.prog 53 p101 (Try.f101.body.getD .skip) (fnQ Try.prog Try.f101.results.toList R) (argE 0 [t0, t1]) w = c101 R t0 t1 w := by kernel_rfl
theorem b101 : Try.f101.body = some (Try.f101.body.getD .skip) := by kernel_rfl
theorem s101 {R : Value → World → Prop} {t0 : Value} {t1 : Value} {w : World} (h : c101 R t0 t1 w) : Cl Try.prog 101 [t0, t1] w R :=
  calls_of_cw mixed p101 Try.func101 b101 Try.ntmps101 (by simp) (by rw [e101]; exact h)
def j96_0 (R : Value → World → Prop) (t3 : Value) (t1 : Value) (t2 : Value) (t4 : Value) (t5 : Value) (t0 : Value) (t39 : Value) (w : World) : Prop :=
 Bc t39
 (R (.tuple #[(.int .i64 0), (.int .i64 2)]) w)
 (MS 2 1 8 (.int .i64 0) t3 t3 w fun t44 w =>
 O ((fillW Try.prog 195 [(0, t1), (1, t2), (2, t44), (3, t4), (4, t5)]).map .agg) fun t47 =>
 Cl Try.prog 101 [t0, t47] w fun t48 w =>
 O (exv t48 0) fun t49 =>
 O (exv t48 1) fun t50 =>
 R (.tuple #[t49, t50]) w)
def c96 (R : Value → World → Prop) (t0 : Value) (t1 : Value) (t2 : Value) (t3 : Value) (t4 : Value) (t5 : Value) (w : World) : Prop :=
 O (bi .neq t1 (.int .i64 1)) fun t15 =>
 Bc t15
 (O (bi .neq t1 (.int .i64 2)) fun t18 =>
 Bc t18
 (O (bi .neq t1 (.int .i64 3)) fun t22 =>
 Bc t22
 (j96_0 R t3 t1 t2 t4 t5 t0 (.bool true) w)
 (O (bi .lss t3 (.int .i64 0)) fun t26 =>
 Bc t26
 (j96_0 R t3 t1 t2 t4 t5 t0 (.bool true) w)
 (O (bi .gtr t3 (.int .i64 64)) fun t30 =>
 Bc t30
 (j96_0 R t3 t1 t2 t4 t5 t0 (.bool true) w)
 (O (bi .eql t1 (.int .i64 3)) fun t34 =>
 Bc t34
 (O (bi .neq t3 (.int .i64 1)) fun t37 =>
 j96_0 R t3 t1 t2 t4 t5 t0 t37 w)
 (j96_0 R t3 t1 t2 t4 t5 t0 (.bool false) w)))))
 (O (bi .lss t3 (.int .i64 0)) fun t26 =>
 Bc t26
 (j96_0 R t3 t1 t2 t4 t5 t0 (.bool true) w)
 (O (bi .gtr t3 (.int .i64 64)) fun t30 =>
 Bc t30
 (j96_0 R t3 t1 t2 t4 t5 t0 (.bool true) w)
 (O (bi .eql t1 (.int .i64 3)) fun t34 =>
 Bc t34
 (O (bi .neq t3 (.int .i64 1)) fun t37 =>
 j96_0 R t3 t1 t2 t4 t5 t0 t37 w)
 (j96_0 R t3 t1 t2 t4 t5 t0 (.bool false) w)))))
 (O (bi .lss t3 (.int .i64 0)) fun t26 =>
 Bc t26
 (j96_0 R t3 t1 t2 t4 t5 t0 (.bool true) w)
 (O (bi .gtr t3 (.int .i64 64)) fun t30 =>
 Bc t30
 (j96_0 R t3 t1 t2 t4 t5 t0 (.bool true) w)
 (O (bi .eql t1 (.int .i64 3)) fun t34 =>
 Bc t34
 (O (bi .neq t3 (.int .i64 1)) fun t37 =>
 j96_0 R t3 t1 t2 t4 t5 t0 t37 w)
 (j96_0 R t3 t1 t2 t4 t5 t0 (.bool false) w))))
def p96 : Plan := .seq (.leaf) (.seq (.join [39] [0, 1, 2, 3, 4, 5] (.leaf) (.cond (.seq (.leaf) (.leaf)) (.leaf))) (.seq (.leaf) (.leaf)))
theorem e96 (R : Value → World → Prop) (t0 : Value) (t1 : Value) (t2 : Value) (t3 : Value) (t4 : Value) (t5 : Value) (w : World) : cw Try.prog 51 p96 (Try.f96.body.getD .skip) (fnQ Try.prog Try.f96.results.toList R) (argE 0 [t0, t1, t2, t3, t4, t5]) w = c96 R t0 t1 t2 t3 t4 t5 w := by kernel_rfl
theorem b96 : Try.f96.body = some (Try.f96.body.getD .skip) := by kernel_rfl
theorem s96 {R : Value → World → Prop} {t0 : Value} {t1 : Value} {t2 : Value} {t3 : Value} {t4 : Value} {t5 : Value} {w : World} (h : c96 R t0 t1 t2 t3 t4 t5 w) : Cl Try.prog 96 [t0, t1, t2, t3, t4, t5] w R :=
  calls_of_cw mixed p96 Try.func96 b96 Try.ntmps96 (by simp) (by rw [e96]; exact h)
def c97 (R : Value → World → Prop) (t0 : Value) (t1 : Value) (t2 : Value) (t3 : Value) (t4 : Value) (w : World) : Prop :=
 O (lenS t2) fun t13 =>
 O (bi .gtr t13 (.int .i64 256)) fun t14 =>
 Bc t14
 (R (.tuple #[(.int .i64 0), (.int .i64 2)]) w)
 (AP Try.prog #[42, 42] 42 [(.slice none 0 0), t2] w fun t18 w =>
 O ((fillW Try.prog 195 [(0, (.int .i64 4)), (1, t1), (2, t18), (3, t3), (4, t4)]).map .agg) fun t21 =>
 Cl Try.prog 101 [t0, t21] w fun t22 w =>
 O (exv t22 0) fun t23 =>
 O (exv t22 1) fun t24 =>
 R (.tuple #[t23, t24]) w)
def p97 : Plan := .seq (.leaf) (.seq (.seq (.leaf) (.cond (.seq (.leaf) (.leaf)) (.leaf))) (.seq (.leaf) (.leaf)))
theorem e97 (R : Value → World → Prop) (t0 : Value) (t1 : Value) (t2 : Value) (t3 : Value) (t4 : Value) (w : World) : cw Try.prog 25 p97 (Try.f97.body.getD .skip) (fnQ Try.prog Try.f97.results.toList R) (argE 0 [t0, t1, t2, t3, t4]) w = c97 R t0 t1 t2 t3 t4 w := by kernel_rfl
theorem b97 : Try.f97.body = some (Try.f97.body.getD .skip) := by kernel_rfl
theorem s97 {R : Value → World → Prop} {t0 : Value} {t1 : Value} {t2 : Value} {t3 : Value} {t4 : Value} {w : World} (h : c97 R t0 t1 t2 t3 t4 w) : Cl Try.prog 97 [t0, t1, t2, t3, t4] w R :=
  calls_of_cw mixed p97 Try.func97 b97 Try.ntmps97 (by simp) (by rw [e97]; exact h)
def j84_0 (R : Value → World → Prop) (t7 : Value) (t3 : Value) (t0 : Value) (t12 : Value) (t13 : Value) (w : World) : Prop :=
 O (bi .neq t13 (.int .i64 0)) fun t117 =>
 Bc t117
 (R (.tuple #[(.bool true), (.int .i64 11)]) w)
 (O (fA 1 t7) fun t119 =>
 O (rd1 t119 w) fun t120 =>
 O (iS 1 t3 t120) fun t122 =>
 ST Try.prog 2 t122 t12 w fun _ w =>
 Cl Try.prog 88 [t0, (.int .i64 0)] w fun t124 w =>
 R (.tuple #[(.bool true), (.int .i64 0)]) w)
def j84_1 (R : Value → World → Prop) (t0 : Value) (t7 : Value) (t3 : Value) (t1 : Value) (t4 : Value) (t68 : Value) (w : World) : Prop :=
 Bc t68
 (O (nC t0) fun t70 =>
 O (fA 9 t70) fun t71 =>
 ST Try.prog 71 t71 (.int .i64 3) w fun _ w =>
 R (.tuple #[(.bool true), (.int .i64 0)]) w)
 (Dr w fun w =>
 O (fA 2 t7) fun t75 =>
 O (rd1 t75 w) fun t76 =>
 O (iS 1 t3 t76) fun t77 =>
 O (rd1 t77 w) fun t78 =>
 O (fA 6 t7) fun t79 =>
 O (rd1 t79 w) fun t80 =>
 Cl Try.prog 96 [t1, (.int .i64 2), (.int .i64 0), t78, t80, t4] w fun t82 w =>
 O (exv t82 0) fun t83 =>
 O (exv t82 1) fun t84 =>
 j84_0 R t7 t3 t0 t83 t84 w)
def c84 (R : Value → World → Prop) (t0 : Value) (t1 : Value) (t2 : Value) (t3 : Value) (t4 : Value) (w : World) : Prop :=
 AL (.cells (Value.cells t2) 79) w fun t7 w =>
 O (fA 0 t7) fun t16 =>
 O (rd1 t16 w) fun t17 =>
 O (bi .eql t17 (.int .i64 11)) fun t19 =>
 Bc t19
 (O (fA 4 t7) fun t22 =>
 O (rd1 t22 w) fun t23 =>
 O (fA 6 t7) fun t24 =>
 O (rd1 t24 w) fun t25 =>
 Cl Try.prog 96 [t1, (.int .i64 3), t23, (.int .i64 1), t25, t4] w fun t27 w =>
 O (exv t27 0) fun t28 =>
 O (exv t27 1) fun t29 =>
 j84_0 R t7 t3 t0 t28 t29 w)
 (O (bi .eql t17 (.int .i64 14)) fun t31 =>
 Bc t31
 (Dr w fun w =>
 O (fA 4 t7) fun t34 =>
 O (rd1 t34 w) fun t35 =>
 O (nC t0) fun t37 =>
 O (fA 0 t37) fun t38 =>
 O (fA 1 t38) fun t39 =>
 O (rd1 t39 w) fun t40 =>
 O (fA 4 t7) fun t41 =>
 O (rd1 t41 w) fun t42 =>
 O (iS 3 t40 t42) fun t43 =>
 O (fA 2 t43) fun t44 =>
 O (rd1 t44 w) fun t45 =>
 O (lenS t45) fun t46 =>
 O (fA 6 t7) fun t47 =>
 O (rd1 t47 w) fun t48 =>
 Cl Try.prog 96 [t1, (.int .i64 1), t35, t46, t48, t4] w fun t50 w =>
 O (exv t50 0) fun t51 =>
 O (exv t50 1) fun t52 =>
 j84_0 R t7 t3 t0 t51 t52 w)
 (O (bi .eql t17 (.int .i64 17)) fun t54 =>
 Bc t54
 (O (fA 2 t7) fun t56 =>
 O (rd1 t56 w) fun t57 =>
 O (iS 1 t3 t57) fun t58 =>
 O (rd1 t58 w) fun t59 =>
 O (bi .lss t59 (.int .i64 0)) fun t60 =>
 Bc t60
 (j84_1 R t0 t7 t3 t1 t4 (.bool true) w)
 (O (fA 2 t7) fun t63 =>
 O (rd1 t63 w) fun t64 =>
 O (iS 1 t3 t64) fun t65 =>
 O (rd1 t65 w) fun t66 =>
 O (bi .gtr t66 (.int .i64 64)) fun t67 =>
 j84_1 R t0 t7 t3 t1 t4 t67 w))
 (O (bi .eql t17 (.int .i64 21)) fun t86 =>
 Bc t86
 (∃ (I0 : Value → Value → World → Prop) (μ0 : Value → Value → World → Nat), I0 (.slice none 0 0) (.int .i64 0) w ∧ ∀ (t14 : Value) (t15 : Value) wh0, I0 t14 t15 wh0 →
 O (fA 5 t7) fun t88 =>
 O (rd1 t88 wh0) fun t89 =>
 O (lenS t89) fun t90 =>
 O (bi .lss t15 t90) fun t91 =>
 Bc t91
 (O (fA 5 t7) fun t96 =>
 O (rd1 t96 wh0) fun t97 =>
 O (iS 1 t97 t15) fun t99 =>
 O (rd1 t99 wh0) fun t100 =>
 O (iS 1 t3 t100) fun t101 =>
 O (rd1 t101 wh0) fun t102 =>
 BS 2 1 1 (.int .i64 0) [(0, t102)] wh0 fun t103 w =>
 AP Try.prog #[42, 42] 42 [t14, t103] w fun t104 w =>
 O (bi .add t15 (.int .i64 1)) fun t93 =>
 I0 t104 t93 w ∧ μ0 t104 t93 w < μ0 t14 t15 wh0)
 (O (fA 4 t7) fun t107 =>
 O (rd1 t107 wh0) fun t108 =>
 O (fA 6 t7) fun t110 =>
 O (rd1 t110 wh0) fun t111 =>
 Cl Try.prog 97 [t1, t108, t14, t111, t4] wh0 fun t113 w =>
 O (exv t113 0) fun t114 =>
 O (exv t113 1) fun t115 =>
 j84_0 R t7 t3 t0 t114 t115 w))
 (R (.tuple #[(.bool false), (.int .i64 0)]) w))))
def p84 : Plan := .seq (.leaf) (.seq (.leaf) (.join [12, 13] [0, 3, 7] (.seq (.leaf) (.block (.seq (.leaf) (.cond (.leaf) (.seq (.leaf) (.cond (.ord [0, 0, 2, 0, 8, 24, 56, 120, 0, 256, 1016, 2040, 4088, 8184, 0, 16384, 0, 131071, 262143, 524287, 524287, 1048575, 4194303]) (.seq (.leaf) (.cond (.seq (.join [68] [0, 1, 3, 4, 7] (.leaf) (.cond (.seq (.leaf) (.seq (.leaf) (.leaf))) (.leaf))) (.ord [0, 0, 0, 4, 14, 30, 0, 64, 0, 511, 1023, 2047, 2047, 4095, 16383])) (.seq (.leaf) (.cond (.seq (.leaf) (.seq (.seq (.leaf) (.block (.loop [14, 15] [0, 1, 3, 4, 7] (.seq (.seq (.leaf) (.cond (.leaf) (.leaf))) (.seq (.block (.leaf)) (.leaf)))))) (.leaf))) (.seq (.leaf) (.leaf)))))))))))) (.seq (.seq (.leaf) (.cond (.seq (.leaf) (.leaf)) (.leaf))) (.seq (.leaf) (.seq (.leaf) (.seq (.leaf) (.leaf)))))))
theorem e84 (R : Value → World → Prop) (t0 : Value) (t1 : Value) (t2 : Value) (t3 : Value) (t4 : Value) (w : World) : cw Try.prog 125 p84 (Try.f84.body.getD .skip) (fnQ Try.prog Try.f84.results.toList R) (argE 0 [t0, t1, t2, t3, t4]) w = c84 R t0 t1 t2 t3 t4 w := by kernel_rfl
theorem b84 : Try.f84.body = some (Try.f84.body.getD .skip) := by kernel_rfl
theorem s84 {R : Value → World → Prop} {t0 : Value} {t1 : Value} {t2 : Value} {t3 : Value} {t4 : Value} {w : World} (h : c84 R t0 t1 t2 t3 t4 w) : Cl Try.prog 84 [t0, t1, t2, t3, t4] w R :=
  calls_of_cw mixed p84 Try.func84 b84 Try.ntmps84 (by simp) (by rw [e84]; exact h)
def c100 (R : Value → World → Prop) (t0 : Value) (t1 : Value) (w : World) : Prop :=
 O (bi .geq t1 (.int .i64 1)) fun t6 =>
 Bc t6
 (O (nC t0) fun t10 =>
 O (fA 0 t10) fun t11 =>
 O (rd1 t11 w) fun t12 =>
 O (lenS t12) fun t13 =>
 O (bi .leq t1 t13) fun t14 =>
 R t14 w)
 (R (.bool false) w)
def p100 : Plan := .seq (.leaf) (.seq (.leaf) (.leaf))
theorem e100 (R : Value → World → Prop) (t0 : Value) (t1 : Value) (w : World) : cw Try.prog 16 p100 (Try.f100.body.getD .skip) (fnQ Try.prog Try.f100.results.toList R) (argE 0 [t0, t1]) w = c100 R t0 t1 w := by kernel_rfl
theorem b100 : Try.f100.body = some (Try.f100.body.getD .skip) := by kernel_rfl
theorem s100 {R : Value → World → Prop} {t0 : Value} {t1 : Value} {w : World} (h : c100 R t0 t1 w) : Cl Try.prog 100 [t0, t1] w R :=
  calls_of_cw mixed p100 Try.func100 b100 Try.ntmps100 (by simp) (by rw [e100]; exact h)
def c86 (R : Value → World → Prop) (t0 : Value) (t1 : Value) (t2 : Value) (w : World) : Prop :=
 Cl Try.prog 100 [t0, t1] w fun t9 w =>
 Bc t9
 (O (nC t0) fun t12 =>
 O (fA 0 t12) fun t13 =>
 O (rd1 t13 w) fun t14 =>
 O (bi .sub t1 (.int .i64 1)) fun t16 =>
 O (iS 6 t14 t16) fun t17 =>
 O (fA 0 t17) fun t18 =>
 O (rd1 t18 w) fun t19 =>
 O (bi .eql t19 t2) fun t21 =>
 R t21 w)
 (R (.bool false) w)
def p86 : Plan := .seq (.leaf) (.seq (.leaf) (.leaf))
theorem e86 (R : Value → World → Prop) (t0 : Value) (t1 : Value) (t2 : Value) (w : World) : cw Try.prog 23 p86 (Try.f86.body.getD .skip) (fnQ Try.prog Try.f86.results.toList R) (argE 0 [t0, t1, t2]) w = c86 R t0 t1 t2 w := by kernel_rfl
theorem b86 : Try.f86.body = some (Try.f86.body.getD .skip) := by kernel_rfl
theorem s86 {R : Value → World → Prop} {t0 : Value} {t1 : Value} {t2 : Value} {w : World} (h : c86 R t0 t1 t2 w) : Cl Try.prog 86 [t0, t1, t2] w R :=
  calls_of_cw mixed p86 Try.func86 b86 Try.ntmps86 (by simp) (by rw [e86]; exact h)
def c87 (R : Value → World → Prop) (t0 : Value) (t1 : Value) (w : World) : Prop :=
 Cl Try.prog 100 [t0, t1] w fun t7 w =>
 O (un .not t7) fun t8 =>
 Bc t8
 (R (.int .i64 0) w)
 (O (nC t0) fun t10 =>
 O (fA 0 t10) fun t11 =>
 O (rd1 t11 w) fun t12 =>
 O (bi .sub t1 (.int .i64 1)) fun t14 =>
 O (iS 6 t12 t14) fun t15 =>
 O (fA 2 t15) fun t16 =>
 O (rd1 t16 w) fun t17 =>
 O (lenS t17) fun t18 =>
 R t18 w)
def p87 : Plan := .seq (.leaf) (.seq (.seq (.leaf) (.cond (.seq (.leaf) (.leaf)) (.leaf))) (.seq (.leaf) (.leaf)))
theorem e87 (R : Value → World → Prop) (t0 : Value) (t1 : Value) (w : World) : cw Try.prog 19 p87 (Try.f87.body.getD .skip) (fnQ Try.prog Try.f87.results.toList R) (argE 0 [t0, t1]) w = c87 R t0 t1 w := by kernel_rfl
theorem b87 : Try.f87.body = some (Try.f87.body.getD .skip) := by kernel_rfl
theorem s87 {R : Value → World → Prop} {t0 : Value} {t1 : Value} {w : World} (h : c87 R t0 t1 w) : Cl Try.prog 87 [t0, t1] w R :=
  calls_of_cw mixed p87 Try.func87 b87 Try.ntmps87 (by simp) (by rw [e87]; exact h)
def j98_0 (R : Value → World → Prop) (t0 : Value) (t1 : Value) (t2 : Value) (t3 : Value) (t22 : Value) (w : World) : Prop :=
 Bc t22
 (R (.int .i64 13) w)
 (O (nC t0) fun t24 =>
 O (fA 0 t24) fun t25 =>
 O (rd1 t25 w) fun t26 =>
 O (bi .sub t1 (.int .i64 1)) fun t28 =>
 O (iS 6 t26 t28) fun t29 =>
 O (fA 2 t29) fun t30 =>
 O (rd1 t30 w) fun t31 =>
 O (iS 1 t31 t2) fun t34 =>
 ST Try.prog 2 t34 t3 w fun _ w =>
 R (.int .i64 0) w)
def c98 (R : Value → World → Prop) (t0 : Value) (t1 : Value) (t2 : Value) (t3 : Value) (w : World) : Prop :=
 O (bi .lss t2 (.int .i64 0)) fun t10 =>
 Bc t10
 (j98_0 R t0 t1 t2 t3 (.bool true) w)
 (Cl Try.prog 87 [t0, t1] w fun t15 w =>
 O (bi .geq t2 t15) fun t16 =>
 Bc t16
 (j98_0 R t0 t1 t2 t3 (.bool true) w)
 (Cl Try.prog 86 [t0, t1, (.int .i64 4)] w fun t21 w =>
 j98_0 R t0 t1 t2 t3 t21 w))
def p98 : Plan := .seq (.leaf) (.seq (.join [22] [0, 1, 2, 3] (.leaf) (.cond (.seq (.leaf) (.leaf)) (.leaf))) (.seq (.leaf) (.seq (.leaf) (.leaf))))
theorem e98 (R : Value → World → Prop) (t0 : Value) (t1 : Value) (t2 : Value) (t3 : Value) (w : World) : cw Try.prog 35 p98 (Try.f98.body.getD .skip) (fnQ Try.prog Try.f98.results.toList R) (argE 0 [t0, t1, t2, t3]) w = c98 R t0 t1 t2 t3 w := by kernel_rfl
theorem b98 : Try.f98.body = some (Try.f98.body.getD .skip) := by kernel_rfl
theorem s98 {R : Value → World → Prop} {t0 : Value} {t1 : Value} {t2 : Value} {t3 : Value} {w : World} (h : c98 R t0 t1 t2 t3 w) : Cl Try.prog 98 [t0, t1, t2, t3] w R :=
  calls_of_cw mixed p98 Try.func98 b98 Try.ntmps98 (by simp) (by rw [e98]; exact h)
def j99_0 (R : Value → World → Prop) (t0 : Value) (t1 : Value) (t2 : Value) (t16 : Value) (w : World) : Prop :=
 Bc t16
 (R (.tuple #[(.int .i64 0), (.int .i64 13)]) w)
 (O (nC t0) fun t18 =>
 O (fA 0 t18) fun t19 =>
 O (rd1 t19 w) fun t20 =>
 O (bi .sub t1 (.int .i64 1)) fun t22 =>
 O (iS 6 t20 t22) fun t23 =>
 O (fA 2 t23) fun t24 =>
 O (rd1 t24 w) fun t25 =>
 O (iS 1 t25 t2) fun t27 =>
 O (rd1 t27 w) fun t28 =>
 R (.tuple #[t28, (.int .i64 0)]) w)
def c99 (R : Value → World → Prop) (t0 : Value) (t1 : Value) (t2 : Value) (w : World) : Prop :=
 O (bi .lss t2 (.int .i64 0)) fun t9 =>
 Bc t9
 (j99_0 R t0 t1 t2 (.bool true) w)
 (Cl Try.prog 87 [t0, t1] w fun t14 w =>
 O (bi .geq t2 t14) fun t15 =>
 j99_0 R t0 t1 t2 t15 w)
def p99 : Plan := .seq (.leaf) (.seq (.join [16] [0, 1, 2] (.leaf) (.cond (.seq (.leaf) (.leaf)) (.leaf))) (.seq (.leaf) (.leaf)))
theorem e99 (R : Value → World → Prop) (t0 : Value) (t1 : Value) (t2 : Value) (w : World) : cw Try.prog 29 p99 (Try.f99.body.getD .skip) (fnQ Try.prog Try.f99.results.toList R) (argE 0 [t0, t1, t2]) w = c99 R t0 t1 t2 w := by kernel_rfl
theorem b99 : Try.f99.body = some (Try.f99.body.getD .skip) := by kernel_rfl
theorem s99 {R : Value → World → Prop} {t0 : Value} {t1 : Value} {t2 : Value} {w : World} (h : c99 R t0 t1 t2 w) : Cl Try.prog 99 [t0, t1, t2] w R :=
  calls_of_cw mixed p99 Try.func99 b99 Try.ntmps99 (by simp) (by rw [e99]; exact h)
def j85_1 (R : Value → World → Prop) (t0 : Value) (t12 : Value) (t4 : Value) (t5 : Value) (t6 : Value) (t7 : Value) (w : World) : Prop :=
 Cl Try.prog 88 [t0, (.int .i64 0)] w fun t64 w =>
 O (fA 6 t12) fun t65 =>
 O (rd1 t65 w) fun t66 =>
 O ((fillW Try.prog 63 [(0, t4), (1, t5), (2, t6)]).map .agg) fun t70 =>
 O ((fillW Try.prog 65 [(0, t66), (1, t70), (2, t7)]).map .agg) fun t72 =>
 BS 65 5 1 (.agg #[.int .i64 0, .int .i64 0, .int .i64 0, .int .i64 0, .bool false]) [(0, t72)] w fun t73 w =>
 R t73 w
def j85_0 (R : Value → World → Prop) (t0 : Value) (t3 : Value) (t7 : Value) (t1 : Value) (t5 : Value) (t6 : Value) (t8 : Value) (t12 : Value) (t4 : Value) (t9 : Value) (t37 : Value) (w : World) : Prop :=
 Bc t37
 (O (nC t0) fun t39 =>
 O (fA 9 t39) fun t40 =>
 ST Try.prog 71 t40 (.int .i64 1) w fun _ w =>
 O (bi .eql t3 (.int .i64 2)) fun t42 =>
 Bc t42
 (O (nC t0) fun t44 =>
 O (fA 9 t44) fun t45 =>
 ST Try.prog 71 t45 (.int .i64 2) w fun _ w =>
 R (.slice none 0 0) w)
 (R (.slice none 0 0) w))
 (Bc t7
 (Cl Try.prog 98 [t1, t5, t6, t8] w fun t51 w =>
 j85_1 R t0 t12 t4 t5 t6 t7 w)
 (Dr w fun w =>
 O (fA 1 t12) fun t54 =>
 (O (rd1 t54 w) fun t55 =>
 Cl Try.prog 99 [t1, t5, t6] w fun t59 w =>
 O (exv t59 0) fun t60 =>
 O (exv t59 1) fun t61 =>
 O (iS 1 t9 t55) fun t62 =>
 ST Try.prog 2 t62 t60 w fun _ w =>
 j85_1 R t0 t12 t4 t5 t6 t7 w) ∧
 (Cl Try.prog 99 [t1, t5, t6] w fun t59 w =>
 O (rd1 t54 w) fun t55 =>
 O (exv t59 0) fun t60 =>
 O (exv t59 1) fun t61 =>
 O (iS 1 t9 t55) fun t62 =>
 ST Try.prog 2 t62 t60 w fun _ w =>
 j85_1 R t0 t12 t4 t5 t6 t7 w)))
def c85 (R : Value → World → Prop) (t0 : Value) (t1 : Value) (t2 : Value) (t3 : Value) (t4 : Value) (t5 : Value) (t6 : Value) (t7 : Value) (t8 : Value) (t9 : Value) (w : World) : Prop :=
 AL (.cells (Value.cells t2) 79) w fun t12 w =>
 Cl Try.prog 86 [t1, t5, t3] w fun t24 w =>
 O (un .not t24) fun t25 =>
 Bc t25
 (O (nC t0) fun t27 =>
 O (fA 9 t27) fun t28 =>
 ST Try.prog 71 t28 (.int .i64 1) w fun _ w =>
 R (.slice none 0 0) w)
 (O (bi .lss t6 (.int .i64 0)) fun t30 =>
 Bc t30
 (j85_0 R t0 t3 t7 t1 t5 t6 t8 t12 t4 t9 (.bool true) w)
 (Cl Try.prog 87 [t1, t5] w fun t35 w =>
 O (bi .geq t6 t35) fun t36 =>
 j85_0 R t0 t3 t7 t1 t5 t6 t8 t12 t4 t9 t36 w))
def p85 : Plan := .seq (.leaf) (.seq (.seq (.leaf) (.cond (.seq (.leaf) (.seq (.leaf) (.leaf))) (.leaf))) (.seq (.join [37] [0, 1, 3, 4, 5, 6, 7, 8, 9, 12] (.leaf) (.cond (.seq (.leaf) (.seq (.seq (.leaf) (.cond (.leaf) (.leaf))) (.seq (.leaf) (.leaf)))) (.leaf))) (.join [] [0, 4, 5, 6, 7, 12] (.seq (.leaf) (.cond (.leaf) (.tree [0, 0, 2, 0, 0, 0, 56, 120, 248, 248, 511, 1535] (.take 0 (.take 1 (.take 3 (.take 4 (.take 5 (.alt 2 (.take 6 (.take 7 (.take 8 (.take 9 (.take 10 (.take 11 (.done))))))) (.take 6 (.take 2 (.take 7 (.take 8 (.take 9 (.take 10 (.take 11 (.done))))))))))))))))) (.seq (.leaf) (.seq (.leaf) (.leaf))))))
theorem e85 (R : Value → World → Prop) (t0 : Value) (t1 : Value) (t2 : Value) (t3 : Value) (t4 : Value) (t5 : Value) (t6 : Value) (t7 : Value) (t8 : Value) (t9 : Value) (w : World) : cw Try.prog 74 p85 (Try.f85.body.getD .skip) (fnQ Try.prog Try.f85.results.toList R) (argE 0 [t0, t1, t2, t3, t4, t5, t6, t7, t8, t9]) w = c85 R t0 t1 t2 t3 t4 t5 t6 t7 t8 t9 w := by kernel_rfl
theorem b85 : Try.f85.body = some (Try.f85.body.getD .skip) := by kernel_rfl
theorem s85 {R : Value → World → Prop} {t0 : Value} {t1 : Value} {t2 : Value} {t3 : Value} {t4 : Value} {t5 : Value} {t6 : Value} {t7 : Value} {t8 : Value} {t9 : Value} {w : World} (h : c85 R t0 t1 t2 t3 t4 t5 t6 t7 t8 t9 w) : Cl Try.prog 85 [t0, t1, t2, t3, t4, t5, t6, t7, t8, t9] w R :=
  calls_of_cw mixed p85 Try.func85 b85 Try.ntmps85 (by simp) (by rw [e85]; exact h)

end Go.Proofs.Ytedcfkigfcobaaa
end
