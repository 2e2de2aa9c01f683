import Derived.Test.YtebacdlbhjgmlaaEnv
set_option linter.unusedVariables false
set_option linter.defProp false
set_option maxRecDepth 100000
namespace Go.Proofs.Ytebacdlbhjgmlaa
open Go.Ab
variable (n : Nat) (h : Heap) (Q : Qt) (st : St) (K : Kt) (a0 a1 a2 a3 a4 a5 a6 a7 a8 a9 b0 b1 b2 b3 b4 b5 b6 b7 b8 b9 d0 d1 d2 d3 d4 d5 d6 d7 d8 d9 e0 e1 e2 e3 e4 e5 e6 e7 e8 e9 f0 f1 f2 f3 f4 f5 f6 f7 f8 : AV)
/-! function 14: sindri/cursor.New -/
noncomputable def c14_0 : Code := bodyOf Try.f14
noncomputable def c14_1 : Code := cl c14_0
theorem w14_1 : awp X n c14_1 Q ((a0::a1::a2::a3::a4::a5::a6::a7::[]), h) = (a_mov (.v (.pointer none)) h (.c (fun t2 h1 => Q .normal ((a0::a1::t2::a3::a4::a5::a6::a7::[]), h1)) ())) := by rw [awp_eq]; kernel_rfl
noncomputable def c14_2 : Code := cr c14_0
noncomputable def c14_3 : Code := cl c14_2
theorem w14_3 : awp X n c14_3 Q ((a0::a1::a2::a3::a4::a5::a6::a7::[]), h) = (a_lit 1 0 [] [] h (.c (fun t3 h1 => a_mov a0 h1 (.c (fun t4 h2 => a_app 1 1 t3 t4 h2 (.c (fun t5 h3 => a_build [.v (.slice none 0 0), .v (.int .i64 0), .v (.bool false), .v (.int .i64 0)] [(0, 1, t5), (2, 1, (.v (.bool true)))] h3 (.c (fun t6 h4 => a_box t6 h4 (.c (fun t7 h5 => a_mov t7 h5 (.c (fun t2 h6 => Q .normal ((a0::a1::t2::t3::t4::t5::t6::t7::[]), h6)) ())) ())) ())) ())) ())) ())) := by rw [awp_eq]; kernel_rfl
noncomputable def c14_4 : Code := cr c14_2
theorem w14_4 : awp X n c14_4 Q st = Q .ret st := by rw [awp_eq]; kernel_rfl
theorem w14_2 : awp X n c14_2 Q st = awp X n c14_3 (thenQ (awp X n c14_4 Q) Q) st := by rw [awp_eq]; kernel_rfl
theorem w14_0 : awp X n c14_0 Q st = awp X n c14_1 (thenQ (awp X n c14_2 Q) Q) st := by rw [awp_eq]; kernel_rfl
theorem q14_ret : retQ X Try.f14 K .ret ((a0::a1::a2::a3::a4::a5::a6::a7::[]), h) = (K.K a2 h) := by kernel_rfl
theorem q14_normal : retQ X Try.f14 K .normal ((a0::a1::a2::a3::a4::a5::a6::a7::[]), h) = (K.K a2 h) := by kernel_rfl
theorem i14 (H : awp X h.length c14_0 (retQ X Try.f14 K) ((a0::.bad::.bad::.bad::.bad::.bad::.bad::.bad::[]), h)) : ACall X 14 [a0] h K := acall_intro (fn := Try.f14) (by kernel_rfl) (by kernel_rfl) (by kernel_rfl) H
noncomputable def R14 := And.intro (And.intro (w14_1) (And.intro w14_3 w14_4)) (And.intro (And.intro w14_2 w14_0) (And.intro q14_ret q14_normal))
/-! function 15: (*sindri/cursor.Cursor).Seek -/
noncomputable def c15_0 : Code := bodyOf Try.f15
noncomputable def c15_1 : Code := cl c15_0
noncomputable def c15_2 : Code := cl c15_1
theorem w15_2 : awp X n c15_2 Q ((a0::a1::a2::a3::a4::a5::a6::a7::a8::a9::b0::b1::b2::b3::b4::b5::b6::b7::b8::b9::d0::d1::d2::d3::[]), h) = (a_mov a0 h (.c (fun t10 h1 => ACall X 24 [t10] h1 (.c (fun t11 h2 => a_bin .neq t11 (.v (.int .i64 0)) h2 (.c (fun t12 h3 => a_mov t12 h3 (.c (fun t9 h4 => Q .normal ((a0::a1::a2::a3::a4::a5::a6::a7::a8::t9::t10::t11::t12::b3::b4::b5::b6::b7::b8::b9::d0::d1::d2::d3::[]), h4)) ())) ())) ())) ())) := by rw [awp_eq]; kernel_rfl
noncomputable def c15_3 : Code := cr c15_1
noncomputable def c15_4 : Code := cl c15_3
theorem w15_4 : awp X n c15_4 Q st = Q .normal st := by rw [awp_eq]; kernel_rfl
noncomputable def c15_5 : Code := cr c15_3
noncomputable def c15_6 : Code := cl c15_5
theorem w15_6 : awp X n c15_6 Q ((a0::a1::a2::a3::a4::a5::a6::a7::a8::a9::b0::b1::b2::b3::b4::b5::b6::b7::b8::b9::d0::d1::d2::d3::[]), h) = (a_mov a1 h (.c (fun t14 h1 => a_mov a0 h1 (.c (fun t15 h2 => a_nilc t15 h2 (.c (fun t16 h3 => a_fa 0 t16 h3 (.c (fun t17 h4 => a_load 1 false t17 h4 (.c (fun t18 h5 => a_len t18 h5 (.c (fun t19 h6 => a_cint .u64 t19 h6 (.c (fun t20 h7 => a_bin .gtr t14 t20 h7 (.c (fun t21 h8 => a_mov t21 h8 (.c (fun t13 h9 => Q .normal ((a0::a1::a2::a3::a4::a5::a6::a7::a8::a9::b0::b1::b2::t13::t14::t15::t16::t17::t18::t19::t20::t21::d2::d3::[]), h9)) ())) ())) ())) ())) ())) ())) ())) ())) ())) := by rw [awp_eq]; kernel_rfl
noncomputable def c15_7 : Code := cr c15_5
noncomputable def c15_8 : Code := cl c15_7
theorem w15_8 : awp X n c15_8 Q ((a0::a1::a2::a3::a4::a5::a6::a7::a8::a9::b0::b1::b2::b3::b4::b5::b6::b7::b8::b9::d0::d1::d2::d3::[]), h) = (a_mov a0 h (.c (fun t22 h1 => ACall X 25 [t22, (.v (.int .i64 10))] h1 (.c (fun t23 h2 => Q .normal ((a0::a1::a2::a3::a4::a5::a6::a7::a8::a9::b0::b1::b2::b3::b4::b5::b6::b7::b8::b9::d0::d1::t22::t23::[]), h2)) ())) ())) := by rw [awp_eq]; kernel_rfl
noncomputable def c15_9 : Code := cr c15_7
theorem w15_9 : awp X n c15_9 Q ((a0::a1::a2::a3::a4::a5::a6::a7::a8::a9::b0::b1::b2::b3::b4::b5::b6::b7::b8::b9::d0::d1::d2::d3::[]), h) = (a_mov a0 h (.c (fun t4 h1 => a_mov a1 h1 (.c (fun t5 h2 => a_cint .i64 t5 h2 (.c (fun t6 h3 => a_nilc t4 h3 (.c (fun t7 h4 => a_fa 1 t7 h4 (.c (fun t8 h5 => a_store 1 t8 t6 h5 (.c (fun _v5 h6 => Q .normal ((a0::a1::a2::a3::t4::t5::t6::t7::t8::a9::b0::b1::b2::b3::b4::b5::b6::b7::b8::b9::d0::d1::d2::d3::[]), h6)) ())) ())) ())) ())) ())) ())) := by rw [awp_eq]; kernel_rfl
theorem w15_7 : awp X n c15_7 Q ((a0::a1::a2::a3::a4::a5::a6::a7::a8::a9::b0::b1::b2::b3::b4::b5::b6::b7::b8::b9::d0::d1::d2::d3::[]), h) = a_cond b3 (awp X n c15_8 Q ((a0::a1::a2::a3::a4::a5::a6::a7::a8::a9::b0::b1::b2::b3::b4::b5::b6::b7::b8::b9::d0::d1::d2::d3::[]), h)) (awp X n c15_9 Q ((a0::a1::a2::a3::a4::a5::a6::a7::a8::a9::b0::b1::b2::b3::b4::b5::b6::b7::b8::b9::d0::d1::d2::d3::[]), h)) := by rw [awp_eq]; kernel_rfl
theorem w15_5 : awp X n c15_5 Q st = awp X n c15_6 (thenQ (awp X n c15_7 Q) Q) st := by rw [awp_eq]; kernel_rfl
theorem w15_3 : awp X n c15_3 Q ((a0::a1::a2::a3::a4::a5::a6::a7::a8::a9::b0::b1::b2::b3::b4::b5::b6::b7::b8::b9::d0::d1::d2::d3::[]), h) = a_cond a9 (awp X n c15_4 Q ((a0::a1::a2::a3::a4::a5::a6::a7::a8::a9::b0::b1::b2::b3::b4::b5::b6::b7::b8::b9::d0::d1::d2::d3::[]), h)) (awp X n c15_5 Q ((a0::a1::a2::a3::a4::a5::a6::a7::a8::a9::b0::b1::b2::b3::b4::b5::b6::b7::b8::b9::d0::d1::d2::d3::[]), h)) := by rw [awp_eq]; kernel_rfl
theorem w15_1 : awp X n c15_1 Q st = awp X n c15_2 (thenQ (awp X n c15_3 Q) Q) st := by rw [awp_eq]; kernel_rfl
theorem w15_0 : awp X n c15_0 Q st = awp X n c15_1 (blockQ 0 Q) st := by rw [awp_eq]; kernel_rfl
theorem q15_ret : retQ X Try.f15 K .ret ((a0::a1::a2::a3::a4::a5::a6::a7::a8::a9::b0::b1::b2::b3::b4::b5::b6::b7::b8::b9::d0::d1::d2::d3::[]), h) = (K.K (.t []) h) := by kernel_rfl
theorem q15_normal : retQ X Try.f15 K .normal ((a0::a1::a2::a3::a4::a5::a6::a7::a8::a9::b0::b1::b2::b3::b4::b5::b6::b7::b8::b9::d0::d1::d2::d3::[]), h) = (K.K (.t []) h) := by kernel_rfl
theorem i15 (H : awp X h.length c15_0 (retQ X Try.f15 K) ((a0::a1::.bad::.bad::.bad::.bad::.bad::.bad::.bad::.bad::.bad::.bad::.bad::.bad::.bad::.bad::.bad::.bad::.bad::.bad::.bad::.bad::.bad::.bad::[]), h)) : ACall X 15 [a0, a1] h K := acall_intro (fn := Try.f15) (by kernel_rfl) (by kernel_rfl) (by kernel_rfl) H
noncomputable def R15 := And.intro (And.intro (And.intro (w15_2) (And.intro w15_4 w15_6)) (And.intro (w15_8) (And.intro w15_9 w15_7))) (And.intro (And.intro (w15_5) (And.intro w15_3 w15_1)) (And.intro (w15_0) (And.intro q15_ret q15_normal)))
/-! function 16: (*sindri/cursor.Cursor).U16 -/
noncomputable def c16_0 : Code := bodyOf Try.f16
noncomputable def c16_1 : Code := cl c16_0
theorem w16_1 : awp X n c16_1 Q ([a0,a1,a2,a3,a4], h) = (a_mov (.v (.int .u64 0)) h (.c (fun t2 h1 => Q .normal ([a0,a1,t2,a3,a4], h1)) ())) := by rw [awp_eq]; kernel_rfl
noncomputable def c16_2 : Code := cr c16_0
noncomputable def c16_3 : Code := cl c16_2
theorem w16_3 : awp X n c16_3 Q ([a0,a1,a2,a3,a4], h) = (a_mov a0 h (.c (fun t3 h1 => ACall X 26 [t3, (.v (.int .i64 2))] h1 (.c (fun t4 h2 => a_mov t4 h2 (.c (fun t2 h3 => Q .normal ([a0,a1,t2,t3,t4], h3)) ())) ())) ())) := by rw [awp_eq]; kernel_rfl
noncomputable def c16_4 : Code := cr c16_2
theorem w16_4 : awp X n c16_4 Q st = Q .ret st := by rw [awp_eq]; kernel_rfl
theorem w16_2 : awp X n c16_2 Q st = awp X n c16_3 (thenQ (awp X n c16_4 Q) Q) st := by rw [awp_eq]; kernel_rfl
theorem w16_0 : awp X n c16_0 Q st = awp X n c16_1 (thenQ (awp X n c16_2 Q) Q) st := by rw [awp_eq]; kernel_rfl
theorem q16_ret : retQ X Try.f16 K .ret ([a0,a1,a2,a3,a4], h) = (K.K a2 h) := by kernel_rfl
theorem q16_normal : retQ X Try.f16 K .normal ([a0,a1,a2,a3,a4], h) = (K.K a2 h) := by kernel_rfl
theorem i16 (H : awp X h.length c16_0 (retQ X Try.f16 K) ([a0,.bad,.bad,.bad,.bad], h)) : ACall X 16 [a0] h K := acall_intro (fn := Try.f16) (by kernel_rfl) (by kernel_rfl) (by kernel_rfl) H
noncomputable def R16 := And.intro (And.intro (w16_1) (And.intro w16_3 w16_4)) (And.intro (And.intro w16_2 w16_0) (And.intro q16_ret q16_normal))
/-! function 17: (*sindri/cursor.Cursor).U32 -/
noncomputable def c17_0 : Code := bodyOf Try.f17
noncomputable def c17_1 : Code := cl c17_0
theorem w17_1 : awp X n c17_1 Q ([a0,a1,a2,a3,a4], h) = (a_mov (.v (.int .u64 0)) h (.c (fun t2 h1 => Q .normal ([a0,a1,t2,a3,a4], h1)) ())) := by rw [awp_eq]; kernel_rfl
noncomputable def c17_2 : Code := cr c17_0
noncomputable def c17_3 : Code := cl c17_2
theorem w17_3 : awp X n c17_3 Q ([a0,a1,a2,a3,a4], h) = (a_mov a0 h (.c (fun t3 h1 => ACall X 26 [t3, (.v (.int .i64 4))] h1 (.c (fun t4 h2 => a_mov t4 h2 (.c (fun t2 h3 => Q .normal ([a0,a1,t2,t3,t4], h3)) ())) ())) ())) := by rw [awp_eq]; kernel_rfl
noncomputable def c17_4 : Code := cr c17_2
theorem w17_4 : awp X n c17_4 Q st = Q .ret st := by rw [awp_eq]; kernel_rfl
theorem w17_2 : awp X n c17_2 Q st = awp X n c17_3 (thenQ (awp X n c17_4 Q) Q) st := by rw [awp_eq]; kernel_rfl
theorem w17_0 : awp X n c17_0 Q st = awp X n c17_1 (thenQ (awp X n c17_2 Q) Q) st := by rw [awp_eq]; kernel_rfl
theorem q17_ret : retQ X Try.f17 K .ret ([a0,a1,a2,a3,a4], h) = (K.K a2 h) := by kernel_rfl
theorem q17_normal : retQ X Try.f17 K .normal ([a0,a1,a2,a3,a4], h) = (K.K a2 h) := by kernel_rfl
theorem i17 (H : awp X h.length c17_0 (retQ X Try.f17 K) ([a0,.bad,.bad,.bad,.bad], h)) : ACall X 17 [a0] h K := acall_intro (fn := Try.f17) (by kernel_rfl) (by kernel_rfl) (by kernel_rfl) H
noncomputable def R17 := And.intro (And.intro (w17_1) (And.intro w17_3 w17_4)) (And.intro (And.intro w17_2 w17_0) (And.intro q17_ret q17_normal))
/-! function 18: (*sindri/cursor.Cursor).U64 -/
noncomputable def c18_0 : Code := bodyOf Try.f18
noncomputable def c18_1 : Code := cl c18_0
theorem w18_1 : awp X n c18_1 Q ([a0,a1,a2,a3,a4], h) = (a_mov (.v (.int .u64 0)) h (.c (fun t2 h1 => Q .normal ([a0,a1,t2,a3,a4], h1)) ())) := by rw [awp_eq]; kernel_rfl
noncomputable def c18_2 : Code := cr c18_0
noncomputable def c18_3 : Code := cl c18_2
theorem w18_3 : awp X n c18_3 Q ([a0,a1,a2,a3,a4], h) = (a_mov a0 h (.c (fun t3 h1 => ACall X 26 [t3, (.v (.int .i64 8))] h1 (.c (fun t4 h2 => a_mov t4 h2 (.c (fun t2 h3 => Q .normal ([a0,a1,t2,t3,t4], h3)) ())) ())) ())) := by rw [awp_eq]; kernel_rfl
noncomputable def c18_4 : Code := cr c18_2
theorem w18_4 : awp X n c18_4 Q st = Q .ret st := by rw [awp_eq]; kernel_rfl
theorem w18_2 : awp X n c18_2 Q st = awp X n c18_3 (thenQ (awp X n c18_4 Q) Q) st := by rw [awp_eq]; kernel_rfl
theorem w18_0 : awp X n c18_0 Q st = awp X n c18_1 (thenQ (awp X n c18_2 Q) Q) st := by rw [awp_eq]; kernel_rfl
theorem q18_ret : retQ X Try.f18 K .ret ([a0,a1,a2,a3,a4], h) = (K.K a2 h) := by kernel_rfl
theorem q18_normal : retQ X Try.f18 K .normal ([a0,a1,a2,a3,a4], h) = (K.K a2 h) := by kernel_rfl
theorem i18 (H : awp X h.length c18_0 (retQ X Try.f18 K) ([a0,.bad,.bad,.bad,.bad], h)) : ACall X 18 [a0] h K := acall_intro (fn := Try.f18) (by kernel_rfl) (by kernel_rfl) (by kernel_rfl) H
noncomputable def R18 := And.intro (And.intro (w18_1) (And.intro w18_3 w18_4)) (And.intro (And.intro w18_2 w18_0) (And.intro q18_ret q18_normal))
/-! function 20: sindri/cursor.Within -/
noncomputable def c20_0 : Code := bodyOf Try.f20
noncomputable def c20_1 : Code := cl c20_0
theorem w20_1 : awp X n c20_1 Q ((a0::a1::a2::a3::a4::a5::a6::a7::a8::a9::b0::b1::b2::b3::b4::b5::b6::[]), h) = (a_mov (.v (.bool false)) h (.c (fun t6 h1 => Q .normal ((a0::a1::a2::a3::a4::a5::t6::a7::a8::a9::b0::b1::b2::b3::b4::b5::b6::[]), h1)) ())) := by rw [awp_eq]; kernel_rfl
noncomputable def c20_2 : Code := cr c20_0
noncomputable def c20_3 : Code := cl c20_2
theorem w20_3 : awp X n c20_3 Q ((a0::a1::a2::a3::a4::a5::a6::a7::a8::a9::b0::b1::b2::b3::b4::b5::b6::[]), h) = (a_mov a1 h (.c (fun t7 h1 => a_mov a2 h1 (.c (fun t8 h2 => a_bin .leq t7 t8 h2 (.c (fun t9 h3 => a_mov t9 h3 (.c (fun t10 h4 => a_on t10 true (fun k => a_mov a0 h4 k) h4 (.c (fun t11 h5 => a_on t10 true (fun k => a_mov a2 h5 k) h5 (.c (fun t12 h6 => a_on t10 true (fun k => a_mov a1 h6 k) h6 (.c (fun t13 h7 => a_on t10 true (fun k => a_bin .sub t12 t13 h7 k) h7 (.c (fun t14 h8 => a_on t10 true (fun k => a_bin .leq t11 t14 h8 k) h8 (.c (fun t15 h9 => a_pick t10 t15 (.v (.bool false)) h9 (.c (fun t16 h10 => a_mov t16 h10 (.c (fun t6 h11 => Q .normal ((a0::a1::a2::a3::a4::a5::t6::t7::t8::t9::t10::t11::t12::t13::t14::t15::t16::[]), h11)) ())) ())) ())) ())) ())) ())) ())) ())) ())) ())) ())) := by rw [awp_eq]; kernel_rfl
noncomputable def c20_4 : Code := cr c20_2
theorem w20_4 : awp X n c20_4 Q st = Q .ret st := by rw [awp_eq]; kernel_rfl
theorem w20_2 : awp X n c20_2 Q st = awp X n c20_3 (thenQ (awp X n c20_4 Q) Q) st := by rw [awp_eq]; kernel_rfl
theorem w20_0 : awp X n c20_0 Q st = awp X n c20_1 (thenQ (awp X n c20_2 Q) Q) st := by rw [awp_eq]; kernel_rfl
theorem q20_ret : retQ X Try.f20 K .ret ((a0::a1::a2::a3::a4::a5::a6::a7::a8::a9::b0::b1::b2::b3::b4::b5::b6::[]), h) = (K.K a6 h) := by kernel_rfl
theorem q20_normal : retQ X Try.f20 K .normal ((a0::a1::a2::a3::a4::a5::a6::a7::a8::a9::b0::b1::b2::b3::b4::b5::b6::[]), h) = (K.K a6 h) := by kernel_rfl
theorem i20 (H : awp X h.length c20_0 (retQ X Try.f20 K) ((a0::a1::a2::.bad::.bad::.bad::.bad::.bad::.bad::.bad::.bad::.bad::.bad::.bad::.bad::.bad::.bad::[]), h)) : ACall X 20 [a0, a1, a2] h K := acall_intro (fn := Try.f20) (by kernel_rfl) (by kernel_rfl) (by kernel_rfl) H
noncomputable def R20 := And.intro (And.intro (w20_1) (And.intro w20_3 w20_4)) (And.intro (And.intro w20_2 w20_0) (And.intro q20_ret q20_normal))
/-! function 21: sindri/sindriref01.Within -/
noncomputable def c21_0 : Code := bodyOf Try.f21
noncomputable def c21_1 : Code := cl c21_0
theorem w21_1 : awp X n c21_1 Q ((a0::a1::a2::a3::a4::a5::a6::a7::a8::a9::b0::b1::b2::b3::b4::b5::b6::b7::b8::b9::d0::[]), h) = (a_mov (.v (.bool false)) h (.c (fun t6 h1 => Q .normal ((a0::a1::a2::a3::a4::a5::t6::a7::a8::a9::b0::b1::b2::b3::b4::b5::b6::b7::b8::b9::d0::[]), h1)) ())) := by rw [awp_eq]; kernel_rfl
noncomputable def c21_2 : Code := cr c21_0
noncomputable def c21_3 : Code := cl c21_2
theorem w21_3 : awp X n c21_3 Q ((a0::a1::a2::a3::a4::a5::a6::a7::a8::a9::b0::b1::b2::b3::b4::b5::b6::b7::b8::b9::d0::[]), h) = (a_mov a0 h (.c (fun t10 h1 => a_mov a1 h1 (.c (fun t11 h2 => ACall X 27 [t10, t11] h2 (.c (fun t12 h3 => a_mov t12 h3 (.c (fun t9 h4 => a_ext 0 t9 h4 (.c (fun t13 h5 => a_ext 1 t9 h5 (.c (fun t14 h6 => a_mov t13 h6 (.c (fun t7 h7 => a_mov t14 h7 (.c (fun t8 h8 => Q .normal ((a0::a1::a2::a3::a4::a5::a6::t7::t8::t9::t10::t11::t12::t13::t14::b5::b6::b7::b8::b9::d0::[]), h8)) ())) ())) ())) ())) ())) ())) ())) ())) := by rw [awp_eq]; kernel_rfl
noncomputable def c21_4 : Code := cr c21_2
noncomputable def c21_5 : Code := cl c21_4
theorem w21_5 : awp X n c21_5 Q ((a0::a1::a2::a3::a4::a5::a6::a7::a8::a9::b0::b1::b2::b3::b4::b5::b6::b7::b8::b9::d0::[]), h) = (a_mov a8 h (.c (fun t15 h1 => a_mov t15 h1 (.c (fun t16 h2 => a_on t16 true (fun k => a_mov a7 h2 k) h2 (.c (fun t17 h3 => a_on t16 true (fun k => a_mov a2 h3 k) h3 (.c (fun t18 h4 => a_on t16 true (fun k => a_bin .leq t17 t18 h4 k) h4 (.c (fun t19 h5 => a_pick t16 t19 (.v (.bool false)) h5 (.c (fun t20 h6 => a_mov t20 h6 (.c (fun t6 h7 => Q .normal ((a0::a1::a2::a3::a4::a5::t6::a7::a8::a9::b0::b1::b2::b3::b4::t15::t16::t17::t18::t19::t20::[]), h7)) ())) ())) ())) ())) ())) ())) ())) := by rw [awp_eq]; kernel_rfl
noncomputable def c21_6 : Code := cr c21_4
theorem w21_6 : awp X n c21_6 Q st = Q .ret st := by rw [awp_eq]; kernel_rfl
theorem w21_4 : awp X n c21_4 Q st = awp X n c21_5 (thenQ (awp X n c21_6 Q) Q) st := by rw [awp_eq]; kernel_rfl
theorem w21_2 : awp X n c21_2 Q st = awp X n c21_3 (thenQ (awp X n c21_4 Q) Q) st := by rw [awp_eq]; kernel_rfl
theorem w21_0 : awp X n c21_0 Q st = awp X n c21_1 (thenQ (awp X n c21_2 Q) Q) st := by rw [awp_eq]; kernel_rfl
theorem q21_ret : retQ X Try.f21 K .ret ((a0::a1::a2::a3::a4::a5::a6::a7::a8::a9::b0::b1::b2::b3::b4::b5::b6::b7::b8::b9::d0::[]), h) = (K.K a6 h) := by kernel_rfl
theorem q21_normal : retQ X Try.f21 K .normal ((a0::a1::a2::a3::a4::a5::a6::a7::a8::a9::b0::b1::b2::b3::b4::b5::b6::b7::b8::b9::d0::[]), h) = (K.K a6 h) := by kernel_rfl
theorem i21 (H : awp X h.length c21_0 (retQ X Try.f21 K) ((a0::a1::a2::.bad::.bad::.bad::.bad::.bad::.bad::.bad::.bad::.bad::.bad::.bad::.bad::.bad::.bad::.bad::.bad::.bad::.bad::[]), h)) : ACall X 21 [a0, a1, a2] h K := acall_intro (fn := Try.f21) (by kernel_rfl) (by kernel_rfl) (by kernel_rfl) H
noncomputable def R21 := And.intro (And.intro (And.intro w21_1 w21_3) (And.intro w21_5 w21_6)) (And.intro (And.intro w21_4 w21_2) (And.intro (w21_0) (And.intro q21_ret q21_normal)))
/-! function 22: sindri/cursor.Put -/
noncomputable def c22_0 : Code := bodyOf Try.f22
noncomputable def c22_1 : Code := cl c22_0
theorem w22_1 : awp X n c22_1 Q ((a0::a1::a2::a3::a4::a5::a6::a7::a8::a9::b0::b1::b2::b3::b4::b5::b6::b7::b8::b9::d0::d1::d2::d3::[]), h) = (a_mov (.v (.slice none 0 0)) h (.c (fun t6 h1 => Q .normal ((a0::a1::a2::a3::a4::a5::t6::a7::a8::a9::b0::b1::b2::b3::b4::b5::b6::b7::b8::b9::d0::d1::d2::d3::[]), h1)) ())) := by rw [awp_eq]; kernel_rfl
noncomputable def c22_2 : Code := cr c22_0
noncomputable def c22_3 : Code := cl c22_2
noncomputable def c22_4 : Code := cl c22_3
theorem w22_4 : awp X n c22_4 Q ((a0::a1::a2::a3::a4::a5::a6::a7::a8::a9::b0::b1::b2::b3::b4::b5::b6::b7::b8::b9::d0::d1::d2::d3::[]), h) = (a_mov a2 h (.c (fun t8 h1 => ACall X 28 [t8] h1 (.c (fun t9 h2 => a_mov (.v (.int .i64 0)) h2 (.c (fun t10 h3 => Q .normal ((a0::a1::a2::a3::a4::a5::a6::a7::t8::t9::t10::b1::b2::b3::b4::b5::b6::b7::b8::b9::d0::d1::d2::d3::[]), h3)) ())) ())) ())) := by rw [awp_eq]; kernel_rfl
noncomputable def c22_5 : Code := cr c22_3
noncomputable def c22_6 : Code := cl c22_5
noncomputable def c22_7 : Code := cl c22_6
noncomputable def c22_8 : Code := cl c22_7
theorem w22_8 : awp X n c22_8 Q ((a0::a1::a2::a3::a4::a5::a6::a7::a8::a9::b0::b1::b2::b3::b4::b5::b6::b7::b8::b9::d0::d1::d2::d3::[]), h) = (a_bin .lss b0 a9 h (.c (fun t11 h1 => Q .normal ((a0::a1::a2::a3::a4::a5::a6::a7::a8::a9::b0::t11::b2::b3::b4::b5::b6::b7::b8::b9::d0::d1::d2::d3::[]), h1)) ())) := by rw [awp_eq]; kernel_rfl
noncomputable def c22_9 : Code := cr c22_7
noncomputable def c22_10 : Code := cl c22_9
noncomputable def c22_11 : Code := cl c22_10
theorem w22_11 : awp X n c22_11 Q st = Q .normal st := by rw [awp_eq]; kernel_rfl
noncomputable def c22_12 : Code := cr c22_10
theorem w22_12 : awp X n c22_12 Q st = Q (.exit 0) st := by rw [awp_eq]; kernel_rfl
theorem w22_10 : awp X n c22_10 Q ((a0::a1::a2::a3::a4::a5::a6::a7::a8::a9::b0::b1::b2::b3::b4::b5::b6::b7::b8::b9::d0::d1::d2::d3::[]), h) = a_cond b1 (awp X n c22_11 Q ((a0::a1::a2::a3::a4::a5::a6::a7::a8::a9::b0::b1::b2::b3::b4::b5::b6::b7::b8::b9::d0::d1::d2::d3::[]), h)) (awp X n c22_12 Q ((a0::a1::a2::a3::a4::a5::a6::a7::a8::a9::b0::b1::b2::b3::b4::b5::b6::b7::b8::b9::d0::d1::d2::d3::[]), h)) := by rw [awp_eq]; kernel_rfl
noncomputable def c22_13 : Code := cr c22_9
noncomputable def c22_14 : Code := cl c22_13
noncomputable def c22_15 : Code := cl c22_14
noncomputable def c22_16 : Code := cl c22_15
theorem w22_16 : awp X n c22_16 Q ((a0::a1::a2::a3::a4::a5::a6::a7::a8::a9::b0::b1::b2::b3::b4::b5::b6::b7::b8::b9::d0::d1::d2::d3::[]), h) = (a_mov b0 h (.c (fun t12 h1 => a_mov t12 h1 (.c (fun t7 h2 => Q .normal ((a0::a1::a2::a3::a4::a5::a6::t7::a8::a9::b0::b1::t12::b3::b4::b5::b6::b7::b8::b9::d0::d1::d2::d3::[]), h2)) ())) ())) := by rw [awp_eq]; kernel_rfl
noncomputable def c22_17 : Code := cr c22_15
theorem w22_17 : awp X n c22_17 Q ((a0::a1::a2::a3::a4::a5::a6::a7::a8::a9::b0::b1::b2::b3::b4::b5::b6::b7::b8::b9::d0::d1::d2::d3::[]), h) = (a_mov a0 h (.c (fun t13 h1 => a_mov a1 h1 (.c (fun t14 h2 => a_mov a7 h2 (.c (fun t15 h3 => a_bin .mul (.v (.int .i64 8)) t15 h3 (.c (fun t16 h4 => a_cint .u64 t16 h4 (.c (fun t17 h5 => a_bin .shr t14 t17 h5 (.c (fun t18 h6 => a_cint .u8 t18 h6 (.c (fun t19 h7 => a_lit 1 1 [.v (.int .u8 0)] [(0, 1, t19)] h7 (.c (fun t20 h8 => a_app 1 1 t13 t20 h8 (.c (fun t21 h9 => a_mov t21 h9 (.c (fun t0 h10 => Q .normal ((t0::a1::a2::a3::a4::a5::a6::a7::a8::a9::b0::b1::b2::t13::t14::t15::t16::t17::t18::t19::t20::t21::d2::d3::[]), h10)) ())) ())) ())) ())) ())) ())) ())) ())) ())) ())) := by rw [awp_eq]; kernel_rfl
theorem w22_15 : awp X n c22_15 Q st = awp X n c22_16 (thenQ (awp X n c22_17 Q) Q) st := by rw [awp_eq]; kernel_rfl
theorem w22_14 : awp X n c22_14 Q st = awp X n c22_15 (blockQ 1 Q) st := by rw [awp_eq]; kernel_rfl
noncomputable def c22_18 : Code := cr c22_13
theorem w22_18 : awp X n c22_18 Q ((a0::a1::a2::a3::a4::a5::a6::a7::a8::a9::b0::b1::b2::b3::b4::b5::b6::b7::b8::b9::d0::d1::d2::d3::[]), h) = (a_bin .add b0 (.v (.int .i64 1)) h (.c (fun t22 h1 => a_mov t22 h1 (.c (fun t10 h2 => Q .normal ((a0::a1::a2::a3::a4::a5::a6::a7::a8::a9::t10::b1::b2::b3::b4::b5::b6::b7::b8::b9::d0::d1::t22::d3::[]), h2)) ())) ())) := by rw [awp_eq]; kernel_rfl
theorem w22_13 : awp X n c22_13 Q st = awp X n c22_14 (thenQ (awp X n c22_18 Q) Q) st := by rw [awp_eq]; kernel_rfl
theorem w22_9 : awp X n c22_9 Q st = awp X n c22_10 (thenQ (awp X n c22_13 Q) Q) st := by rw [awp_eq]; kernel_rfl
theorem w22_7 : awp X n c22_7 Q st = awp X n c22_8 (thenQ (awp X n c22_9 Q) Q) st := by rw [awp_eq]; kernel_rfl
theorem w22_6 : awp X n c22_6 Q st = ALoop X n c22_7 Q st := by rw [awp_eq]; kernel_rfl
theorem w22_5 : awp X n c22_5 Q st = awp X n c22_6 (blockQ 0 Q) st := by rw [awp_eq]; kernel_rfl
theorem w22_3 : awp X n c22_3 Q st = awp X n c22_4 (thenQ (awp X n c22_5 Q) Q) st := by rw [awp_eq]; kernel_rfl
noncomputable def c22_19 : Code := cr c22_2
noncomputable def c22_20 : Code := cl c22_19
theorem w22_20 : awp X n c22_20 Q ((a0::a1::a2::a3::a4::a5::a6::a7::a8::a9::b0::b1::b2::b3::b4::b5::b6::b7::b8::b9::d0::d1::d2::d3::[]), h) = (a_mov a0 h (.c (fun t23 h1 => a_mov t23 h1 (.c (fun t6 h2 => Q .normal ((a0::a1::a2::a3::a4::a5::t6::a7::a8::a9::b0::b1::b2::b3::b4::b5::b6::b7::b8::b9::d0::d1::d2::t23::[]), h2)) ())) ())) := by rw [awp_eq]; kernel_rfl
noncomputable def c22_21 : Code := cr c22_19
theorem w22_21 : awp X n c22_21 Q st = Q .ret st := by rw [awp_eq]; kernel_rfl
theorem w22_19 : awp X n c22_19 Q st = awp X n c22_20 (thenQ (awp X n c22_21 Q) Q) st := by rw [awp_eq]; kernel_rfl
theorem w22_2 : awp X n c22_2 Q st = awp X n c22_3 (thenQ (awp X n c22_19 Q) Q) st := by rw [awp_eq]; kernel_rfl
theorem w22_0 : awp X n c22_0 Q st = awp X n c22_1 (thenQ (awp X n c22_2 Q) Q) st := by rw [awp_eq]; kernel_rfl
theorem q22_ret : retQ X Try.f22 K .ret ((a0::a1::a2::a3::a4::a5::a6::a7::a8::a9::b0::b1::b2::b3::b4::b5::b6::b7::b8::b9::d0::d1::d2::d3::[]), h) = (K.K a6 h) := by kernel_rfl
theorem q22_normal : retQ X Try.f22 K .normal ((a0::a1::a2::a3::a4::a5::a6::a7::a8::a9::b0::b1::b2::b3::b4::b5::b6::b7::b8::b9::d0::d1::d2::d3::[]), h) = (K.K a6 h) := by kernel_rfl
theorem i22 (H : awp X h.length c22_0 (retQ X Try.f22 K) ((a0::a1::a2::.bad::.bad::.bad::.bad::.bad::.bad::.bad::.bad::.bad::.bad::.bad::.bad::.bad::.bad::.bad::.bad::.bad::.bad::.bad::.bad::.bad::[]), h)) : ACall X 22 [a0, a1, a2] h K := acall_intro (fn := Try.f22) (by kernel_rfl) (by kernel_rfl) (by kernel_rfl) H
noncomputable def R22 := And.intro (And.intro (And.intro (And.intro (w22_1) (And.intro w22_4 w22_8)) (And.intro (w22_11) (And.intro w22_12 w22_10))) (And.intro (And.intro (w22_16) (And.intro w22_17 w22_15)) (And.intro (w22_14) (And.intro w22_18 w22_13)))) (And.intro (And.intro (And.intro (w22_9) (And.intro w22_7 w22_6)) (And.intro (w22_5) (And.intro w22_3 w22_20))) (And.intro (And.intro (w22_21) (And.intro w22_19 w22_2)) (And.intro (w22_0) (And.intro q22_ret q22_normal))))
/-! function 23: sindri/sindriref01.Put -/
noncomputable def c23_0 : Code := bodyOf Try.f23
noncomputable def c23_1 : Code := cl c23_0
theorem w23_1 : awp X n c23_1 Q ((a0::a1::a2::a3::a4::a5::a6::a7::a8::a9::b0::b1::b2::b3::b4::b5::b6::b7::b8::b9::d0::d1::[]), h) = (a_mov (.v (.slice none 0 0)) h (.c (fun t4 h1 => Q .normal ((a0::a1::a2::a3::t4::a5::a6::a7::a8::a9::b0::b1::b2::b3::b4::b5::b6::b7::b8::b9::d0::d1::[]), h1)) ())) := by rw [awp_eq]; kernel_rfl
noncomputable def c23_2 : Code := cr c23_0
noncomputable def c23_3 : Code := cl c23_2
theorem w23_3 : awp X n c23_3 Q ((a0::a1::a2::a3::a4::a5::a6::a7::a8::a9::b0::b1::b2::b3::b4::b5::b6::b7::b8::b9::d0::d1::[]), h) = (a_mov (.v (.slice none 0 0)) h (.c (fun t5 h1 => Q .normal ((a0::a1::a2::a3::a4::t5::a6::a7::a8::a9::b0::b1::b2::b3::b4::b5::b6::b7::b8::b9::d0::d1::[]), h1)) ())) := by rw [awp_eq]; kernel_rfl
noncomputable def c23_4 : Code := cr c23_2
noncomputable def c23_5 : Code := cl c23_4
noncomputable def c23_6 : Code := cl c23_5
theorem w23_6 : awp X n c23_6 Q ((a0::a1::a2::a3::a4::a5::a6::a7::a8::a9::b0::b1::b2::b3::b4::b5::b6::b7::b8::b9::d0::d1::[]), h) = (a_mov (.v (.int .i64 0)) h (.c (fun t6 h1 => Q .normal ((a0::a1::a2::a3::a4::a5::t6::a7::a8::a9::b0::b1::b2::b3::b4::b5::b6::b7::b8::b9::d0::d1::[]), h1)) ())) := by rw [awp_eq]; kernel_rfl
noncomputable def c23_7 : Code := cr c23_5
noncomputable def c23_8 : Code := cl c23_7
noncomputable def c23_9 : Code := cl c23_8
noncomputable def c23_10 : Code := cl c23_9
noncomputable def c23_11 : Code := cl c23_10
theorem w23_11 : awp X n c23_11 Q ((a0::a1::a2::a3::a4::a5::a6::a7::a8::a9::b0::b1::b2::b3::b4::b5::b6::b7::b8::b9::d0::d1::[]), h) = (a_mov a6 h (.c (fun t7 h1 => a_mov a1 h1 (.c (fun t8 h2 => ACall X 29 [t8] h2 (.c (fun t9 h3 => a_bin .lss t7 t9 h3 (.c (fun t10 h4 => Q .normal ((a0::a1::a2::a3::a4::a5::a6::t7::t8::t9::t10::b1::b2::b3::b4::b5::b6::b7::b8::b9::d0::d1::[]), h4)) ())) ())) ())) ())) := by rw [awp_eq]; kernel_rfl
noncomputable def c23_12 : Code := cr c23_10
noncomputable def c23_13 : Code := cl c23_12
theorem w23_13 : awp X n c23_13 Q st = Q .normal st := by rw [awp_eq]; kernel_rfl
noncomputable def c23_14 : Code := cr c23_12
theorem w23_14 : awp X n c23_14 Q st = Q (.exit 0) st := by rw [awp_eq]; kernel_rfl
theorem w23_12 : awp X n c23_12 Q ((a0::a1::a2::a3::a4::a5::a6::a7::a8::a9::b0::b1::b2::b3::b4::b5::b6::b7::b8::b9::d0::d1::[]), h) = a_cond b0 (awp X n c23_13 Q ((a0::a1::a2::a3::a4::a5::a6::a7::a8::a9::b0::b1::b2::b3::b4::b5::b6::b7::b8::b9::d0::d1::[]), h)) (awp X n c23_14 Q ((a0::a1::a2::a3::a4::a5::a6::a7::a8::a9::b0::b1::b2::b3::b4::b5::b6::b7::b8::b9::d0::d1::[]), h)) := by rw [awp_eq]; kernel_rfl
theorem w23_10 : awp X n c23_10 Q st = awp X n c23_11 (thenQ (awp X n c23_12 Q) Q) st := by rw [awp_eq]; kernel_rfl
noncomputable def c23_15 : Code := cr c23_9
noncomputable def c23_16 : Code := cl c23_15
noncomputable def c23_17 : Code := cl c23_16
noncomputable def c23_18 : Code := cl c23_17
theorem w23_18 : awp X n c23_18 Q ((a0::a1::a2::a3::a4::a5::a6::a7::a8::a9::b0::b1::b2::b3::b4::b5::b6::b7::b8::b9::d0::d1::[]), h) = (a_mov a5 h (.c (fun t13 h1 => a_mov a0 h1 (.c (fun t14 h2 => a_bin .rem t14 (.v (.int .u64 256)) h2 (.c (fun t15 h3 => a_cint .u8 t15 h3 (.c (fun t16 h4 => a_lit 1 1 [.v (.int .u8 0)] [(0, 1, t16)] h4 (.c (fun t17 h5 => a_app 1 1 t13 t17 h5 (.c (fun t18 h6 => a_mov t18 h6 (.c (fun t5 h7 => Q .normal ((a0::a1::a2::a3::a4::t5::a6::a7::a8::a9::b0::b1::b2::t13::t14::t15::t16::t17::t18::b9::d0::d1::[]), h7)) ())) ())) ())) ())) ())) ())) ())) := by rw [awp_eq]; kernel_rfl
noncomputable def c23_19 : Code := cr c23_17
theorem w23_19 : awp X n c23_19 Q ((a0::a1::a2::a3::a4::a5::a6::a7::a8::a9::b0::b1::b2::b3::b4::b5::b6::b7::b8::b9::d0::d1::[]), h) = (a_mov a0 h (.c (fun t19 h1 => a_bin .quo t19 (.v (.int .u64 256)) h1 (.c (fun t20 h2 => a_mov t20 h2 (.c (fun t0 h3 => Q .normal ((t0::a1::a2::a3::a4::a5::a6::a7::a8::a9::b0::b1::b2::b3::b4::b5::b6::b7::b8::t19::t20::d1::[]), h3)) ())) ())) ())) := by rw [awp_eq]; kernel_rfl
theorem w23_17 : awp X n c23_17 Q st = awp X n c23_18 (thenQ (awp X n c23_19 Q) Q) st := by rw [awp_eq]; kernel_rfl
theorem w23_16 : awp X n c23_16 Q st = awp X n c23_17 (blockQ 1 Q) st := by rw [awp_eq]; kernel_rfl
noncomputable def c23_20 : Code := cr c23_15
theorem w23_20 : awp X n c23_20 Q ((a0::a1::a2::a3::a4::a5::a6::a7::a8::a9::b0::b1::b2::b3::b4::b5::b6::b7::b8::b9::d0::d1::[]), h) = (a_mov a6 h (.c (fun t11 h1 => a_bin .add t11 (.v (.int .i64 1)) h1 (.c (fun t12 h2 => a_mov t12 h2 (.c (fun t6 h3 => Q .normal ((a0::a1::a2::a3::a4::a5::t6::a7::a8::a9::b0::t11::t12::b3::b4::b5::b6::b7::b8::b9::d0::d1::[]), h3)) ())) ())) ())) := by rw [awp_eq]; kernel_rfl
theorem w23_15 : awp X n c23_15 Q st = awp X n c23_16 (thenQ (awp X n c23_20 Q) Q) st := by rw [awp_eq]; kernel_rfl
theorem w23_9 : awp X n c23_9 Q st = awp X n c23_10 (thenQ (awp X n c23_15 Q) Q) st := by rw [awp_eq]; kernel_rfl
theorem w23_8 : awp X n c23_8 Q st = ALoop X n c23_9 Q st := by rw [awp_eq]; kernel_rfl
theorem w23_7 : awp X n c23_7 Q st = awp X n c23_8 (blockQ 0 Q) st := by rw [awp_eq]; kernel_rfl
theorem w23_5 : awp X n c23_5 Q st = awp X n c23_6 (thenQ (awp X n c23_7 Q) Q) st := by rw [awp_eq]; kernel_rfl
noncomputable def c23_21 : Code := cr c23_4
noncomputable def c23_22 : Code := cl c23_21
theorem w23_22 : awp X n c23_22 Q ((a0::a1::a2::a3::a4::a5::a6::a7::a8::a9::b0::b1::b2::b3::b4::b5::b6::b7::b8::b9::d0::d1::[]), h) = (a_mov a5 h (.c (fun t21 h1 => a_mov t21 h1 (.c (fun t4 h2 => Q .normal ((a0::a1::a2::a3::t4::a5::a6::a7::a8::a9::b0::b1::b2::b3::b4::b5::b6::b7::b8::b9::d0::t21::[]), h2)) ())) ())) := by rw [awp_eq]; kernel_rfl
noncomputable def c23_23 : Code := cr c23_21
theorem w23_23 : awp X n c23_23 Q st = Q .ret st := by rw [awp_eq]; kernel_rfl
theorem w23_21 : awp X n c23_21 Q st = awp X n c23_22 (thenQ (awp X n c23_23 Q) Q) st := by rw [awp_eq]; kernel_rfl
theorem w23_4 : awp X n c23_4 Q st = awp X n c23_5 (thenQ (awp X n c23_21 Q) Q) st := by rw [awp_eq]; kernel_rfl
theorem w23_2 : awp X n c23_2 Q st = awp X n c23_3 (thenQ (awp X n c23_4 Q) Q) st := by rw [awp_eq]; kernel_rfl
theorem w23_0 : awp X n c23_0 Q st = awp X n c23_1 (thenQ (awp X n c23_2 Q) Q) st := by rw [awp_eq]; kernel_rfl
theorem q23_ret : retQ X Try.f23 K .ret ((a0::a1::a2::a3::a4::a5::a6::a7::a8::a9::b0::b1::b2::b3::b4::b5::b6::b7::b8::b9::d0::d1::[]), h) = (K.K a4 h) := by kernel_rfl
theorem q23_normal : retQ X Try.f23 K .normal ((a0::a1::a2::a3::a4::a5::a6::a7::a8::a9::b0::b1::b2::b3::b4::b5::b6::b7::b8::b9::d0::d1::[]), h) = (K.K a4 h) := by kernel_rfl
theorem i23 (H : awp X h.length c23_0 (retQ X Try.f23 K) ((a0::a1::.bad::.bad::.bad::.bad::.bad::.bad::.bad::.bad::.bad::.bad::.bad::.bad::.bad::.bad::.bad::.bad::.bad::.bad::.bad::.bad::[]), h)) : ACall X 23 [a0, a1] h K := acall_intro (fn := Try.f23) (by kernel_rfl) (by kernel_rfl) (by kernel_rfl) H
noncomputable def R23 := And.intro (And.intro (And.intro (And.intro (w23_1) (And.intro w23_3 w23_6)) (And.intro (w23_11) (And.intro w23_13 w23_14))) (And.intro (And.intro (w23_12) (And.intro w23_10 w23_18)) (And.intro (And.intro w23_19 w23_17) (And.intro w23_16 w23_20)))) (And.intro (And.intro (And.intro (w23_15) (And.intro w23_9 w23_8)) (And.intro (w23_7) (And.intro w23_5 w23_22))) (And.intro (And.intro (w23_23) (And.intro w23_21 w23_4)) (And.intro (And.intro w23_2 w23_0) (And.intro q23_ret q23_normal))))
/-! function 24: (*sindri/cursor.Cursor).Err -/
noncomputable def c24_0 : Code := bodyOf Try.f24
noncomputable def c24_1 : Code := cl c24_0
theorem w24_1 : awp X n c24_1 Q ((a0::a1::a2::a3::a4::a5::a6::a7::a8::a9::b0::b1::b2::b3::b4::b5::[]), h) = (a_mov (.v (.int .i64 0)) h (.c (fun t2 h1 => Q .normal ((a0::a1::t2::a3::a4::a5::a6::a7::a8::a9::b0::b1::b2::b3::b4::b5::[]), h1)) ())) := by rw [awp_eq]; kernel_rfl
noncomputable def c24_2 : Code := cr c24_0
noncomputable def c24_3 : Code := cl c24_2
noncomputable def c24_4 : Code := cl c24_3
theorem w24_4 : awp X n c24_4 Q ((a0::a1::a2::a3::a4::a5::a6::a7::a8::a9::b0::b1::b2::b3::b4::b5::[]), h) = (a_mov a0 h (.c (fun t3 h1 => a_eqp false t3 (.v (.pointer none)) h1 (.c (fun t4 h2 => a_mov t4 h2 (.c (fun t5 h3 => a_on t5 false (fun k => a_mov a0 h3 k) h3 (.c (fun t6 h4 => a_on t5 false (fun k => a_nilc t6 h4 k) h4 (.c (fun t7 h5 => a_on t5 false (fun k => a_fa 2 t7 h5 k) h5 (.c (fun t8 h6 => a_on t5 false (fun k => a_load 1 false t8 h6 k) h6 (.c (fun t9 h7 => a_on t5 false (fun k => a_un .not t9 h7 k) h7 (.c (fun t10 h8 => a_pick t5 (.v (.bool true)) t10 h8 (.c (fun t11 h9 => Q .normal ((a0::a1::a2::t3::t4::t5::t6::t7::t8::t9::t10::t11::b2::b3::b4::b5::[]), h9)) ())) ())) ())) ())) ())) ())) ())) ())) ())) := by rw [awp_eq]; kernel_rfl
noncomputable def c24_5 : Code := cr c24_3
noncomputable def c24_6 : Code := cl c24_5
noncomputable def c24_7 : Code := cl c24_6
theorem w24_7 : awp X n c24_7 Q ((a0::a1::a2::a3::a4::a5::a6::a7::a8::a9::b0::b1::b2::b3::b4::b5::[]), h) = (a_mov (.v (.int .i64 1)) h (.c (fun t2 h1 => Q .normal ((a0::a1::t2::a3::a4::a5::a6::a7::a8::a9::b0::b1::b2::b3::b4::b5::[]), h1)) ())) := by rw [awp_eq]; kernel_rfl
noncomputable def c24_8 : Code := cr c24_6
theorem w24_8 : awp X n c24_8 Q st = Q .ret st := by rw [awp_eq]; kernel_rfl
theorem w24_6 : awp X n c24_6 Q st = awp X n c24_7 (thenQ (awp X n c24_8 Q) Q) st := by rw [awp_eq]; kernel_rfl
noncomputable def c24_9 : Code := cr c24_5
theorem w24_9 : awp X n c24_9 Q st = Q .normal st := by rw [awp_eq]; kernel_rfl
theorem w24_5 : awp X n c24_5 Q ((a0::a1::a2::a3::a4::a5::a6::a7::a8::a9::b0::b1::b2::b3::b4::b5::[]), h) = a_cond b1 (awp X n c24_6 Q ((a0::a1::a2::a3::a4::a5::a6::a7::a8::a9::b0::b1::b2::b3::b4::b5::[]), h)) (awp X n c24_9 Q ((a0::a1::a2::a3::a4::a5::a6::a7::a8::a9::b0::b1::b2::b3::b4::b5::[]), h)) := by rw [awp_eq]; kernel_rfl
theorem w24_3 : awp X n c24_3 Q st = awp X n c24_4 (thenQ (awp X n c24_5 Q) Q) st := by rw [awp_eq]; kernel_rfl
noncomputable def c24_10 : Code := cr c24_2
noncomputable def c24_11 : Code := cl c24_10
theorem w24_11 : awp X n c24_11 Q ((a0::a1::a2::a3::a4::a5::a6::a7::a8::a9::b0::b1::b2::b3::b4::b5::[]), h) = (a_mov a0 h (.c (fun t12 h1 => a_nilc t12 h1 (.c (fun t13 h2 => a_fa 3 t13 h2 (.c (fun t14 h3 => a_load 1 false t14 h3 (.c (fun t15 h4 => a_mov t15 h4 (.c (fun t2 h5 => Q .normal ((a0::a1::t2::a3::a4::a5::a6::a7::a8::a9::b0::b1::t12::t13::t14::t15::[]), h5)) ())) ())) ())) ())) ())) := by rw [awp_eq]; kernel_rfl
noncomputable def c24_12 : Code := cr c24_10
theorem w24_12 : awp X n c24_12 Q st = Q .ret st := by rw [awp_eq]; kernel_rfl
theorem w24_10 : awp X n c24_10 Q st = awp X n c24_11 (thenQ (awp X n c24_12 Q) Q) st := by rw [awp_eq]; kernel_rfl
theorem w24_2 : awp X n c24_2 Q st = awp X n c24_3 (thenQ (awp X n c24_10 Q) Q) st := by rw [awp_eq]; kernel_rfl
theorem w24_0 : awp X n c24_0 Q st = awp X n c24_1 (thenQ (awp X n c24_2 Q) Q) st := by rw [awp_eq]; kernel_rfl
theorem q24_ret : retQ X Try.f24 K .ret ((a0::a1::a2::a3::a4::a5::a6::a7::a8::a9::b0::b1::b2::b3::b4::b5::[]), h) = (K.K a2 h) := by kernel_rfl
theorem q24_normal : retQ X Try.f24 K .normal ((a0::a1::a2::a3::a4::a5::a6::a7::a8::a9::b0::b1::b2::b3::b4::b5::[]), h) = (K.K a2 h) := by kernel_rfl
theorem i24 (H : awp X h.length c24_0 (retQ X Try.f24 K) ((a0::.bad::.bad::.bad::.bad::.bad::.bad::.bad::.bad::.bad::.bad::.bad::.bad::.bad::.bad::.bad::[]), h)) : ACall X 24 [a0] h K := acall_intro (fn := Try.f24) (by kernel_rfl) (by kernel_rfl) (by kernel_rfl) H
noncomputable def R24 := And.intro (And.intro (And.intro (w24_1) (And.intro w24_4 w24_7)) (And.intro (And.intro w24_8 w24_6) (And.intro w24_9 w24_5))) (And.intro (And.intro (And.intro w24_3 w24_11) (And.intro w24_12 w24_10)) (And.intro (And.intro w24_2 w24_0) (And.intro q24_ret q24_normal)))
/-! function 25: (*sindri/cursor.Cursor).Fail -/
noncomputable def c25_0 : Code := bodyOf Try.f25
noncomputable def c25_1 : Code := cl c25_0
theorem w25_1 : awp X n c25_1 Q ((a0::a1::a2::a3::a4::a5::a6::a7::a8::a9::b0::[]), h) = (a_mov a0 h (.c (fun t4 h1 => ACall X 24 [t4] h1 (.c (fun t5 h2 => a_bin .eql t5 (.v (.int .i64 0)) h2 (.c (fun t6 h3 => Q .normal ((a0::a1::a2::a3::t4::t5::t6::a7::a8::a9::b0::[]), h3)) ())) ())) ())) := by rw [awp_eq]; kernel_rfl
noncomputable def c25_2 : Code := cr c25_0
noncomputable def c25_3 : Code := cl c25_2
theorem w25_3 : awp X n c25_3 Q ((a0::a1::a2::a3::a4::a5::a6::a7::a8::a9::b0::[]), h) = (a_mov a0 h (.c (fun t7 h1 => a_mov a1 h1 (.c (fun t8 h2 => a_nilc t7 h2 (.c (fun t9 h3 => a_fa 3 t9 h3 (.c (fun t10 h4 => a_store 1 t10 t8 h4 (.c (fun _v4 h5 => Q .normal ((a0::a1::a2::a3::a4::a5::a6::t7::t8::t9::t10::[]), h5)) ())) ())) ())) ())) ())) := by rw [awp_eq]; kernel_rfl
noncomputable def c25_4 : Code := cr c25_2
theorem w25_4 : awp X n c25_4 Q st = Q .normal st := by rw [awp_eq]; kernel_rfl
theorem w25_2 : awp X n c25_2 Q ((a0::a1::a2::a3::a4::a5::a6::a7::a8::a9::b0::[]), h) = a_cond a6 (awp X n c25_3 Q ((a0::a1::a2::a3::a4::a5::a6::a7::a8::a9::b0::[]), h)) (awp X n c25_4 Q ((a0::a1::a2::a3::a4::a5::a6::a7::a8::a9::b0::[]), h)) := by rw [awp_eq]; kernel_rfl
theorem w25_0 : awp X n c25_0 Q st = awp X n c25_1 (thenQ (awp X n c25_2 Q) Q) st := by rw [awp_eq]; kernel_rfl
theorem q25_ret : retQ X Try.f25 K .ret ((a0::a1::a2::a3::a4::a5::a6::a7::a8::a9::b0::[]), h) = (K.K (.t []) h) := by kernel_rfl
theorem q25_normal : retQ X Try.f25 K .normal ((a0::a1::a2::a3::a4::a5::a6::a7::a8::a9::b0::[]), h) = (K.K (.t []) h) := by kernel_rfl
theorem i25 (H : awp X h.length c25_0 (retQ X Try.f25 K) ((a0::a1::.bad::.bad::.bad::.bad::.bad::.bad::.bad::.bad::.bad::[]), h)) : ACall X 25 [a0, a1] h K := acall_intro (fn := Try.f25) (by kernel_rfl) (by kernel_rfl) (by kernel_rfl) H
noncomputable def R25 := And.intro (And.intro (w25_1) (And.intro w25_3 w25_4)) (And.intro (And.intro w25_2 w25_0) (And.intro q25_ret q25_normal))
/-! function 26: (*sindri/cursor.Cursor).Uint -/
noncomputable def c26_0 : Code := bodyOf Try.f26
noncomputable def c26_1 : Code := cl c26_0
theorem w26_1 : awp X n c26_1 Q ((a0::a1::a2::a3::a4::a5::a6::a7::a8::a9::b0::b1::b2::b3::b4::b5::b6::b7::b8::b9::d0::d1::d2::d3::d4::d5::d6::d7::d8::[]), h) = (a_mov (.v (.int .u64 0)) h (.c (fun t4 h1 => Q .normal ((a0::a1::a2::a3::t4::a5::a6::a7::a8::a9::b0::b1::b2::b3::b4::b5::b6::b7::b8::b9::d0::d1::d2::d3::d4::d5::d6::d7::d8::[]), h1)) ())) := by rw [awp_eq]; kernel_rfl
noncomputable def c26_2 : Code := cr c26_0
noncomputable def c26_3 : Code := cl c26_2
theorem w26_3 : awp X n c26_3 Q ((a0::a1::a2::a3::a4::a5::a6::a7::a8::a9::b0::b1::b2::b3::b4::b5::b6::b7::b8::b9::d0::d1::d2::d3::d4::d5::d6::d7::d8::[]), h) = (a_mov (.v (.int .u64 0)) h (.c (fun t5 h1 => Q .normal ((a0::a1::a2::a3::a4::t5::a6::a7::a8::a9::b0::b1::b2::b3::b4::b5::b6::b7::b8::b9::d0::d1::d2::d3::d4::d5::d6::d7::d8::[]), h1)) ())) := by rw [awp_eq]; kernel_rfl
noncomputable def c26_4 : Code := cr c26_2
noncomputable def c26_5 : Code := cl c26_4
noncomputable def c26_6 : Code := cl c26_5
theorem w26_6 : awp X n c26_6 Q ((a0::a1::a2::a3::a4::a5::a6::a7::a8::a9::b0::b1::b2::b3::b4::b5::b6::b7::b8::b9::d0::d1::d2::d3::d4::d5::d6::d7::d8::[]), h) = (a_mov a0 h (.c (fun t8 h1 => a_mov a1 h1 (.c (fun t9 h2 => ACall X 28 [t9] h2 (.c (fun t10 h3 => a_cint .u64 t10 h3 (.c (fun t11 h4 => ACall X 30 [t8, t11] h4 (.c (fun t12 h5 => a_len t12 h5 (.c (fun t13 h6 => a_mov (.v (.int .i64 0)) h6 (.c (fun t14 h7 => Q .normal ((a0::a1::a2::a3::a4::a5::a6::a7::t8::t9::t10::t11::t12::t13::t14::b5::b6::b7::b8::b9::d0::d1::d2::d3::d4::d5::d6::d7::d8::[]), h7)) ())) ())) ())) ())) ())) ())) ())) := by rw [awp_eq]; kernel_rfl
noncomputable def c26_7 : Code := cr c26_5
noncomputable def c26_8 : Code := cl c26_7
noncomputable def c26_9 : Code := cl c26_8
noncomputable def c26_10 : Code := cl c26_9
theorem w26_10 : awp X n c26_10 Q ((a0::a1::a2::a3::a4::a5::a6::a7::a8::a9::b0::b1::b2::b3::b4::b5::b6::b7::b8::b9::d0::d1::d2::d3::d4::d5::d6::d7::d8::[]), h) = (a_bin .lss b4 b3 h (.c (fun t15 h1 => Q .normal ((a0::a1::a2::a3::a4::a5::a6::a7::a8::a9::b0::b1::b2::b3::b4::t15::b6::b7::b8::b9::d0::d1::d2::d3::d4::d5::d6::d7::d8::[]), h1)) ())) := by rw [awp_eq]; kernel_rfl
noncomputable def c26_11 : Code := cr c26_9
noncomputable def c26_12 : Code := cl c26_11
noncomputable def c26_13 : Code := cl c26_12
theorem w26_13 : awp X n c26_13 Q st = Q .normal st := by rw [awp_eq]; kernel_rfl
noncomputable def c26_14 : Code := cr c26_12
theorem w26_14 : awp X n c26_14 Q st = Q (.exit 0) st := by rw [awp_eq]; kernel_rfl
theorem w26_12 : awp X n c26_12 Q ((a0::a1::a2::a3::a4::a5::a6::a7::a8::a9::b0::b1::b2::b3::b4::b5::b6::b7::b8::b9::d0::d1::d2::d3::d4::d5::d6::d7::d8::[]), h) = a_cond b5 (awp X n c26_13 Q ((a0::a1::a2::a3::a4::a5::a6::a7::a8::a9::b0::b1::b2::b3::b4::b5::b6::b7::b8::b9::d0::d1::d2::d3::d4::d5::d6::d7::d8::[]), h)) (awp X n c26_14 Q ((a0::a1::a2::a3::a4::a5::a6::a7::a8::a9::b0::b1::b2::b3::b4::b5::b6::b7::b8::b9::d0::d1::d2::d3::d4::d5::d6::d7::d8::[]), h)) := by rw [awp_eq]; kernel_rfl
noncomputable def c26_15 : Code := cr c26_11
noncomputable def c26_16 : Code := cl c26_15
noncomputable def c26_17 : Code := cl c26_16
noncomputable def c26_18 : Code := cl c26_17
theorem w26_18 : awp X n c26_18 Q ((a0::a1::a2::a3::a4::a5::a6::a7::a8::a9::b0::b1::b2::b3::b4::b5::b6::b7::b8::b9::d0::d1::d2::d3::d4::d5::d6::d7::d8::[]), h) = (a_mov b4 h (.c (fun t16 h1 => a_ia 1 b2 b4 h1 (.c (fun t17 h2 => a_load 1 false t17 h2 (.c (fun t18 h3 => a_mov t16 h3 (.c (fun t6 h4 => a_mov t18 h4 (.c (fun t7 h5 => Q .normal ((a0::a1::a2::a3::a4::a5::t6::t7::a8::a9::b0::b1::b2::b3::b4::b5::t16::t17::t18::b9::d0::d1::d2::d3::d4::d5::d6::d7::d8::[]), h5)) ())) ())) ())) ())) ())) := by rw [awp_eq]; kernel_rfl
noncomputable def c26_19 : Code := cr c26_17
theorem w26_19 : awp X n c26_19 Q ((a0::a1::a2::a3::a4::a5::a6::a7::a8::a9::b0::b1::b2::b3::b4::b5::b6::b7::b8::b9::d0::d1::d2::d3::d4::d5::d6::d7::d8::[]), h) = (a_mov a5 h (.c (fun t19 h1 => a_mov a7 h1 (.c (fun t20 h2 => a_cint .u64 t20 h2 (.c (fun t21 h3 => a_mov a6 h3 (.c (fun t22 h4 => a_bin .mul (.v (.int .i64 8)) t22 h4 (.c (fun t23 h5 => a_cint .u64 t23 h5 (.c (fun t24 h6 => a_bin .shl t21 t24 h6 (.c (fun t25 h7 => a_bin .or t19 t25 h7 (.c (fun t26 h8 => a_mov t26 h8 (.c (fun t5 h9 => Q .normal ((a0::a1::a2::a3::a4::t5::a6::a7::a8::a9::b0::b1::b2::b3::b4::b5::b6::b7::b8::t19::t20::t21::t22::t23::t24::t25::t26::d7::d8::[]), h9)) ())) ())) ())) ())) ())) ())) ())) ())) ())) := by rw [awp_eq]; kernel_rfl
theorem w26_17 : awp X n c26_17 Q st = awp X n c26_18 (thenQ (awp X n c26_19 Q) Q) st := by rw [awp_eq]; kernel_rfl
theorem w26_16 : awp X n c26_16 Q st = awp X n c26_17 (blockQ 1 Q) st := by rw [awp_eq]; kernel_rfl
noncomputable def c26_20 : Code := cr c26_15
theorem w26_20 : awp X n c26_20 Q ((a0::a1::a2::a3::a4::a5::a6::a7::a8::a9::b0::b1::b2::b3::b4::b5::b6::b7::b8::b9::d0::d1::d2::d3::d4::d5::d6::d7::d8::[]), h) = (a_bin .add b4 (.v (.int .i64 1)) h (.c (fun t27 h1 => a_mov t27 h1 (.c (fun t14 h2 => Q .normal ((a0::a1::a2::a3::a4::a5::a6::a7::a8::a9::b0::b1::b2::b3::t14::b5::b6::b7::b8::b9::d0::d1::d2::d3::d4::d5::d6::t27::d8::[]), h2)) ())) ())) := by rw [awp_eq]; kernel_rfl
theorem w26_15 : awp X n c26_15 Q st = awp X n c26_16 (thenQ (awp X n c26_20 Q) Q) st := by rw [awp_eq]; kernel_rfl
theorem w26_11 : awp X n c26_11 Q st = awp X n c26_12 (thenQ (awp X n c26_15 Q) Q) st := by rw [awp_eq]; kernel_rfl
theorem w26_9 : awp X n c26_9 Q st = awp X n c26_10 (thenQ (awp X n c26_11 Q) Q) st := by rw [awp_eq]; kernel_rfl
theorem w26_8 : awp X n c26_8 Q st = ALoop X n c26_9 Q st := by rw [awp_eq]; kernel_rfl
theorem w26_7 : awp X n c26_7 Q st = awp X n c26_8 (blockQ 0 Q) st := by rw [awp_eq]; kernel_rfl
theorem w26_5 : awp X n c26_5 Q st = awp X n c26_6 (thenQ (awp X n c26_7 Q) Q) st := by rw [awp_eq]; kernel_rfl
noncomputable def c26_21 : Code := cr c26_4
noncomputable def c26_22 : Code := cl c26_21
theorem w26_22 : awp X n c26_22 Q ((a0::a1::a2::a3::a4::a5::a6::a7::a8::a9::b0::b1::b2::b3::b4::b5::b6::b7::b8::b9::d0::d1::d2::d3::d4::d5::d6::d7::d8::[]), h) = (a_mov a5 h (.c (fun t28 h1 => a_mov t28 h1 (.c (fun t4 h2 => Q .normal ((a0::a1::a2::a3::t4::a5::a6::a7::a8::a9::b0::b1::b2::b3::b4::b5::b6::b7::b8::b9::d0::d1::d2::d3::d4::d5::d6::d7::t28::[]), h2)) ())) ())) := by rw [awp_eq]; kernel_rfl
noncomputable def c26_23 : Code := cr c26_21
theorem w26_23 : awp X n c26_23 Q st = Q .ret st := by rw [awp_eq]; kernel_rfl
theorem w26_21 : awp X n c26_21 Q st = awp X n c26_22 (thenQ (awp X n c26_23 Q) Q) st := by rw [awp_eq]; kernel_rfl
theorem w26_4 : awp X n c26_4 Q st = awp X n c26_5 (thenQ (awp X n c26_21 Q) Q) st := by rw [awp_eq]; kernel_rfl
theorem w26_2 : awp X n c26_2 Q st = awp X n c26_3 (thenQ (awp X n c26_4 Q) Q) st := by rw [awp_eq]; kernel_rfl
theorem w26_0 : awp X n c26_0 Q st = awp X n c26_1 (thenQ (awp X n c26_2 Q) Q) st := by rw [awp_eq]; kernel_rfl
theorem q26_ret : retQ X Try.f26 K .ret ((a0::a1::a2::a3::a4::a5::a6::a7::a8::a9::b0::b1::b2::b3::b4::b5::b6::b7::b8::b9::d0::d1::d2::d3::d4::d5::d6::d7::d8::[]), h) = (K.K a4 h) := by kernel_rfl
theorem q26_normal : retQ X Try.f26 K .normal ((a0::a1::a2::a3::a4::a5::a6::a7::a8::a9::b0::b1::b2::b3::b4::b5::b6::b7::b8::b9::d0::d1::d2::d3::d4::d5::d6::d7::d8::[]), h) = (K.K a4 h) := by kernel_rfl
theorem i26 (H : awp X h.length c26_0 (retQ X Try.f26 K) ((a0::a1::.bad::.bad::.bad::.bad::.bad::.bad::.bad::.bad::.bad::.bad::.bad::.bad::.bad::.bad::.bad::.bad::.bad::.bad::.bad::.bad::.bad::.bad::.bad::.bad::.bad::.bad::.bad::[]), h)) : ACall X 26 [a0, a1] h K := acall_intro (fn := Try.f26) (by kernel_rfl) (by kernel_rfl) (by kernel_rfl) H
noncomputable def R26 := And.intro (And.intro (And.intro (And.intro (w26_1) (And.intro w26_3 w26_6)) (And.intro (w26_10) (And.intro w26_13 w26_14))) (And.intro (And.intro (w26_12) (And.intro w26_18 w26_19)) (And.intro (And.intro w26_17 w26_16) (And.intro w26_20 w26_15)))) (And.intro (And.intro (And.intro (w26_11) (And.intro w26_9 w26_8)) (And.intro (w26_7) (And.intro w26_5 w26_22))) (And.intro (And.intro (w26_23) (And.intro w26_21 w26_4)) (And.intro (And.intro w26_2 w26_0) (And.intro q26_ret q26_normal))))
/-! function 27: sindri/sindriref01.Sum -/
noncomputable def c27_0 : Code := bodyOf Try.f27
noncomputable def c27_1 : Code := cl c27_0
theorem w27_1 : awp X n c27_1 Q ((a0::a1::a2::a3::a4::a5::a6::a7::a8::a9::b0::b1::b2::b3::[]), h) = (a_mov (.v (.int .u64 0)) h (.c (fun t4 h1 => a_mov (.v (.bool false)) h1 (.c (fun t5 h2 => Q .normal ((a0::a1::a2::a3::t4::t5::a6::a7::a8::a9::b0::b1::b2::b3::[]), h2)) ())) ())) := by rw [awp_eq]; kernel_rfl
noncomputable def c27_2 : Code := cr c27_0
noncomputable def c27_3 : Code := cl c27_2
theorem w27_3 : awp X n c27_3 Q ((a0::a1::a2::a3::a4::a5::a6::a7::a8::a9::b0::b1::b2::b3::[]), h) = (a_mov a0 h (.c (fun t7 h1 => a_mov a1 h1 (.c (fun t8 h2 => a_bin .add t7 t8 h2 (.c (fun t9 h3 => a_mov t9 h3 (.c (fun t6 h4 => Q .normal ((a0::a1::a2::a3::a4::a5::t6::t7::t8::t9::b0::b1::b2::b3::[]), h4)) ())) ())) ())) ())) := by rw [awp_eq]; kernel_rfl
noncomputable def c27_4 : Code := cr c27_2
noncomputable def c27_5 : Code := cl c27_4
noncomputable def c27_6 : Code := cl c27_5
theorem w27_6 : awp X n c27_6 Q ((a0::a1::a2::a3::a4::a5::a6::a7::a8::a9::b0::b1::b2::b3::[]), h) = (a_mov a6 h (.c (fun t10 h1 => a_mov a0 h1 (.c (fun t11 h2 => a_bin .lss t10 t11 h2 (.c (fun t12 h3 => Q .normal ((a0::a1::a2::a3::a4::a5::a6::a7::a8::a9::t10::t11::t12::b3::[]), h3)) ())) ())) ())) := by rw [awp_eq]; kernel_rfl
noncomputable def c27_7 : Code := cr c27_5
noncomputable def c27_8 : Code := cl c27_7
noncomputable def c27_9 : Code := cl c27_8
theorem w27_9 : awp X n c27_9 Q ((a0::a1::a2::a3::a4::a5::a6::a7::a8::a9::b0::b1::b2::b3::[]), h) = (a_mov (.v (.int .u64 0)) h (.c (fun t4 h1 => a_mov (.v (.bool false)) h1 (.c (fun t5 h2 => Q .normal ((a0::a1::a2::a3::t4::t5::a6::a7::a8::a9::b0::b1::b2::b3::[]), h2)) ())) ())) := by rw [awp_eq]; kernel_rfl
noncomputable def c27_10 : Code := cr c27_8
theorem w27_10 : awp X n c27_10 Q st = Q .ret st := by rw [awp_eq]; kernel_rfl
theorem w27_8 : awp X n c27_8 Q st = awp X n c27_9 (thenQ (awp X n c27_10 Q) Q) st := by rw [awp_eq]; kernel_rfl
noncomputable def c27_11 : Code := cr c27_7
theorem w27_11 : awp X n c27_11 Q st = Q .normal st := by rw [awp_eq]; kernel_rfl
theorem w27_7 : awp X n c27_7 Q ((a0::a1::a2::a3::a4::a5::a6::a7::a8::a9::b0::b1::b2::b3::[]), h) = a_cond b2 (awp X n c27_8 Q ((a0::a1::a2::a3::a4::a5::a6::a7::a8::a9::b0::b1::b2::b3::[]), h)) (awp X n c27_11 Q ((a0::a1::a2::a3::a4::a5::a6::a7::a8::a9::b0::b1::b2::b3::[]), h)) := by rw [awp_eq]; kernel_rfl
theorem w27_5 : awp X n c27_5 Q st = awp X n c27_6 (thenQ (awp X n c27_7 Q) Q) st := by rw [awp_eq]; kernel_rfl
noncomputable def c27_12 : Code := cr c27_4
noncomputable def c27_13 : Code := cl c27_12
theorem w27_13 : awp X n c27_13 Q ((a0::a1::a2::a3::a4::a5::a6::a7::a8::a9::b0::b1::b2::b3::[]), h) = (a_mov a6 h (.c (fun t13 h1 => a_mov t13 h1 (.c (fun t4 h2 => a_mov (.v (.bool true)) h2 (.c (fun t5 h3 => Q .normal ((a0::a1::a2::a3::t4::t5::a6::a7::a8::a9::b0::b1::b2::t13::[]), h3)) ())) ())) ())) := by rw [awp_eq]; kernel_rfl
noncomputable def c27_14 : Code := cr c27_12
theorem w27_14 : awp X n c27_14 Q st = Q .ret st := by rw [awp_eq]; kernel_rfl
theorem w27_12 : awp X n c27_12 Q st = awp X n c27_13 (thenQ (awp X n c27_14 Q) Q) st := by rw [awp_eq]; kernel_rfl
theorem w27_4 : awp X n c27_4 Q st = awp X n c27_5 (thenQ (awp X n c27_12 Q) Q) st := by rw [awp_eq]; kernel_rfl
theorem w27_2 : awp X n c27_2 Q st = awp X n c27_3 (thenQ (awp X n c27_4 Q) Q) st := by rw [awp_eq]; kernel_rfl
theorem w27_0 : awp X n c27_0 Q st = awp X n c27_1 (thenQ (awp X n c27_2 Q) Q) st := by rw [awp_eq]; kernel_rfl
theorem q27_ret : retQ X Try.f27 K .ret ((a0::a1::a2::a3::a4::a5::a6::a7::a8::a9::b0::b1::b2::b3::[]), h) = (K.K (.t [a4, a5]) h) := by kernel_rfl
theorem q27_normal : retQ X Try.f27 K .normal ((a0::a1::a2::a3::a4::a5::a6::a7::a8::a9::b0::b1::b2::b3::[]), h) = (K.K (.t [a4, a5]) h) := by kernel_rfl
theorem i27 (H : awp X h.length c27_0 (retQ X Try.f27 K) ((a0::a1::.bad::.bad::.bad::.bad::.bad::.bad::.bad::.bad::.bad::.bad::.bad::.bad::[]), h)) : ACall X 27 [a0, a1] h K := acall_intro (fn := Try.f27) (by kernel_rfl) (by kernel_rfl) (by kernel_rfl) H
noncomputable def R27 := And.intro (And.intro (And.intro (And.intro w27_1 w27_3) (And.intro w27_6 w27_9)) (And.intro (And.intro w27_10 w27_8) (And.intro w27_11 w27_7))) (And.intro (And.intro (And.intro w27_5 w27_13) (And.intro w27_14 w27_12)) (And.intro (And.intro w27_4 w27_2) (And.intro (w27_0) (And.intro q27_ret q27_normal))))
/-! function 28: sindri/cursor.width -/
noncomputable def c28_0 : Code := bodyOf Try.f28
noncomputable def c28_1 : Code := cl c28_0
theorem w28_1 : awp X n c28_1 Q ([a0,a1,a2,a3,a4,a5], h) = (a_mov (.v (.int .i64 0)) h (.c (fun t2 h1 => Q .normal ([a0,a1,t2,a3,a4,a5], h1)) ())) := by rw [awp_eq]; kernel_rfl
noncomputable def c28_2 : Code := cr c28_0
noncomputable def c28_3 : Code := cl c28_2
theorem w28_3 : awp X n c28_3 Q ([a0,a1,a2,a3,a4,a5], h) = (a_mov a0 h (.c (fun t3 h1 => a_max [t3, (.v (.int .i64 0))] h1 (.c (fun t4 h2 => a_min [t4, (.v (.int .i64 8))] h2 (.c (fun t5 h3 => a_mov t5 h3 (.c (fun t2 h4 => Q .normal ([a0,a1,t2,t3,t4,t5], h4)) ())) ())) ())) ())) := by rw [awp_eq]; kernel_rfl
noncomputable def c28_4 : Code := cr c28_2
theorem w28_4 : awp X n c28_4 Q st = Q .ret st := by rw [awp_eq]; kernel_rfl
theorem w28_2 : awp X n c28_2 Q st = awp X n c28_3 (thenQ (awp X n c28_4 Q) Q) st := by rw [awp_eq]; kernel_rfl
theorem w28_0 : awp X n c28_0 Q st = awp X n c28_1 (thenQ (awp X n c28_2 Q) Q) st := by rw [awp_eq]; kernel_rfl
theorem q28_ret : retQ X Try.f28 K .ret ([a0,a1,a2,a3,a4,a5], h) = (K.K a2 h) := by kernel_rfl
theorem q28_normal : retQ X Try.f28 K .normal ([a0,a1,a2,a3,a4,a5], h) = (K.K a2 h) := by kernel_rfl
theorem i28 (H : awp X h.length c28_0 (retQ X Try.f28 K) ([a0,.bad,.bad,.bad,.bad,.bad], h)) : ACall X 28 [a0] h K := acall_intro (fn := Try.f28) (by kernel_rfl) (by kernel_rfl) (by kernel_rfl) H
noncomputable def R28 := And.intro (And.intro (w28_1) (And.intro w28_3 w28_4)) (And.intro (And.intro w28_2 w28_0) (And.intro q28_ret q28_normal))
/-! function 29: sindri/sindriref01.size -/
noncomputable def c29_0 : Code := bodyOf Try.f29
noncomputable def c29_1 : Code := cl c29_0
theorem w29_1 : awp X n c29_1 Q ((a0::a1::a2::a3::a4::a5::a6::a7::[]), h) = (a_mov (.v (.int .i64 0)) h (.c (fun t2 h1 => Q .normal ((a0::a1::t2::a3::a4::a5::a6::a7::[]), h1)) ())) := by rw [awp_eq]; kernel_rfl
noncomputable def c29_2 : Code := cr c29_0
noncomputable def c29_3 : Code := cl c29_2
noncomputable def c29_4 : Code := cl c29_3
theorem w29_4 : awp X n c29_4 Q ((a0::a1::a2::a3::a4::a5::a6::a7::[]), h) = (a_mov a0 h (.c (fun t3 h1 => a_bin .lss t3 (.v (.int .i64 0)) h1 (.c (fun t4 h2 => Q .normal ((a0::a1::a2::t3::t4::a5::a6::a7::[]), h2)) ())) ())) := by rw [awp_eq]; kernel_rfl
noncomputable def c29_5 : Code := cr c29_3
noncomputable def c29_6 : Code := cl c29_5
noncomputable def c29_7 : Code := cl c29_6
theorem w29_7 : awp X n c29_7 Q ((a0::a1::a2::a3::a4::a5::a6::a7::[]), h) = (a_mov (.v (.int .i64 0)) h (.c (fun t2 h1 => Q .normal ((a0::a1::t2::a3::a4::a5::a6::a7::[]), h1)) ())) := by rw [awp_eq]; kernel_rfl
noncomputable def c29_8 : Code := cr c29_6
theorem w29_8 : awp X n c29_8 Q st = Q .ret st := by rw [awp_eq]; kernel_rfl
theorem w29_6 : awp X n c29_6 Q st = awp X n c29_7 (thenQ (awp X n c29_8 Q) Q) st := by rw [awp_eq]; kernel_rfl
noncomputable def c29_9 : Code := cr c29_5
theorem w29_9 : awp X n c29_9 Q st = Q .normal st := by rw [awp_eq]; kernel_rfl
theorem w29_5 : awp X n c29_5 Q ((a0::a1::a2::a3::a4::a5::a6::a7::[]), h) = a_cond a4 (awp X n c29_6 Q ((a0::a1::a2::a3::a4::a5::a6::a7::[]), h)) (awp X n c29_9 Q ((a0::a1::a2::a3::a4::a5::a6::a7::[]), h)) := by rw [awp_eq]; kernel_rfl
theorem w29_3 : awp X n c29_3 Q st = awp X n c29_4 (thenQ (awp X n c29_5 Q) Q) st := by rw [awp_eq]; kernel_rfl
noncomputable def c29_10 : Code := cr c29_2
noncomputable def c29_11 : Code := cl c29_10
noncomputable def c29_12 : Code := cl c29_11
theorem w29_12 : awp X n c29_12 Q ((a0::a1::a2::a3::a4::a5::a6::a7::[]), h) = (a_mov a0 h (.c (fun t5 h1 => a_bin .gtr t5 (.v (.int .i64 8)) h1 (.c (fun t6 h2 => Q .normal ((a0::a1::a2::a3::a4::t5::t6::a7::[]), h2)) ())) ())) := by rw [awp_eq]; kernel_rfl
noncomputable def c29_13 : Code := cr c29_11
noncomputable def c29_14 : Code := cl c29_13
noncomputable def c29_15 : Code := cl c29_14
theorem w29_15 : awp X n c29_15 Q ((a0::a1::a2::a3::a4::a5::a6::a7::[]), h) = (a_mov (.v (.int .i64 8)) h (.c (fun t2 h1 => Q .normal ((a0::a1::t2::a3::a4::a5::a6::a7::[]), h1)) ())) := by rw [awp_eq]; kernel_rfl
noncomputable def c29_16 : Code := cr c29_14
theorem w29_16 : awp X n c29_16 Q st = Q .ret st := by rw [awp_eq]; kernel_rfl
theorem w29_14 : awp X n c29_14 Q st = awp X n c29_15 (thenQ (awp X n c29_16 Q) Q) st := by rw [awp_eq]; kernel_rfl
noncomputable def c29_17 : Code := cr c29_13
theorem w29_17 : awp X n c29_17 Q st = Q .normal st := by rw [awp_eq]; kernel_rfl
theorem w29_13 : awp X n c29_13 Q ((a0::a1::a2::a3::a4::a5::a6::a7::[]), h) = a_cond a6 (awp X n c29_14 Q ((a0::a1::a2::a3::a4::a5::a6::a7::[]), h)) (awp X n c29_17 Q ((a0::a1::a2::a3::a4::a5::a6::a7::[]), h)) := by rw [awp_eq]; kernel_rfl
theorem w29_11 : awp X n c29_11 Q st = awp X n c29_12 (thenQ (awp X n c29_13 Q) Q) st := by rw [awp_eq]; kernel_rfl
noncomputable def c29_18 : Code := cr c29_10
noncomputable def c29_19 : Code := cl c29_18
theorem w29_19 : awp X n c29_19 Q ((a0::a1::a2::a3::a4::a5::a6::a7::[]), h) = (a_mov a0 h (.c (fun t7 h1 => a_mov t7 h1 (.c (fun t2 h2 => Q .normal ((a0::a1::t2::a3::a4::a5::a6::t7::[]), h2)) ())) ())) := by rw [awp_eq]; kernel_rfl
noncomputable def c29_20 : Code := cr c29_18
theorem w29_20 : awp X n c29_20 Q st = Q .ret st := by rw [awp_eq]; kernel_rfl
theorem w29_18 : awp X n c29_18 Q st = awp X n c29_19 (thenQ (awp X n c29_20 Q) Q) st := by rw [awp_eq]; kernel_rfl
theorem w29_10 : awp X n c29_10 Q st = awp X n c29_11 (thenQ (awp X n c29_18 Q) Q) st := by rw [awp_eq]; kernel_rfl
theorem w29_2 : awp X n c29_2 Q st = awp X n c29_3 (thenQ (awp X n c29_10 Q) Q) st := by rw [awp_eq]; kernel_rfl
theorem w29_0 : awp X n c29_0 Q st = awp X n c29_1 (thenQ (awp X n c29_2 Q) Q) st := by rw [awp_eq]; kernel_rfl
theorem q29_ret : retQ X Try.f29 K .ret ((a0::a1::a2::a3::a4::a5::a6::a7::[]), h) = (K.K a2 h) := by kernel_rfl
theorem q29_normal : retQ X Try.f29 K .normal ((a0::a1::a2::a3::a4::a5::a6::a7::[]), h) = (K.K a2 h) := by kernel_rfl
theorem i29 (H : awp X h.length c29_0 (retQ X Try.f29 K) ((a0::.bad::.bad::.bad::.bad::.bad::.bad::.bad::[]), h)) : ACall X 29 [a0] h K := acall_intro (fn := Try.f29) (by kernel_rfl) (by kernel_rfl) (by kernel_rfl) H
noncomputable def R29 := And.intro (And.intro (And.intro (And.intro w29_1 w29_4) (And.intro (w29_7) (And.intro w29_8 w29_6))) (And.intro (And.intro (w29_9) (And.intro w29_5 w29_3)) (And.intro (w29_12) (And.intro w29_15 w29_16)))) (And.intro (And.intro (And.intro (w29_14) (And.intro w29_17 w29_13)) (And.intro (w29_11) (And.intro w29_19 w29_20))) (And.intro (And.intro (w29_18) (And.intro w29_10 w29_2)) (And.intro (w29_0) (And.intro q29_ret q29_normal))))
/-! function 30: (*sindri/cursor.Cursor).next -/
noncomputable def c30_0 : Code := bodyOf Try.f30
noncomputable def c30_1 : Code := cl c30_0
theorem w30_1 : awp X n c30_1 Q ((a0::a1::a2::a3::a4::a5::a6::a7::a8::a9::b0::b1::b2::b3::b4::b5::b6::b7::b8::b9::d0::d1::d2::d3::d4::d5::d6::d7::d8::d9::e0::e1::e2::e3::e4::e5::e6::e7::e8::e9::f0::f1::f2::f3::f4::f5::f6::f7::f8::[]), h) = (a_mov (.v (.slice none 0 0)) h (.c (fun t4 h1 => Q .normal ((a0::a1::a2::a3::t4::a5::a6::a7::a8::a9::b0::b1::b2::b3::b4::b5::b6::b7::b8::b9::d0::d1::d2::d3::d4::d5::d6::d7::d8::d9::e0::e1::e2::e3::e4::e5::e6::e7::e8::e9::f0::f1::f2::f3::f4::f5::f6::f7::f8::[]), h1)) ())) := by rw [awp_eq]; kernel_rfl
noncomputable def c30_2 : Code := cr c30_0
noncomputable def c30_3 : Code := cl c30_2
noncomputable def c30_4 : Code := cl c30_3
theorem w30_4 : awp X n c30_4 Q ((a0::a1::a2::a3::a4::a5::a6::a7::a8::a9::b0::b1::b2::b3::b4::b5::b6::b7::b8::b9::d0::d1::d2::d3::d4::d5::d6::d7::d8::d9::e0::e1::e2::e3::e4::e5::e6::e7::e8::e9::f0::f1::f2::f3::f4::f5::f6::f7::f8::[]), h) = (a_mov a0 h (.c (fun t6 h1 => ACall X 24 [t6] h1 (.c (fun t7 h2 => a_bin .neq t7 (.v (.int .i64 0)) h2 (.c (fun t8 h3 => Q .normal ((a0::a1::a2::a3::a4::a5::t6::t7::t8::a9::b0::b1::b2::b3::b4::b5::b6::b7::b8::b9::d0::d1::d2::d3::d4::d5::d6::d7::d8::d9::e0::e1::e2::e3::e4::e5::e6::e7::e8::e9::f0::f1::f2::f3::f4::f5::f6::f7::f8::[]), h3)) ())) ())) ())) := by rw [awp_eq]; kernel_rfl
noncomputable def c30_5 : Code := cr c30_3
noncomputable def c30_6 : Code := cl c30_5
noncomputable def c30_7 : Code := cl c30_6
theorem w30_7 : awp X n c30_7 Q ((a0::a1::a2::a3::a4::a5::a6::a7::a8::a9::b0::b1::b2::b3::b4::b5::b6::b7::b8::b9::d0::d1::d2::d3::d4::d5::d6::d7::d8::d9::e0::e1::e2::e3::e4::e5::e6::e7::e8::e9::f0::f1::f2::f3::f4::f5::f6::f7::f8::[]), h) = (a_mov (.v (.slice none 0 0)) h (.c (fun t4 h1 => Q .normal ((a0::a1::a2::a3::t4::a5::a6::a7::a8::a9::b0::b1::b2::b3::b4::b5::b6::b7::b8::b9::d0::d1::d2::d3::d4::d5::d6::d7::d8::d9::e0::e1::e2::e3::e4::e5::e6::e7::e8::e9::f0::f1::f2::f3::f4::f5::f6::f7::f8::[]), h1)) ())) := by rw [awp_eq]; kernel_rfl
noncomputable def c30_8 : Code := cr c30_6
theorem w30_8 : awp X n c30_8 Q st = Q .ret st := by rw [awp_eq]; kernel_rfl
theorem w30_6 : awp X n c30_6 Q st = awp X n c30_7 (thenQ (awp X n c30_8 Q) Q) st := by rw [awp_eq]; kernel_rfl
noncomputable def c30_9 : Code := cr c30_5
theorem w30_9 : awp X n c30_9 Q st = Q .normal st := by rw [awp_eq]; kernel_rfl
theorem w30_5 : awp X n c30_5 Q ((a0::a1::a2::a3::a4::a5::a6::a7::a8::a9::b0::b1::b2::b3::b4::b5::b6::b7::b8::b9::d0::d1::d2::d3::d4::d5::d6::d7::d8::d9::e0::e1::e2::e3::e4::e5::e6::e7::e8::e9::f0::f1::f2::f3::f4::f5::f6::f7::f8::[]), h) = a_cond a8 (awp X n c30_6 Q ((a0::a1::a2::a3::a4::a5::a6::a7::a8::a9::b0::b1::b2::b3::b4::b5::b6::b7::b8::b9::d0::d1::d2::d3::d4::d5::d6::d7::d8::d9::e0::e1::e2::e3::e4::e5::e6::e7::e8::e9::f0::f1::f2::f3::f4::f5::f6::f7::f8::[]), h)) (awp X n c30_9 Q ((a0::a1::a2::a3::a4::a5::a6::a7::a8::a9::b0::b1::b2::b3::b4::b5::b6::b7::b8::b9::d0::d1::d2::d3::d4::d5::d6::d7::d8::d9::e0::e1::e2::e3::e4::e5::e6::e7::e8::e9::f0::f1::f2::f3::f4::f5::f6::f7::f8::[]), h)) := by rw [awp_eq]; kernel_rfl
theorem w30_3 : awp X n c30_3 Q st = awp X n c30_4 (thenQ (awp X n c30_5 Q) Q) st := by rw [awp_eq]; kernel_rfl
noncomputable def c30_10 : Code := cr c30_2
noncomputable def c30_11 : Code := cl c30_10
noncomputable def c30_12 : Code := cl c30_11
theorem w30_12 : awp X n c30_12 Q ((a0::a1::a2::a3::a4::a5::a6::a7::a8::a9::b0::b1::b2::b3::b4::b5::b6::b7::b8::b9::d0::d1::d2::d3::d4::d5::d6::d7::d8::d9::e0::e1::e2::e3::e4::e5::e6::e7::e8::e9::f0::f1::f2::f3::f4::f5::f6::f7::f8::[]), h) = (a_mov a1 h (.c (fun t9 h1 => a_mov a0 h1 (.c (fun t10 h2 => ACall X 31 [t10] h2 (.c (fun t11 h3 => a_cint .u64 t11 h3 (.c (fun t12 h4 => a_bin .gtr t9 t12 h4 (.c (fun t13 h5 => Q .normal ((a0::a1::a2::a3::a4::a5::a6::a7::a8::t9::t10::t11::t12::t13::b4::b5::b6::b7::b8::b9::d0::d1::d2::d3::d4::d5::d6::d7::d8::d9::e0::e1::e2::e3::e4::e5::e6::e7::e8::e9::f0::f1::f2::f3::f4::f5::f6::f7::f8::[]), h5)) ())) ())) ())) ())) ())) := by rw [awp_eq]; kernel_rfl
noncomputable def c30_13 : Code := cr c30_11
noncomputable def c30_14 : Code := cl c30_13
noncomputable def c30_15 : Code := cl c30_14
theorem w30_15 : awp X n c30_15 Q ((a0::a1::a2::a3::a4::a5::a6::a7::a8::a9::b0::b1::b2::b3::b4::b5::b6::b7::b8::b9::d0::d1::d2::d3::d4::d5::d6::d7::d8::d9::e0::e1::e2::e3::e4::e5::e6::e7::e8::e9::f0::f1::f2::f3::f4::f5::f6::f7::f8::[]), h) = (a_mov a0 h (.c (fun t14 h1 => ACall X 25 [t14, (.v (.int .i64 10))] h1 (.c (fun t15 h2 => Q .normal ((a0::a1::a2::a3::a4::a5::a6::a7::a8::a9::b0::b1::b2::b3::t14::t15::b6::b7::b8::b9::d0::d1::d2::d3::d4::d5::d6::d7::d8::d9::e0::e1::e2::e3::e4::e5::e6::e7::e8::e9::f0::f1::f2::f3::f4::f5::f6::f7::f8::[]), h2)) ())) ())) := by rw [awp_eq]; kernel_rfl
noncomputable def c30_16 : Code := cr c30_14
noncomputable def c30_17 : Code := cl c30_16
theorem w30_17 : awp X n c30_17 Q ((a0::a1::a2::a3::a4::a5::a6::a7::a8::a9::b0::b1::b2::b3::b4::b5::b6::b7::b8::b9::d0::d1::d2::d3::d4::d5::d6::d7::d8::d9::e0::e1::e2::e3::e4::e5::e6::e7::e8::e9::f0::f1::f2::f3::f4::f5::f6::f7::f8::[]), h) = (a_mov (.v (.slice none 0 0)) h (.c (fun t4 h1 => Q .normal ((a0::a1::a2::a3::t4::a5::a6::a7::a8::a9::b0::b1::b2::b3::b4::b5::b6::b7::b8::b9::d0::d1::d2::d3::d4::d5::d6::d7::d8::d9::e0::e1::e2::e3::e4::e5::e6::e7::e8::e9::f0::f1::f2::f3::f4::f5::f6::f7::f8::[]), h1)) ())) := by rw [awp_eq]; kernel_rfl
noncomputable def c30_18 : Code := cr c30_16
theorem w30_18 : awp X n c30_18 Q st = Q .ret st := by rw [awp_eq]; kernel_rfl
theorem w30_16 : awp X n c30_16 Q st = awp X n c30_17 (thenQ (awp X n c30_18 Q) Q) st := by rw [awp_eq]; kernel_rfl
theorem w30_14 : awp X n c30_14 Q st = awp X n c30_15 (thenQ (awp X n c30_16 Q) Q) st := by rw [awp_eq]; kernel_rfl
noncomputable def c30_19 : Code := cr c30_13
theorem w30_19 : awp X n c30_19 Q st = Q .normal st := by rw [awp_eq]; kernel_rfl
theorem w30_13 : awp X n c30_13 Q ((a0::a1::a2::a3::a4::a5::a6::a7::a8::a9::b0::b1::b2::b3::b4::b5::b6::b7::b8::b9::d0::d1::d2::d3::d4::d5::d6::d7::d8::d9::e0::e1::e2::e3::e4::e5::e6::e7::e8::e9::f0::f1::f2::f3::f4::f5::f6::f7::f8::[]), h) = a_cond b3 (awp X n c30_14 Q ((a0::a1::a2::a3::a4::a5::a6::a7::a8::a9::b0::b1::b2::b3::b4::b5::b6::b7::b8::b9::d0::d1::d2::d3::d4::d5::d6::d7::d8::d9::e0::e1::e2::e3::e4::e5::e6::e7::e8::e9::f0::f1::f2::f3::f4::f5::f6::f7::f8::[]), h)) (awp X n c30_19 Q ((a0::a1::a2::a3::a4::a5::a6::a7::a8::a9::b0::b1::b2::b3::b4::b5::b6::b7::b8::b9::d0::d1::d2::d3::d4::d5::d6::d7::d8::d9::e0::e1::e2::e3::e4::e5::e6::e7::e8::e9::f0::f1::f2::f3::f4::f5::f6::f7::f8::[]), h)) := by rw [awp_eq]; kernel_rfl
theorem w30_11 : awp X n c30_11 Q st = awp X n c30_12 (thenQ (awp X n c30_13 Q) Q) st := by rw [awp_eq]; kernel_rfl
noncomputable def c30_20 : Code := cr c30_10
noncomputable def c30_21 : Code := cl c30_20
theorem w30_21 : awp X n c30_21 Q ((a0::a1::a2::a3::a4::a5::a6::a7::a8::a9::b0::b1::b2::b3::b4::b5::b6::b7::b8::b9::d0::d1::d2::d3::d4::d5::d6::d7::d8::d9::e0::e1::e2::e3::e4::e5::e6::e7::e8::e9::f0::f1::f2::f3::f4::f5::f6::f7::f8::[]), h) = (a_mov a0 h (.c (fun t16 h1 => a_nilc t16 h1 (.c (fun t17 h2 => a_fa 0 t17 h2 (.c (fun t18 h3 => a_load 1 false t18 h3 (.c (fun t19 h4 => a_mov a0 h4 (.c (fun t20 h5 => a_nilc t20 h5 (.c (fun t21 h6 => a_fa 1 t21 h6 (.c (fun t22 h7 => a_load 1 false t22 h7 (.c (fun t23 h8 => a_mov a0 h8 (.c (fun t24 h9 => a_nilc t24 h9 (.c (fun t25 h10 => a_fa 1 t25 h10 (.c (fun t26 h11 => a_load 1 false t26 h11 (.c (fun t27 h12 => a_mov a1 h12 (.c (fun t28 h13 => a_cint .i64 t28 h13 (.c (fun t29 h14 => a_bin .add t27 t29 h14 (.c (fun t30 h15 => a_mov a0 h15 (.c (fun t31 h16 => a_nilc t31 h16 (.c (fun t32 h17 => a_fa 1 t32 h17 (.c (fun t33 h18 => a_load 1 false t33 h18 (.c (fun t34 h19 => a_mov a1 h19 (.c (fun t35 h20 => a_cint .i64 t35 h20 (.c (fun t36 h21 => a_bin .add t34 t36 h21 (.c (fun t37 h22 => a_slice 1 t19 (some t23) (some t30) (some t37) h22 (.c (fun t38 h23 => a_mov t38 h23 (.c (fun t5 h24 => Q .normal ((a0::a1::a2::a3::a4::t5::a6::a7::a8::a9::b0::b1::b2::b3::b4::b5::t16::t17::t18::t19::t20::t21::t22::t23::t24::t25::t26::t27::t28::t29::t30::t31::t32::t33::t34::t35::t36::t37::t38::e9::f0::f1::f2::f3::f4::f5::f6::f7::f8::[]), h24)) ())) ())) ())) ())) ())) ())) ())) ())) ())) ())) ())) ())) ())) ())) ())) ())) ())) ())) ())) ())) ())) ())) ())) ())) := by rw [awp_eq]; kernel_rfl
noncomputable def c30_22 : Code := cr c30_20
noncomputable def c30_23 : Code := cl c30_22
theorem w30_23 : awp X n c30_23 Q ((a0::a1::a2::a3::a4::a5::a6::a7::a8::a9::b0::b1::b2::b3::b4::b5::b6::b7::b8::b9::d0::d1::d2::d3::d4::d5::d6::d7::d8::d9::e0::e1::e2::e3::e4::e5::e6::e7::e8::e9::f0::f1::f2::f3::f4::f5::f6::f7::f8::[]), h) = (a_mov a0 h (.c (fun t39 h1 => a_nilc t39 h1 (.c (fun t40 h2 => a_fa 1 t40 h2 (.c (fun t41 h3 => a_load 1 false t41 h3 (.c (fun t42 h4 => a_mov a1 h4 (.c (fun t43 h5 => a_cint .i64 t43 h5 (.c (fun t44 h6 => a_bin .add t42 t44 h6 (.c (fun t45 h7 => a_nilc t39 h7 (.c (fun t46 h8 => a_fa 1 t46 h8 (.c (fun t47 h9 => a_store 1 t47 t45 h9 (.c (fun _v9 h10 => Q .normal ((a0::a1::a2::a3::a4::a5::a6::a7::a8::a9::b0::b1::b2::b3::b4::b5::b6::b7::b8::b9::d0::d1::d2::d3::d4::d5::d6::d7::d8::d9::e0::e1::e2::e3::e4::e5::e6::e7::e8::t39::t40::t41::t42::t43::t44::t45::t46::t47::f8::[]), h10)) ())) ())) ())) ())) ())) ())) ())) ())) ())) ())) := by rw [awp_eq]; kernel_rfl
noncomputable def c30_24 : Code := cr c30_22
noncomputable def c30_25 : Code := cl c30_24
theorem w30_25 : awp X n c30_25 Q ((a0::a1::a2::a3::a4::a5::a6::a7::a8::a9::b0::b1::b2::b3::b4::b5::b6::b7::b8::b9::d0::d1::d2::d3::d4::d5::d6::d7::d8::d9::e0::e1::e2::e3::e4::e5::e6::e7::e8::e9::f0::f1::f2::f3::f4::f5::f6::f7::f8::[]), h) = (a_mov a5 h (.c (fun t48 h1 => a_mov t48 h1 (.c (fun t4 h2 => Q .normal ((a0::a1::a2::a3::t4::a5::a6::a7::a8::a9::b0::b1::b2::b3::b4::b5::b6::b7::b8::b9::d0::d1::d2::d3::d4::d5::d6::d7::d8::d9::e0::e1::e2::e3::e4::e5::e6::e7::e8::e9::f0::f1::f2::f3::f4::f5::f6::f7::t48::[]), h2)) ())) ())) := by rw [awp_eq]; kernel_rfl
noncomputable def c30_26 : Code := cr c30_24
theorem w30_26 : awp X n c30_26 Q st = Q .ret st := by rw [awp_eq]; kernel_rfl
theorem w30_24 : awp X n c30_24 Q st = awp X n c30_25 (thenQ (awp X n c30_26 Q) Q) st := by rw [awp_eq]; kernel_rfl
theorem w30_22 : awp X n c30_22 Q st = awp X n c30_23 (thenQ (awp X n c30_24 Q) Q) st := by rw [awp_eq]; kernel_rfl
theorem w30_20 : awp X n c30_20 Q st = awp X n c30_21 (thenQ (awp X n c30_22 Q) Q) st := by rw [awp_eq]; kernel_rfl
theorem w30_10 : awp X n c30_10 Q st = awp X n c30_11 (thenQ (awp X n c30_20 Q) Q) st := by rw [awp_eq]; kernel_rfl
theorem w30_2 : awp X n c30_2 Q st = awp X n c30_3 (thenQ (awp X n c30_10 Q) Q) st := by rw [awp_eq]; kernel_rfl
theorem w30_0 : awp X n c30_0 Q st = awp X n c30_1 (thenQ (awp X n c30_2 Q) Q) st := by rw [awp_eq]; kernel_rfl
theorem q30_ret : retQ X Try.f30 K .ret ((a0::a1::a2::a3::a4::a5::a6::a7::a8::a9::b0::b1::b2::b3::b4::b5::b6::b7::b8::b9::d0::d1::d2::d3::d4::d5::d6::d7::d8::d9::e0::e1::e2::e3::e4::e5::e6::e7::e8::e9::f0::f1::f2::f3::f4::f5::f6::f7::f8::[]), h) = (K.K a4 h) := by kernel_rfl
theorem q30_normal : retQ X Try.f30 K .normal ((a0::a1::a2::a3::a4::a5::a6::a7::a8::a9::b0::b1::b2::b3::b4::b5::b6::b7::b8::b9::d0::d1::d2::d3::d4::d5::d6::d7::d8::d9::e0::e1::e2::e3::e4::e5::e6::e7::e8::e9::f0::f1::f2::f3::f4::f5::f6::f7::f8::[]), h) = (K.K a4 h) := by kernel_rfl
theorem i30 (H : awp X h.length c30_0 (retQ X Try.f30 K) ((a0::a1::.bad::.bad::.bad::.bad::.bad::.bad::.bad::.bad::.bad::.bad::.bad::.bad::.bad::.bad::.bad::.bad::.bad::.bad::.bad::.bad::.bad::.bad::.bad::.bad::.bad::.bad::.bad::.bad::.bad::.bad::.bad::.bad::.bad::.bad::.bad::.bad::.bad::.bad::.bad::.bad::.bad::.bad::.bad::.bad::.bad::.bad::.bad::[]), h)) : ACall X 30 [a0, a1] h K := acall_intro (fn := Try.f30) (by kernel_rfl) (by kernel_rfl) (by kernel_rfl) H
noncomputable def R30 := And.intro (And.intro (And.intro (And.intro (w30_1) (And.intro w30_4 w30_7)) (And.intro (And.intro w30_8 w30_6) (And.intro w30_9 w30_5))) (And.intro (And.intro (w30_3) (And.intro w30_12 w30_15)) (And.intro (And.intro w30_17 w30_18) (And.intro w30_16 w30_14)))) (And.intro (And.intro (And.intro (w30_19) (And.intro w30_13 w30_11)) (And.intro (And.intro w30_21 w30_23) (And.intro w30_25 w30_26))) (And.intro (And.intro (And.intro w30_24 w30_22) (And.intro w30_20 w30_10)) (And.intro (And.intro w30_2 w30_0) (And.intro q30_ret q30_normal))))
/-! function 31: (*sindri/cursor.Cursor).Left -/
noncomputable def c31_0 : Code := bodyOf Try.f31
noncomputable def c31_1 : Code := cl c31_0
theorem w31_1 : awp X n c31_1 Q ((a0::a1::a2::a3::a4::a5::a6::a7::a8::a9::b0::b1::b2::b3::b4::b5::[]), h) = (a_mov (.v (.int .i64 0)) h (.c (fun t2 h1 => Q .normal ((a0::a1::t2::a3::a4::a5::a6::a7::a8::a9::b0::b1::b2::b3::b4::b5::[]), h1)) ())) := by rw [awp_eq]; kernel_rfl
noncomputable def c31_2 : Code := cr c31_0
noncomputable def c31_3 : Code := cl c31_2
noncomputable def c31_4 : Code := cl c31_3
theorem w31_4 : awp X n c31_4 Q ((a0::a1::a2::a3::a4::a5::a6::a7::a8::a9::b0::b1::b2::b3::b4::b5::[]), h) = (a_mov a0 h (.c (fun t3 h1 => ACall X 24 [t3] h1 (.c (fun t4 h2 => a_bin .neq t4 (.v (.int .i64 0)) h2 (.c (fun t5 h3 => Q .normal ((a0::a1::a2::t3::t4::t5::a6::a7::a8::a9::b0::b1::b2::b3::b4::b5::[]), h3)) ())) ())) ())) := by rw [awp_eq]; kernel_rfl
noncomputable def c31_5 : Code := cr c31_3
noncomputable def c31_6 : Code := cl c31_5
noncomputable def c31_7 : Code := cl c31_6
theorem w31_7 : awp X n c31_7 Q ((a0::a1::a2::a3::a4::a5::a6::a7::a8::a9::b0::b1::b2::b3::b4::b5::[]), h) = (a_mov (.v (.int .i64 0)) h (.c (fun t2 h1 => Q .normal ((a0::a1::t2::a3::a4::a5::a6::a7::a8::a9::b0::b1::b2::b3::b4::b5::[]), h1)) ())) := by rw [awp_eq]; kernel_rfl
noncomputable def c31_8 : Code := cr c31_6
theorem w31_8 : awp X n c31_8 Q st = Q .ret st := by rw [awp_eq]; kernel_rfl
theorem w31_6 : awp X n c31_6 Q st = awp X n c31_7 (thenQ (awp X n c31_8 Q) Q) st := by rw [awp_eq]; kernel_rfl
noncomputable def c31_9 : Code := cr c31_5
theorem w31_9 : awp X n c31_9 Q st = Q .normal st := by rw [awp_eq]; kernel_rfl
theorem w31_5 : awp X n c31_5 Q ((a0::a1::a2::a3::a4::a5::a6::a7::a8::a9::b0::b1::b2::b3::b4::b5::[]), h) = a_cond a5 (awp X n c31_6 Q ((a0::a1::a2::a3::a4::a5::a6::a7::a8::a9::b0::b1::b2::b3::b4::b5::[]), h)) (awp X n c31_9 Q ((a0::a1::a2::a3::a4::a5::a6::a7::a8::a9::b0::b1::b2::b3::b4::b5::[]), h)) := by rw [awp_eq]; kernel_rfl
theorem w31_3 : awp X n c31_3 Q st = awp X n c31_4 (thenQ (awp X n c31_5 Q) Q) st := by rw [awp_eq]; kernel_rfl
noncomputable def c31_10 : Code := cr c31_2
noncomputable def c31_11 : Code := cl c31_10
theorem w31_11 : awp X n c31_11 Q ((a0::a1::a2::a3::a4::a5::a6::a7::a8::a9::b0::b1::b2::b3::b4::b5::[]), h) = (a_mov a0 h (.c (fun t6 h1 => a_nilc t6 h1 (.c (fun t7 h2 => a_fa 0 t7 h2 (.c (fun t8 h3 => a_load 1 false t8 h3 (.c (fun t9 h4 => a_len t9 h4 (.c (fun t10 h5 => a_mov a0 h5 (.c (fun t11 h6 => a_nilc t11 h6 (.c (fun t12 h7 => a_fa 1 t12 h7 (.c (fun t13 h8 => a_load 1 false t13 h8 (.c (fun t14 h9 => a_bin .sub t10 t14 h9 (.c (fun t15 h10 => a_mov t15 h10 (.c (fun t2 h11 => Q .normal ((a0::a1::t2::a3::a4::a5::t6::t7::t8::t9::t10::t11::t12::t13::t14::t15::[]), h11)) ())) ())) ())) ())) ())) ())) ())) ())) ())) ())) ())) := by rw [awp_eq]; kernel_rfl
noncomputable def c31_12 : Code := cr c31_10
theorem w31_12 : awp X n c31_12 Q st = Q .ret st := by rw [awp_eq]; kernel_rfl
theorem w31_10 : awp X n c31_10 Q st = awp X n c31_11 (thenQ (awp X n c31_12 Q) Q) st := by rw [awp_eq]; kernel_rfl
theorem w31_2 : awp X n c31_2 Q st = awp X n c31_3 (thenQ (awp X n c31_10 Q) Q) st := by rw [awp_eq]; kernel_rfl
theorem w31_0 : awp X n c31_0 Q st = awp X n c31_1 (thenQ (awp X n c31_2 Q) Q) st := by rw [awp_eq]; kernel_rfl
theorem q31_ret : retQ X Try.f31 K .ret ((a0::a1::a2::a3::a4::a5::a6::a7::a8::a9::b0::b1::b2::b3::b4::b5::[]), h) = (K.K a2 h) := by kernel_rfl
theorem q31_normal : retQ X Try.f31 K .normal ((a0::a1::a2::a3::a4::a5::a6::a7::a8::a9::b0::b1::b2::b3::b4::b5::[]), h) = (K.K a2 h) := by kernel_rfl
theorem i31 (H : awp X h.length c31_0 (retQ X Try.f31 K) ((a0::.bad::.bad::.bad::.bad::.bad::.bad::.bad::.bad::.bad::.bad::.bad::.bad::.bad::.bad::.bad::[]), h)) : ACall X 31 [a0] h K := acall_intro (fn := Try.f31) (by kernel_rfl) (by kernel_rfl) (by kernel_rfl) H
noncomputable def R31 := And.intro (And.intro (And.intro (w31_1) (And.intro w31_4 w31_7)) (And.intro (And.intro w31_8 w31_6) (And.intro w31_9 w31_5))) (And.intro (And.intro (And.intro w31_3 w31_11) (And.intro w31_12 w31_10)) (And.intro (And.intro w31_2 w31_0) (And.intro q31_ret q31_normal)))
end Go.Proofs.Ytebacdlbhjgmlaa
