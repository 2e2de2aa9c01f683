import Derived.Test.YtgpddpdhkhfdjaaEnv
set_option linter.unusedVariables false
set_option linter.defProp false
set_option maxRecDepth 100000
namespace Go.Proofs.Ytgpddpdhkhfdjaa
open Go.Ab
variable (n : Nat) (h : Heap) (Q : Qt) (st : St) (K : Kt) (a0 a1 a2 a3 a4 a5 a6 a7 a8 a9 b0 b1 b2 b3 b4 b5 b6 b7 b8 b9 d0 d1 d2 d3 d4 d5 d6 d7 d8 d9 e0 e1 e2 e3 e4 e5 e6 e7 e8 e9 f0 f1 f2 f3 f4 f5 f6 f7 f8 f9 g0 g1 g2 g3 g4 g5 g6 g7 g8 g9 j0 : AV)
/-! function 7: sindri/pool.New -/
noncomputable def c7_0 : Code := bodyOf Try.f7
noncomputable def c7_1 : Code := cl c7_0
theorem w7_1 : awp X n c7_1 Q ([a0,a1,a2,a3], h) = (a_mov (.v (.pointer none)) h (.c (fun t0 h1 => Q .normal ([t0,a1,a2,a3], h1)) ())) := by rw [awp_eq]; kernel_rfl
noncomputable def c7_2 : Code := cr c7_0
noncomputable def c7_3 : Code := cl c7_2
theorem w7_3 : awp X n c7_3 Q ([a0,a1,a2,a3], h) = (a_mkm h (.c (fun t1 h1 => a_build [.v (.map none), .v (.slice none 0 0)] [(0, 1, t1)] h1 (.c (fun t2 h2 => a_box t2 h2 (.c (fun t3 h3 => a_mov t3 h3 (.c (fun t0 h4 => Q .normal ([t0,t1,t2,t3], h4)) ())) ())) ())) ())) := by rw [awp_eq]; kernel_rfl
noncomputable def c7_4 : Code := cr c7_2
theorem w7_4 : awp X n c7_4 Q st = Q .ret st := by rw [awp_eq]; kernel_rfl
theorem w7_2 : awp X n c7_2 Q st = awp X n c7_3 (thenQ (awp X n c7_4 Q) Q) st := by rw [awp_eq]; kernel_rfl
theorem w7_0 : awp X n c7_0 Q st = awp X n c7_1 (thenQ (awp X n c7_2 Q) Q) st := by rw [awp_eq]; kernel_rfl
theorem q7_ret : retQ X Try.f7 K .ret ([a0,a1,a2,a3], h) = (K.K a0 h) := by kernel_rfl
theorem q7_normal : retQ X Try.f7 K .normal ([a0,a1,a2,a3], h) = (K.K a0 h) := by kernel_rfl
theorem i7 (H : awp X h.length c7_0 (retQ X Try.f7 K) ([.bad,.bad,.bad,.bad], h)) : ACall X 7 [] h K := acall_intro (fn := Try.f7) (by kernel_rfl) (by kernel_rfl) (by kernel_rfl) H
noncomputable def R7 := And.intro (And.intro (w7_1) (And.intro w7_3 w7_4)) (And.intro (And.intro w7_2 w7_0) (And.intro q7_ret q7_normal))
/-! function 9: (*sindri/pool.Pool).Add -/
noncomputable def c9_0 : Code := bodyOf Try.f9
noncomputable def c9_1 : Code := cl c9_0
theorem w9_1 : awp X n c9_1 Q ((a0::a1::a2::a3::a4::a5::a6::a7::a8::a9::b0::b1::b2::b3::b4::b5::b6::b7::b8::b9::d0::d1::d2::d3::d4::d5::d6::d7::d8::d9::e0::e1::e2::e3::e4::e5::e6::e7::e8::e9::f0::f1::f2::f3::f4::f5::f6::f7::f8::f9::g0::g1::g2::g3::g4::g5::g6::g7::g8::g9::j0::[]), h) = (a_mov (.v (.int .u64 0)) h (.c (fun t4 h1 => a_mov (.v (.int .i64 0)) h1 (.c (fun t5 h2 => Q .normal ((a0::a1::a2::a3::t4::t5::a6::a7::a8::a9::b0::b1::b2::b3::b4::b5::b6::b7::b8::b9::d0::d1::d2::d3::d4::d5::d6::d7::d8::d9::e0::e1::e2::e3::e4::e5::e6::e7::e8::e9::f0::f1::f2::f3::f4::f5::f6::f7::f8::f9::g0::g1::g2::g3::g4::g5::g6::g7::g8::g9::j0::[]), h2)) ())) ())) := by rw [awp_eq]; kernel_rfl
noncomputable def c9_2 : Code := cr c9_0
noncomputable def c9_3 : Code := cl c9_2
noncomputable def c9_4 : Code := cl c9_3
theorem w9_4 : awp X n c9_4 Q ((a0::a1::a2::a3::a4::a5::a6::a7::a8::a9::b0::b1::b2::b3::b4::b5::b6::b7::b8::b9::d0::d1::d2::d3::d4::d5::d6::d7::d8::d9::e0::e1::e2::e3::e4::e5::e6::e7::e8::e9::f0::f1::f2::f3::f4::f5::f6::f7::f8::f9::g0::g1::g2::g3::g4::g5::g6::g7::g8::g9::j0::[]), h) = (a_mov a0 h (.c (fun t9 h1 => a_eqp false t9 (.v (.pointer none)) h1 (.c (fun t10 h2 => a_mov t10 h2 (.c (fun t11 h3 => a_on t11 false (fun k => a_mov a0 h3 k) h3 (.c (fun t12 h4 => a_on t11 false (fun k => a_nilc t12 h4 k) h4 (.c (fun t13 h5 => a_on t11 false (fun k => a_fa 0 t13 h5 k) h5 (.c (fun t14 h6 => a_on t11 false (fun k => a_load 1 false t14 h6 k) h6 (.c (fun t15 h7 => a_on t11 false (fun k => a_eqm false t15 (.v (.map none)) h7 k) h7 (.c (fun t16 h8 => a_pick t11 (.v (.bool true)) t16 h8 (.c (fun t17 h9 => Q .normal ((a0::a1::a2::a3::a4::a5::a6::a7::a8::t9::t10::t11::t12::t13::t14::t15::t16::t17::b8::b9::d0::d1::d2::d3::d4::d5::d6::d7::d8::d9::e0::e1::e2::e3::e4::e5::e6::e7::e8::e9::f0::f1::f2::f3::f4::f5::f6::f7::f8::f9::g0::g1::g2::g3::g4::g5::g6::g7::g8::g9::j0::[]), h9)) ())) ())) ())) ())) ())) ())) ())) ())) ())) := by rw [awp_eq]; kernel_rfl
noncomputable def c9_5 : Code := cr c9_3
noncomputable def c9_6 : Code := cl c9_5
noncomputable def c9_7 : Code := cl c9_6
theorem w9_7 : awp X n c9_7 Q ((a0::a1::a2::a3::a4::a5::a6::a7::a8::a9::b0::b1::b2::b3::b4::b5::b6::b7::b8::b9::d0::d1::d2::d3::d4::d5::d6::d7::d8::d9::e0::e1::e2::e3::e4::e5::e6::e7::e8::e9::f0::f1::f2::f3::f4::f5::f6::f7::f8::f9::g0::g1::g2::g3::g4::g5::g6::g7::g8::g9::j0::[]), h) = (a_mov (.v (.int .u64 0)) h (.c (fun t4 h1 => a_mov (.v (.int .i64 1)) h1 (.c (fun t5 h2 => Q .normal ((a0::a1::a2::a3::t4::t5::a6::a7::a8::a9::b0::b1::b2::b3::b4::b5::b6::b7::b8::b9::d0::d1::d2::d3::d4::d5::d6::d7::d8::d9::e0::e1::e2::e3::e4::e5::e6::e7::e8::e9::f0::f1::f2::f3::f4::f5::f6::f7::f8::f9::g0::g1::g2::g3::g4::g5::g6::g7::g8::g9::j0::[]), h2)) ())) ())) := by rw [awp_eq]; kernel_rfl
noncomputable def c9_8 : Code := cr c9_6
theorem w9_8 : awp X n c9_8 Q st = Q .ret st := by rw [awp_eq]; kernel_rfl
theorem w9_6 : awp X n c9_6 Q st = awp X n c9_7 (thenQ (awp X n c9_8 Q) Q) st := by rw [awp_eq]; kernel_rfl
noncomputable def c9_9 : Code := cr c9_5
theorem w9_9 : awp X n c9_9 Q st = Q .normal st := by rw [awp_eq]; kernel_rfl
theorem w9_5 : awp X n c9_5 Q ((a0::a1::a2::a3::a4::a5::a6::a7::a8::a9::b0::b1::b2::b3::b4::b5::b6::b7::b8::b9::d0::d1::d2::d3::d4::d5::d6::d7::d8::d9::e0::e1::e2::e3::e4::e5::e6::e7::e8::e9::f0::f1::f2::f3::f4::f5::f6::f7::f8::f9::g0::g1::g2::g3::g4::g5::g6::g7::g8::g9::j0::[]), h) = a_cond b7 (awp X n c9_6 Q ((a0::a1::a2::a3::a4::a5::a6::a7::a8::a9::b0::b1::b2::b3::b4::b5::b6::b7::b8::b9::d0::d1::d2::d3::d4::d5::d6::d7::d8::d9::e0::e1::e2::e3::e4::e5::e6::e7::e8::e9::f0::f1::f2::f3::f4::f5::f6::f7::f8::f9::g0::g1::g2::g3::g4::g5::g6::g7::g8::g9::j0::[]), h)) (awp X n c9_9 Q ((a0::a1::a2::a3::a4::a5::a6::a7::a8::a9::b0::b1::b2::b3::b4::b5::b6::b7::b8::b9::d0::d1::d2::d3::d4::d5::d6::d7::d8::d9::e0::e1::e2::e3::e4::e5::e6::e7::e8::e9::f0::f1::f2::f3::f4::f5::f6::f7::f8::f9::g0::g1::g2::g3::g4::g5::g6::g7::g8::g9::j0::[]), h)) := by rw [awp_eq]; kernel_rfl
theorem w9_3 : awp X n c9_3 Q st = awp X n c9_4 (thenQ (awp X n c9_5 Q) Q) st := by rw [awp_eq]; kernel_rfl
noncomputable def c9_10 : Code := cr c9_2
noncomputable def c9_11 : Code := cl c9_10
noncomputable def c9_12 : Code := cl c9_11
theorem w9_12 : awp X n c9_12 Q ((a0::a1::a2::a3::a4::a5::a6::a7::a8::a9::b0::b1::b2::b3::b4::b5::b6::b7::b8::b9::d0::d1::d2::d3::d4::d5::d6::d7::d8::d9::e0::e1::e2::e3::e4::e5::e6::e7::e8::e9::f0::f1::f2::f3::f4::f5::f6::f7::f8::f9::g0::g1::g2::g3::g4::g5::g6::g7::g8::g9::j0::[]), h) = (a_mov a1 h (.c (fun t18 h1 => ACall X 18 [t18] h1 (.c (fun t19 h2 => a_un .not t19 h2 (.c (fun t20 h3 => Q .normal ((a0::a1::a2::a3::a4::a5::a6::a7::a8::a9::b0::b1::b2::b3::b4::b5::b6::b7::t18::t19::t20::d1::d2::d3::d4::d5::d6::d7::d8::d9::e0::e1::e2::e3::e4::e5::e6::e7::e8::e9::f0::f1::f2::f3::f4::f5::f6::f7::f8::f9::g0::g1::g2::g3::g4::g5::g6::g7::g8::g9::j0::[]), h3)) ())) ())) ())) := by rw [awp_eq]; kernel_rfl
noncomputable def c9_13 : Code := cr c9_11
noncomputable def c9_14 : Code := cl c9_13
noncomputable def c9_15 : Code := cl c9_14
theorem w9_15 : awp X n c9_15 Q ((a0::a1::a2::a3::a4::a5::a6::a7::a8::a9::b0::b1::b2::b3::b4::b5::b6::b7::b8::b9::d0::d1::d2::d3::d4::d5::d6::d7::d8::d9::e0::e1::e2::e3::e4::e5::e6::e7::e8::e9::f0::f1::f2::f3::f4::f5::f6::f7::f8::f9::g0::g1::g2::g3::g4::g5::g6::g7::g8::g9::j0::[]), h) = (a_mov (.v (.int .u64 0)) h (.c (fun t4 h1 => a_mov (.v (.int .i64 12)) h1 (.c (fun t5 h2 => Q .normal ((a0::a1::a2::a3::t4::t5::a6::a7::a8::a9::b0::b1::b2::b3::b4::b5::b6::b7::b8::b9::d0::d1::d2::d3::d4::d5::d6::d7::d8::d9::e0::e1::e2::e3::e4::e5::e6::e7::e8::e9::f0::f1::f2::f3::f4::f5::f6::f7::f8::f9::g0::g1::g2::g3::g4::g5::g6::g7::g8::g9::j0::[]), h2)) ())) ())) := by rw [awp_eq]; kernel_rfl
noncomputable def c9_16 : Code := cr c9_14
theorem w9_16 : awp X n c9_16 Q st = Q .ret st := by rw [awp_eq]; kernel_rfl
theorem w9_14 : awp X n c9_14 Q st = awp X n c9_15 (thenQ (awp X n c9_16 Q) Q) st := by rw [awp_eq]; kernel_rfl
noncomputable def c9_17 : Code := cr c9_13
theorem w9_17 : awp X n c9_17 Q st = Q .normal st := by rw [awp_eq]; kernel_rfl
theorem w9_13 : awp X n c9_13 Q ((a0::a1::a2::a3::a4::a5::a6::a7::a8::a9::b0::b1::b2::b3::b4::b5::b6::b7::b8::b9::d0::d1::d2::d3::d4::d5::d6::d7::d8::d9::e0::e1::e2::e3::e4::e5::e6::e7::e8::e9::f0::f1::f2::f3::f4::f5::f6::f7::f8::f9::g0::g1::g2::g3::g4::g5::g6::g7::g8::g9::j0::[]), h) = a_cond d0 (awp X n c9_14 Q ((a0::a1::a2::a3::a4::a5::a6::a7::a8::a9::b0::b1::b2::b3::b4::b5::b6::b7::b8::b9::d0::d1::d2::d3::d4::d5::d6::d7::d8::d9::e0::e1::e2::e3::e4::e5::e6::e7::e8::e9::f0::f1::f2::f3::f4::f5::f6::f7::f8::f9::g0::g1::g2::g3::g4::g5::g6::g7::g8::g9::j0::[]), h)) (awp X n c9_17 Q ((a0::a1::a2::a3::a4::a5::a6::a7::a8::a9::b0::b1::b2::b3::b4::b5::b6::b7::b8::b9::d0::d1::d2::d3::d4::d5::d6::d7::d8::d9::e0::e1::e2::e3::e4::e5::e6::e7::e8::e9::f0::f1::f2::f3::f4::f5::f6::f7::f8::f9::g0::g1::g2::g3::g4::g5::g6::g7::g8::g9::j0::[]), h)) := by rw [awp_eq]; kernel_rfl
theorem w9_11 : awp X n c9_11 Q st = awp X n c9_12 (thenQ (awp X n c9_13 Q) Q) st := by rw [awp_eq]; kernel_rfl
noncomputable def c9_18 : Code := cr c9_10
noncomputable def c9_19 : Code := cl c9_18
noncomputable def c9_20 : Code := cl c9_19
theorem w9_20 : awp X n c9_20 Q ((a0::a1::a2::a3::a4::a5::a6::a7::a8::a9::b0::b1::b2::b3::b4::b5::b6::b7::b8::b9::d0::d1::d2::d3::d4::d5::d6::d7::d8::d9::e0::e1::e2::e3::e4::e5::e6::e7::e8::e9::f0::f1::f2::f3::f4::f5::f6::f7::f8::f9::g0::g1::g2::g3::g4::g5::g6::g7::g8::g9::j0::[]), h) = (a_mov a0 h (.c (fun t22 h1 => a_mov a1 h1 (.c (fun t23 h2 => ACall X 11 [t22, t23] h2 (.c (fun t24 h3 => a_mov t24 h3 (.c (fun t21 h4 => a_ext 0 t21 h4 (.c (fun t25 h5 => a_ext 1 t21 h5 (.c (fun t26 h6 => a_mov t25 h6 (.c (fun t6 h7 => a_mov t26 h7 (.c (fun t7 h8 => Q .normal ((a0::a1::a2::a3::a4::a5::t6::t7::a8::a9::b0::b1::b2::b3::b4::b5::b6::b7::b8::b9::d0::t21::t22::t23::t24::t25::t26::d7::d8::d9::e0::e1::e2::e3::e4::e5::e6::e7::e8::e9::f0::f1::f2::f3::f4::f5::f6::f7::f8::f9::g0::g1::g2::g3::g4::g5::g6::g7::g8::g9::j0::[]), h8)) ())) ())) ())) ())) ())) ())) ())) ())) := by rw [awp_eq]; kernel_rfl
noncomputable def c9_21 : Code := cr c9_19
noncomputable def c9_22 : Code := cl c9_21
theorem w9_22 : awp X n c9_22 Q ((a0::a1::a2::a3::a4::a5::a6::a7::a8::a9::b0::b1::b2::b3::b4::b5::b6::b7::b8::b9::d0::d1::d2::d3::d4::d5::d6::d7::d8::d9::e0::e1::e2::e3::e4::e5::e6::e7::e8::e9::f0::f1::f2::f3::f4::f5::f6::f7::f8::f9::g0::g1::g2::g3::g4::g5::g6::g7::g8::g9::j0::[]), h) = (a_mov a7 h (.c (fun t27 h1 => Q .normal ((a0::a1::a2::a3::a4::a5::a6::a7::a8::a9::b0::b1::b2::b3::b4::b5::b6::b7::b8::b9::d0::d1::d2::d3::d4::d5::d6::t27::d8::d9::e0::e1::e2::e3::e4::e5::e6::e7::e8::e9::f0::f1::f2::f3::f4::f5::f6::f7::f8::f9::g0::g1::g2::g3::g4::g5::g6::g7::g8::g9::j0::[]), h1)) ())) := by rw [awp_eq]; kernel_rfl
noncomputable def c9_23 : Code := cr c9_21
noncomputable def c9_24 : Code := cl c9_23
noncomputable def c9_25 : Code := cl c9_24
theorem w9_25 : awp X n c9_25 Q ((a0::a1::a2::a3::a4::a5::a6::a7::a8::a9::b0::b1::b2::b3::b4::b5::b6::b7::b8::b9::d0::d1::d2::d3::d4::d5::d6::d7::d8::d9::e0::e1::e2::e3::e4::e5::e6::e7::e8::e9::f0::f1::f2::f3::f4::f5::f6::f7::f8::f9::g0::g1::g2::g3::g4::g5::g6::g7::g8::g9::j0::[]), h) = (a_mov a6 h (.c (fun t28 h1 => a_mov t28 h1 (.c (fun t4 h2 => a_mov (.v (.int .i64 0)) h2 (.c (fun t5 h3 => Q .normal ((a0::a1::a2::a3::t4::t5::a6::a7::a8::a9::b0::b1::b2::b3::b4::b5::b6::b7::b8::b9::d0::d1::d2::d3::d4::d5::d6::d7::t28::d9::e0::e1::e2::e3::e4::e5::e6::e7::e8::e9::f0::f1::f2::f3::f4::f5::f6::f7::f8::f9::g0::g1::g2::g3::g4::g5::g6::g7::g8::g9::j0::[]), h3)) ())) ())) ())) := by rw [awp_eq]; kernel_rfl
noncomputable def c9_26 : Code := cr c9_24
theorem w9_26 : awp X n c9_26 Q st = Q .ret st := by rw [awp_eq]; kernel_rfl
theorem w9_24 : awp X n c9_24 Q st = awp X n c9_25 (thenQ (awp X n c9_26 Q) Q) st := by rw [awp_eq]; kernel_rfl
noncomputable def c9_27 : Code := cr c9_23
theorem w9_27 : awp X n c9_27 Q st = Q .normal st := by rw [awp_eq]; kernel_rfl
theorem w9_23 : awp X n c9_23 Q ((a0::a1::a2::a3::a4::a5::a6::a7::a8::a9::b0::b1::b2::b3::b4::b5::b6::b7::b8::b9::d0::d1::d2::d3::d4::d5::d6::d7::d8::d9::e0::e1::e2::e3::e4::e5::e6::e7::e8::e9::f0::f1::f2::f3::f4::f5::f6::f7::f8::f9::g0::g1::g2::g3::g4::g5::g6::g7::g8::g9::j0::[]), h) = a_cond d7 (awp X n c9_24 Q ((a0::a1::a2::a3::a4::a5::a6::a7::a8::a9::b0::b1::b2::b3::b4::b5::b6::b7::b8::b9::d0::d1::d2::d3::d4::d5::d6::d7::d8::d9::e0::e1::e2::e3::e4::e5::e6::e7::e8::e9::f0::f1::f2::f3::f4::f5::f6::f7::f8::f9::g0::g1::g2::g3::g4::g5::g6::g7::g8::g9::j0::[]), h)) (awp X n c9_27 Q ((a0::a1::a2::a3::a4::a5::a6::a7::a8::a9::b0::b1::b2::b3::b4::b5::b6::b7::b8::b9::d0::d1::d2::d3::d4::d5::d6::d7::d8::d9::e0::e1::e2::e3::e4::e5::e6::e7::e8::e9::f0::f1::f2::f3::f4::f5::f6::f7::f8::f9::g0::g1::g2::g3::g4::g5::g6::g7::g8::g9::j0::[]), h)) := by rw [awp_eq]; kernel_rfl
theorem w9_21 : awp X n c9_21 Q st = awp X n c9_22 (thenQ (awp X n c9_23 Q) Q) st := by rw [awp_eq]; kernel_rfl
theorem w9_19 : awp X n c9_19 Q st = awp X n c9_20 (thenQ (awp X n c9_21 Q) Q) st := by rw [awp_eq]; kernel_rfl
noncomputable def c9_28 : Code := cr c9_18
noncomputable def c9_29 : Code := cl c9_28
noncomputable def c9_30 : Code := cl c9_29
theorem w9_30 : awp X n c9_30 Q ((a0::a1::a2::a3::a4::a5::a6::a7::a8::a9::b0::b1::b2::b3::b4::b5::b6::b7::b8::b9::d0::d1::d2::d3::d4::d5::d6::d7::d8::d9::e0::e1::e2::e3::e4::e5::e6::e7::e8::e9::f0::f1::f2::f3::f4::f5::f6::f7::f8::f9::g0::g1::g2::g3::g4::g5::g6::g7::g8::g9::j0::[]), h) = (a_mov a0 h (.c (fun t29 h1 => a_nilc t29 h1 (.c (fun t30 h2 => a_fa 1 t30 h2 (.c (fun t31 h3 => a_load 1 false t31 h3 (.c (fun t32 h4 => a_len t32 h4 (.c (fun t33 h5 => a_mov a1 h5 (.c (fun t34 h6 => a_lens t34 h6 (.c (fun t35 h7 => a_bin .add t33 t35 h7 (.c (fun t36 h8 => a_bin .add t36 (.v (.int .i64 1)) h8 (.c (fun t37 h9 => a_bin .gtr t37 (.v (.int .i64 65536)) h9 (.c (fun t38 h10 => Q .normal ((a0::a1::a2::a3::a4::a5::a6::a7::a8::a9::b0::b1::b2::b3::b4::b5::b6::b7::b8::b9::d0::d1::d2::d3::d4::d5::d6::d7::d8::t29::t30::t31::t32::t33::t34::t35::t36::t37::t38::e9::f0::f1::f2::f3::f4::f5::f6::f7::f8::f9::g0::g1::g2::g3::g4::g5::g6::g7::g8::g9::j0::[]), h10)) ())) ())) ())) ())) ())) ())) ())) ())) ())) ())) := by rw [awp_eq]; kernel_rfl
noncomputable def c9_31 : Code := cr c9_29
noncomputable def c9_32 : Code := cl c9_31
noncomputable def c9_33 : Code := cl c9_32
theorem w9_33 : awp X n c9_33 Q ((a0::a1::a2::a3::a4::a5::a6::a7::a8::a9::b0::b1::b2::b3::b4::b5::b6::b7::b8::b9::d0::d1::d2::d3::d4::d5::d6::d7::d8::d9::e0::e1::e2::e3::e4::e5::e6::e7::e8::e9::f0::f1::f2::f3::f4::f5::f6::f7::f8::f9::g0::g1::g2::g3::g4::g5::g6::g7::g8::g9::j0::[]), h) = (a_mov (.v (.int .u64 0)) h (.c (fun t4 h1 => a_mov (.v (.int .i64 3)) h1 (.c (fun t5 h2 => Q .normal ((a0::a1::a2::a3::t4::t5::a6::a7::a8::a9::b0::b1::b2::b3::b4::b5::b6::b7::b8::b9::d0::d1::d2::d3::d4::d5::d6::d7::d8::d9::e0::e1::e2::e3::e4::e5::e6::e7::e8::e9::f0::f1::f2::f3::f4::f5::f6::f7::f8::f9::g0::g1::g2::g3::g4::g5::g6::g7::g8::g9::j0::[]), h2)) ())) ())) := by rw [awp_eq]; kernel_rfl
noncomputable def c9_34 : Code := cr c9_32
theorem w9_34 : awp X n c9_34 Q st = Q .ret st := by rw [awp_eq]; kernel_rfl
theorem w9_32 : awp X n c9_32 Q st = awp X n c9_33 (thenQ (awp X n c9_34 Q) Q) st := by rw [awp_eq]; kernel_rfl
noncomputable def c9_35 : Code := cr c9_31
theorem w9_35 : awp X n c9_35 Q st = Q .normal st := by rw [awp_eq]; kernel_rfl
theorem w9_31 : awp X n c9_31 Q ((a0::a1::a2::a3::a4::a5::a6::a7::a8::a9::b0::b1::b2::b3::b4::b5::b6::b7::b8::b9::d0::d1::d2::d3::d4::d5::d6::d7::d8::d9::e0::e1::e2::e3::e4::e5::e6::e7::e8::e9::f0::f1::f2::f3::f4::f5::f6::f7::f8::f9::g0::g1::g2::g3::g4::g5::g6::g7::g8::g9::j0::[]), h) = a_cond e8 (awp X n c9_32 Q ((a0::a1::a2::a3::a4::a5::a6::a7::a8::a9::b0::b1::b2::b3::b4::b5::b6::b7::b8::b9::d0::d1::d2::d3::d4::d5::d6::d7::d8::d9::e0::e1::e2::e3::e4::e5::e6::e7::e8::e9::f0::f1::f2::f3::f4::f5::f6::f7::f8::f9::g0::g1::g2::g3::g4::g5::g6::g7::g8::g9::j0::[]), h)) (awp X n c9_35 Q ((a0::a1::a2::a3::a4::a5::a6::a7::a8::a9::b0::b1::b2::b3::b4::b5::b6::b7::b8::b9::d0::d1::d2::d3::d4::d5::d6::d7::d8::d9::e0::e1::e2::e3::e4::e5::e6::e7::e8::e9::f0::f1::f2::f3::f4::f5::f6::f7::f8::f9::g0::g1::g2::g3::g4::g5::g6::g7::g8::g9::j0::[]), h)) := by rw [awp_eq]; kernel_rfl
theorem w9_29 : awp X n c9_29 Q st = awp X n c9_30 (thenQ (awp X n c9_31 Q) Q) st := by rw [awp_eq]; kernel_rfl
noncomputable def c9_36 : Code := cr c9_28
noncomputable def c9_37 : Code := cl c9_36
theorem w9_37 : awp X n c9_37 Q ((a0::a1::a2::a3::a4::a5::a6::a7::a8::a9::b0::b1::b2::b3::b4::b5::b6::b7::b8::b9::d0::d1::d2::d3::d4::d5::d6::d7::d8::d9::e0::e1::e2::e3::e4::e5::e6::e7::e8::e9::f0::f1::f2::f3::f4::f5::f6::f7::f8::f9::g0::g1::g2::g3::g4::g5::g6::g7::g8::g9::j0::[]), h) = (a_mov a0 h (.c (fun t39 h1 => a_nilc t39 h1 (.c (fun t40 h2 => a_fa 1 t40 h2 (.c (fun t41 h3 => a_load 1 false t41 h3 (.c (fun t42 h4 => a_len t42 h4 (.c (fun t43 h5 => a_cint .u64 t43 h5 (.c (fun t44 h6 => a_mov t44 h6 (.c (fun t8 h7 => Q .normal ((a0::a1::a2::a3::a4::a5::a6::a7::t8::a9::b0::b1::b2::b3::b4::b5::b6::b7::b8::b9::d0::d1::d2::d3::d4::d5::d6::d7::d8::d9::e0::e1::e2::e3::e4::e5::e6::e7::e8::t39::t40::t41::t42::t43::t44::f5::f6::f7::f8::f9::g0::g1::g2::g3::g4::g5::g6::g7::g8::g9::j0::[]), h7)) ())) ())) ())) ())) ())) ())) ())) := by rw [awp_eq]; kernel_rfl
noncomputable def c9_38 : Code := cr c9_36
noncomputable def c9_39 : Code := cl c9_38
theorem w9_39 : awp X n c9_39 Q ((a0::a1::a2::a3::a4::a5::a6::a7::a8::a9::b0::b1::b2::b3::b4::b5::b6::b7::b8::b9::d0::d1::d2::d3::d4::d5::d6::d7::d8::d9::e0::e1::e2::e3::e4::e5::e6::e7::e8::e9::f0::f1::f2::f3::f4::f5::f6::f7::f8::f9::g0::g1::g2::g3::g4::g5::g6::g7::g8::g9::j0::[]), h) = (a_mov a0 h (.c (fun t45 h1 => a_nilc t45 h1 (.c (fun t46 h2 => a_fa 0 t46 h2 (.c (fun t47 h3 => a_load 1 false t47 h3 (.c (fun t48 h4 => a_mov a1 h4 (.c (fun t49 h5 => a_mov a8 h5 (.c (fun t50 h6 => a_upd true t48 t49 t50 h6 (.c (fun _v6 h7 => Q .normal ((a0::a1::a2::a3::a4::a5::a6::a7::a8::a9::b0::b1::b2::b3::b4::b5::b6::b7::b8::b9::d0::d1::d2::d3::d4::d5::d6::d7::d8::d9::e0::e1::e2::e3::e4::e5::e6::e7::e8::e9::f0::f1::f2::f3::f4::t45::t46::t47::t48::t49::t50::g1::g2::g3::g4::g5::g6::g7::g8::g9::j0::[]), h7)) ())) ())) ())) ())) ())) ())) ())) := by rw [awp_eq]; kernel_rfl
noncomputable def c9_40 : Code := cr c9_38
noncomputable def c9_41 : Code := cl c9_40
theorem w9_41 : awp X n c9_41 Q ((a0::a1::a2::a3::a4::a5::a6::a7::a8::a9::b0::b1::b2::b3::b4::b5::b6::b7::b8::b9::d0::d1::d2::d3::d4::d5::d6::d7::d8::d9::e0::e1::e2::e3::e4::e5::e6::e7::e8::e9::f0::f1::f2::f3::f4::f5::f6::f7::f8::f9::g0::g1::g2::g3::g4::g5::g6::g7::g8::g9::j0::[]), h) = (a_mov a0 h (.c (fun t51 h1 => a_mov a0 h1 (.c (fun t52 h2 => a_nilc t52 h2 (.c (fun t53 h3 => a_fa 1 t53 h3 (.c (fun t54 h4 => a_load 1 false t54 h4 (.c (fun t55 h5 => a_mov a1 h5 (.c (fun t56 h6 => ACall X 20 [t55, t56] h6 (.c (fun t57 h7 => a_nilc t51 h7 (.c (fun t58 h8 => a_fa 1 t58 h8 (.c (fun t59 h9 => a_store 1 t59 t57 h9 (.c (fun _v9 h10 => Q .normal ((a0::a1::a2::a3::a4::a5::a6::a7::a8::a9::b0::b1::b2::b3::b4::b5::b6::b7::b8::b9::d0::d1::d2::d3::d4::d5::d6::d7::d8::d9::e0::e1::e2::e3::e4::e5::e6::e7::e8::e9::f0::f1::f2::f3::f4::f5::f6::f7::f8::f9::g0::t51::t52::t53::t54::t55::t56::t57::t58::t59::j0::[]), h10)) ())) ())) ())) ())) ())) ())) ())) ())) ())) ())) := by rw [awp_eq]; kernel_rfl
noncomputable def c9_42 : Code := cr c9_40
noncomputable def c9_43 : Code := cl c9_42
theorem w9_43 : awp X n c9_43 Q ((a0::a1::a2::a3::a4::a5::a6::a7::a8::a9::b0::b1::b2::b3::b4::b5::b6::b7::b8::b9::d0::d1::d2::d3::d4::d5::d6::d7::d8::d9::e0::e1::e2::e3::e4::e5::e6::e7::e8::e9::f0::f1::f2::f3::f4::f5::f6::f7::f8::f9::g0::g1::g2::g3::g4::g5::g6::g7::g8::g9::j0::[]), h) = (a_mov a8 h (.c (fun t60 h1 => a_mov t60 h1 (.c (fun t4 h2 => a_mov (.v (.int .i64 0)) h2 (.c (fun t5 h3 => Q .normal ((a0::a1::a2::a3::t4::t5::a6::a7::a8::a9::b0::b1::b2::b3::b4::b5::b6::b7::b8::b9::d0::d1::d2::d3::d4::d5::d6::d7::d8::d9::e0::e1::e2::e3::e4::e5::e6::e7::e8::e9::f0::f1::f2::f3::f4::f5::f6::f7::f8::f9::g0::g1::g2::g3::g4::g5::g6::g7::g8::g9::t60::[]), h3)) ())) ())) ())) := by rw [awp_eq]; kernel_rfl
noncomputable def c9_44 : Code := cr c9_42
theorem w9_44 : awp X n c9_44 Q st = Q .ret st := by rw [awp_eq]; kernel_rfl
theorem w9_42 : awp X n c9_42 Q st = awp X n c9_43 (thenQ (awp X n c9_44 Q) Q) st := by rw [awp_eq]; kernel_rfl
theorem w9_40 : awp X n c9_40 Q st = awp X n c9_41 (thenQ (awp X n c9_42 Q) Q) st := by rw [awp_eq]; kernel_rfl
theorem w9_38 : awp X n c9_38 Q st = awp X n c9_39 (thenQ (awp X n c9_40 Q) Q) st := by rw [awp_eq]; kernel_rfl
theorem w9_36 : awp X n c9_36 Q st = awp X n c9_37 (thenQ (awp X n c9_38 Q) Q) st := by rw [awp_eq]; kernel_rfl
theorem w9_28 : awp X n c9_28 Q st = awp X n c9_29 (thenQ (awp X n c9_36 Q) Q) st := by rw [awp_eq]; kernel_rfl
theorem w9_18 : awp X n c9_18 Q st = awp X n c9_19 (thenQ (awp X n c9_28 Q) Q) st := by rw [awp_eq]; kernel_rfl
theorem w9_10 : awp X n c9_10 Q st = awp X n c9_11 (thenQ (awp X n c9_18 Q) Q) st := by rw [awp_eq]; kernel_rfl
theorem w9_2 : awp X n c9_2 Q st = awp X n c9_3 (thenQ (awp X n c9_10 Q) Q) st := by rw [awp_eq]; kernel_rfl
theorem w9_0 : awp X n c9_0 Q st = awp X n c9_1 (thenQ (awp X n c9_2 Q) Q) st := by rw [awp_eq]; kernel_rfl
theorem q9_ret : retQ X Try.f9 K .ret ((a0::a1::a2::a3::a4::a5::a6::a7::a8::a9::b0::b1::b2::b3::b4::b5::b6::b7::b8::b9::d0::d1::d2::d3::d4::d5::d6::d7::d8::d9::e0::e1::e2::e3::e4::e5::e6::e7::e8::e9::f0::f1::f2::f3::f4::f5::f6::f7::f8::f9::g0::g1::g2::g3::g4::g5::g6::g7::g8::g9::j0::[]), h) = (K.K (.t [a4, a5]) h) := by kernel_rfl
theorem q9_normal : retQ X Try.f9 K .normal ((a0::a1::a2::a3::a4::a5::a6::a7::a8::a9::b0::b1::b2::b3::b4::b5::b6::b7::b8::b9::d0::d1::d2::d3::d4::d5::d6::d7::d8::d9::e0::e1::e2::e3::e4::e5::e6::e7::e8::e9::f0::f1::f2::f3::f4::f5::f6::f7::f8::f9::g0::g1::g2::g3::g4::g5::g6::g7::g8::g9::j0::[]), h) = (K.K (.t [a4, a5]) h) := by kernel_rfl
theorem i9 (H : awp X h.length c9_0 (retQ X Try.f9 K) ((a0::a1::.bad::.bad::.bad::.bad::.bad::.bad::.bad::.bad::.bad::.bad::.bad::.bad::.bad::.bad::.bad::.bad::.bad::.bad::.bad::.bad::.bad::.bad::.bad::.bad::.bad::.bad::.bad::.bad::.bad::.bad::.bad::.bad::.bad::.bad::.bad::.bad::.bad::.bad::.bad::.bad::.bad::.bad::.bad::.bad::.bad::.bad::.bad::.bad::.bad::.bad::.bad::.bad::.bad::.bad::.bad::.bad::.bad::.bad::.bad::[]), h)) : ACall X 9 [a0, a1] h K := acall_intro (fn := Try.f9) (by kernel_rfl) (by kernel_rfl) (by kernel_rfl) H
noncomputable def R9 := And.intro (And.intro (And.intro (And.intro (And.intro w9_1 w9_4) (And.intro (w9_7) (And.intro w9_8 w9_6))) (And.intro (And.intro (w9_9) (And.intro w9_5 w9_3)) (And.intro (w9_12) (And.intro w9_15 w9_16)))) (And.intro (And.intro (And.intro (w9_14) (And.intro w9_17 w9_13)) (And.intro (w9_11) (And.intro w9_20 w9_22))) (And.intro (And.intro (w9_25) (And.intro w9_26 w9_24)) (And.intro (w9_27) (And.intro w9_23 w9_21))))) (And.intro (And.intro (And.intro (And.intro (w9_19) (And.intro w9_30 w9_33)) (And.intro (w9_34) (And.intro w9_32 w9_35))) (And.intro (And.intro (w9_31) (And.intro w9_29 w9_37)) (And.intro (w9_39) (And.intro w9_41 w9_43)))) (And.intro (And.intro (And.intro (w9_44) (And.intro w9_42 w9_40)) (And.intro (w9_38) (And.intro w9_36 w9_28))) (And.intro (And.intro (w9_18) (And.intro w9_10 w9_2)) (And.intro (w9_0) (And.intro q9_ret q9_normal)))))
/-! function 10: (*sindri/sindriref04.P).Add -/
noncomputable def c10_0 : Code := bodyOf Try.f10
noncomputable def c10_1 : Code := cl c10_0
theorem w10_1 : awp X n c10_1 Q ((a0::a1::a2::a3::a4::a5::a6::a7::a8::a9::b0::b1::b2::b3::b4::b5::b6::b7::b8::b9::d0::d1::d2::d3::d4::d5::d6::d7::d8::d9::e0::e1::e2::e3::e4::e5::e6::e7::e8::e9::f0::[]), h) = (a_mov (.v (.int .u64 0)) h (.c (fun t4 h1 => a_mov (.v (.int .i64 0)) h1 (.c (fun t5 h2 => Q .normal ((a0::a1::a2::a3::t4::t5::a6::a7::a8::a9::b0::b1::b2::b3::b4::b5::b6::b7::b8::b9::d0::d1::d2::d3::d4::d5::d6::d7::d8::d9::e0::e1::e2::e3::e4::e5::e6::e7::e8::e9::f0::[]), h2)) ())) ())) := by rw [awp_eq]; kernel_rfl
noncomputable def c10_2 : Code := cr c10_0
noncomputable def c10_3 : Code := cl c10_2
noncomputable def c10_4 : Code := cl c10_3
theorem w10_4 : awp X n c10_4 Q ((a0::a1::a2::a3::a4::a5::a6::a7::a8::a9::b0::b1::b2::b3::b4::b5::b6::b7::b8::b9::d0::d1::d2::d3::d4::d5::d6::d7::d8::d9::e0::e1::e2::e3::e4::e5::e6::e7::e8::e9::f0::[]), h) = (a_mov a1 h (.c (fun t9 h1 => ACall X 21 [t9] h1 (.c (fun t10 h2 => a_un .not t10 h2 (.c (fun t11 h3 => Q .normal ((a0::a1::a2::a3::a4::a5::a6::a7::a8::t9::t10::t11::b2::b3::b4::b5::b6::b7::b8::b9::d0::d1::d2::d3::d4::d5::d6::d7::d8::d9::e0::e1::e2::e3::e4::e5::e6::e7::e8::e9::f0::[]), h3)) ())) ())) ())) := by rw [awp_eq]; kernel_rfl
noncomputable def c10_5 : Code := cr c10_3
noncomputable def c10_6 : Code := cl c10_5
noncomputable def c10_7 : Code := cl c10_6
theorem w10_7 : awp X n c10_7 Q ((a0::a1::a2::a3::a4::a5::a6::a7::a8::a9::b0::b1::b2::b3::b4::b5::b6::b7::b8::b9::d0::d1::d2::d3::d4::d5::d6::d7::d8::d9::e0::e1::e2::e3::e4::e5::e6::e7::e8::e9::f0::[]), h) = (a_mov (.v (.int .u64 0)) h (.c (fun t4 h1 => a_mov (.v (.int .i64 12)) h1 (.c (fun t5 h2 => Q .normal ((a0::a1::a2::a3::t4::t5::a6::a7::a8::a9::b0::b1::b2::b3::b4::b5::b6::b7::b8::b9::d0::d1::d2::d3::d4::d5::d6::d7::d8::d9::e0::e1::e2::e3::e4::e5::e6::e7::e8::e9::f0::[]), h2)) ())) ())) := by rw [awp_eq]; kernel_rfl
noncomputable def c10_8 : Code := cr c10_6
theorem w10_8 : awp X n c10_8 Q st = Q .ret st := by rw [awp_eq]; kernel_rfl
theorem w10_6 : awp X n c10_6 Q st = awp X n c10_7 (thenQ (awp X n c10_8 Q) Q) st := by rw [awp_eq]; kernel_rfl
noncomputable def c10_9 : Code := cr c10_5
theorem w10_9 : awp X n c10_9 Q st = Q .normal st := by rw [awp_eq]; kernel_rfl
theorem w10_5 : awp X n c10_5 Q ((a0::a1::a2::a3::a4::a5::a6::a7::a8::a9::b0::b1::b2::b3::b4::b5::b6::b7::b8::b9::d0::d1::d2::d3::d4::d5::d6::d7::d8::d9::e0::e1::e2::e3::e4::e5::e6::e7::e8::e9::f0::[]), h) = a_cond b1 (awp X n c10_6 Q ((a0::a1::a2::a3::a4::a5::a6::a7::a8::a9::b0::b1::b2::b3::b4::b5::b6::b7::b8::b9::d0::d1::d2::d3::d4::d5::d6::d7::d8::d9::e0::e1::e2::e3::e4::e5::e6::e7::e8::e9::f0::[]), h)) (awp X n c10_9 Q ((a0::a1::a2::a3::a4::a5::a6::a7::a8::a9::b0::b1::b2::b3::b4::b5::b6::b7::b8::b9::d0::d1::d2::d3::d4::d5::d6::d7::d8::d9::e0::e1::e2::e3::e4::e5::e6::e7::e8::e9::f0::[]), h)) := by rw [awp_eq]; kernel_rfl
theorem w10_3 : awp X n c10_3 Q st = awp X n c10_4 (thenQ (awp X n c10_5 Q) Q) st := by rw [awp_eq]; kernel_rfl
noncomputable def c10_10 : Code := cr c10_2
noncomputable def c10_11 : Code := cl c10_10
theorem w10_11 : awp X n c10_11 Q ((a0::a1::a2::a3::a4::a5::a6::a7::a8::a9::b0::b1::b2::b3::b4::b5::b6::b7::b8::b9::d0::d1::d2::d3::d4::d5::d6::d7::d8::d9::e0::e1::e2::e3::e4::e5::e6::e7::e8::e9::f0::[]), h) = (a_mov a0 h (.c (fun t13 h1 => a_mov a1 h1 (.c (fun t14 h2 => ACall X 12 [t13, t14] h2 (.c (fun t15 h3 => a_mov t15 h3 (.c (fun t12 h4 => a_ext 0 t12 h4 (.c (fun t16 h5 => a_ext 1 t12 h5 (.c (fun t17 h6 => a_mov t16 h6 (.c (fun t6 h7 => a_mov t17 h7 (.c (fun t7 h8 => Q .normal ((a0::a1::a2::a3::a4::a5::t6::t7::a8::a9::b0::b1::t12::t13::t14::t15::t16::t17::b8::b9::d0::d1::d2::d3::d4::d5::d6::d7::d8::d9::e0::e1::e2::e3::e4::e5::e6::e7::e8::e9::f0::[]), h8)) ())) ())) ())) ())) ())) ())) ())) ())) := by rw [awp_eq]; kernel_rfl
noncomputable def c10_12 : Code := cr c10_10
noncomputable def c10_13 : Code := cl c10_12
noncomputable def c10_14 : Code := cl c10_13
theorem w10_14 : awp X n c10_14 Q ((a0::a1::a2::a3::a4::a5::a6::a7::a8::a9::b0::b1::b2::b3::b4::b5::b6::b7::b8::b9::d0::d1::d2::d3::d4::d5::d6::d7::d8::d9::e0::e1::e2::e3::e4::e5::e6::e7::e8::e9::f0::[]), h) = (a_mov a7 h (.c (fun t18 h1 => Q .normal ((a0::a1::a2::a3::a4::a5::a6::a7::a8::a9::b0::b1::b2::b3::b4::b5::b6::b7::t18::b9::d0::d1::d2::d3::d4::d5::d6::d7::d8::d9::e0::e1::e2::e3::e4::e5::e6::e7::e8::e9::f0::[]), h1)) ())) := by rw [awp_eq]; kernel_rfl
noncomputable def c10_15 : Code := cr c10_13
noncomputable def c10_16 : Code := cl c10_15
noncomputable def c10_17 : Code := cl c10_16
theorem w10_17 : awp X n c10_17 Q ((a0::a1::a2::a3::a4::a5::a6::a7::a8::a9::b0::b1::b2::b3::b4::b5::b6::b7::b8::b9::d0::d1::d2::d3::d4::d5::d6::d7::d8::d9::e0::e1::e2::e3::e4::e5::e6::e7::e8::e9::f0::[]), h) = (a_mov a6 h (.c (fun t19 h1 => a_mov t19 h1 (.c (fun t4 h2 => a_mov (.v (.int .i64 0)) h2 (.c (fun t5 h3 => Q .normal ((a0::a1::a2::a3::t4::t5::a6::a7::a8::a9::b0::b1::b2::b3::b4::b5::b6::b7::b8::t19::d0::d1::d2::d3::d4::d5::d6::d7::d8::d9::e0::e1::e2::e3::e4::e5::e6::e7::e8::e9::f0::[]), h3)) ())) ())) ())) := by rw [awp_eq]; kernel_rfl
noncomputable def c10_18 : Code := cr c10_16
theorem w10_18 : awp X n c10_18 Q st = Q .ret st := by rw [awp_eq]; kernel_rfl
theorem w10_16 : awp X n c10_16 Q st = awp X n c10_17 (thenQ (awp X n c10_18 Q) Q) st := by rw [awp_eq]; kernel_rfl
noncomputable def c10_19 : Code := cr c10_15
theorem w10_19 : awp X n c10_19 Q st = Q .normal st := by rw [awp_eq]; kernel_rfl
theorem w10_15 : awp X n c10_15 Q ((a0::a1::a2::a3::a4::a5::a6::a7::a8::a9::b0::b1::b2::b3::b4::b5::b6::b7::b8::b9::d0::d1::d2::d3::d4::d5::d6::d7::d8::d9::e0::e1::e2::e3::e4::e5::e6::e7::e8::e9::f0::[]), h) = a_cond b8 (awp X n c10_16 Q ((a0::a1::a2::a3::a4::a5::a6::a7::a8::a9::b0::b1::b2::b3::b4::b5::b6::b7::b8::b9::d0::d1::d2::d3::d4::d5::d6::d7::d8::d9::e0::e1::e2::e3::e4::e5::e6::e7::e8::e9::f0::[]), h)) (awp X n c10_19 Q ((a0::a1::a2::a3::a4::a5::a6::a7::a8::a9::b0::b1::b2::b3::b4::b5::b6::b7::b8::b9::d0::d1::d2::d3::d4::d5::d6::d7::d8::d9::e0::e1::e2::e3::e4::e5::e6::e7::e8::e9::f0::[]), h)) := by rw [awp_eq]; kernel_rfl
theorem w10_13 : awp X n c10_13 Q st = awp X n c10_14 (thenQ (awp X n c10_15 Q) Q) st := by rw [awp_eq]; kernel_rfl
noncomputable def c10_20 : Code := cr c10_12
noncomputable def c10_21 : Code := cl c10_20
theorem w10_21 : awp X n c10_21 Q ((a0::a1::a2::a3::a4::a5::a6::a7::a8::a9::b0::b1::b2::b3::b4::b5::b6::b7::b8::b9::d0::d1::d2::d3::d4::d5::d6::d7::d8::d9::e0::e1::e2::e3::e4::e5::e6::e7::e8::e9::f0::[]), h) = (a_mov a0 h (.c (fun t20 h1 => ACall X 14 [t20] h1 (.c (fun t21 h2 => a_len t21 h2 (.c (fun t22 h3 => a_mov t22 h3 (.c (fun t8 h4 => Q .normal ((a0::a1::a2::a3::a4::a5::a6::a7::t8::a9::b0::b1::b2::b3::b4::b5::b6::b7::b8::b9::t20::t21::t22::d3::d4::d5::d6::d7::d8::d9::e0::e1::e2::e3::e4::e5::e6::e7::e8::e9::f0::[]), h4)) ())) ())) ())) ())) := by rw [awp_eq]; kernel_rfl
noncomputable def c10_22 : Code := cr c10_20
noncomputable def c10_23 : Code := cl c10_22
noncomputable def c10_24 : Code := cl c10_23
theorem w10_24 : awp X n c10_24 Q ((a0::a1::a2::a3::a4::a5::a6::a7::a8::a9::b0::b1::b2::b3::b4::b5::b6::b7::b8::b9::d0::d1::d2::d3::d4::d5::d6::d7::d8::d9::e0::e1::e2::e3::e4::e5::e6::e7::e8::e9::f0::[]), h) = (a_mov a8 h (.c (fun t23 h1 => a_mov a1 h1 (.c (fun t24 h2 => a_lens t24 h2 (.c (fun t25 h3 => a_bin .add t23 t25 h3 (.c (fun t26 h4 => a_bin .add t26 (.v (.int .i64 1)) h4 (.c (fun t27 h5 => a_bin .gtr t27 (.v (.int .i64 65536)) h5 (.c (fun t28 h6 => Q .normal ((a0::a1::a2::a3::a4::a5::a6::a7::a8::a9::b0::b1::b2::b3::b4::b5::b6::b7::b8::b9::d0::d1::d2::t23::t24::t25::t26::t27::t28::d9::e0::e1::e2::e3::e4::e5::e6::e7::e8::e9::f0::[]), h6)) ())) ())) ())) ())) ())) ())) := by rw [awp_eq]; kernel_rfl
noncomputable def c10_25 : Code := cr c10_23
noncomputable def c10_26 : Code := cl c10_25
noncomputable def c10_27 : Code := cl c10_26
theorem w10_27 : awp X n c10_27 Q ((a0::a1::a2::a3::a4::a5::a6::a7::a8::a9::b0::b1::b2::b3::b4::b5::b6::b7::b8::b9::d0::d1::d2::d3::d4::d5::d6::d7::d8::d9::e0::e1::e2::e3::e4::e5::e6::e7::e8::e9::f0::[]), h) = (a_mov (.v (.int .u64 0)) h (.c (fun t4 h1 => a_mov (.v (.int .i64 3)) h1 (.c (fun t5 h2 => Q .normal ((a0::a1::a2::a3::t4::t5::a6::a7::a8::a9::b0::b1::b2::b3::b4::b5::b6::b7::b8::b9::d0::d1::d2::d3::d4::d5::d6::d7::d8::d9::e0::e1::e2::e3::e4::e5::e6::e7::e8::e9::f0::[]), h2)) ())) ())) := by rw [awp_eq]; kernel_rfl
noncomputable def c10_28 : Code := cr c10_26
theorem w10_28 : awp X n c10_28 Q st = Q .ret st := by rw [awp_eq]; kernel_rfl
theorem w10_26 : awp X n c10_26 Q st = awp X n c10_27 (thenQ (awp X n c10_28 Q) Q) st := by rw [awp_eq]; kernel_rfl
noncomputable def c10_29 : Code := cr c10_25
theorem w10_29 : awp X n c10_29 Q st = Q .normal st := by rw [awp_eq]; kernel_rfl
theorem w10_25 : awp X n c10_25 Q ((a0::a1::a2::a3::a4::a5::a6::a7::a8::a9::b0::b1::b2::b3::b4::b5::b6::b7::b8::b9::d0::d1::d2::d3::d4::d5::d6::d7::d8::d9::e0::e1::e2::e3::e4::e5::e6::e7::e8::e9::f0::[]), h) = a_cond d8 (awp X n c10_26 Q ((a0::a1::a2::a3::a4::a5::a6::a7::a8::a9::b0::b1::b2::b3::b4::b5::b6::b7::b8::b9::d0::d1::d2::d3::d4::d5::d6::d7::d8::d9::e0::e1::e2::e3::e4::e5::e6::e7::e8::e9::f0::[]), h)) (awp X n c10_29 Q ((a0::a1::a2::a3::a4::a5::a6::a7::a8::a9::b0::b1::b2::b3::b4::b5::b6::b7::b8::b9::d0::d1::d2::d3::d4::d5::d6::d7::d8::d9::e0::e1::e2::e3::e4::e5::e6::e7::e8::e9::f0::[]), h)) := by rw [awp_eq]; kernel_rfl
theorem w10_23 : awp X n c10_23 Q st = awp X n c10_24 (thenQ (awp X n c10_25 Q) Q) st := by rw [awp_eq]; kernel_rfl
noncomputable def c10_30 : Code := cr c10_22
noncomputable def c10_31 : Code := cl c10_30
theorem w10_31 : awp X n c10_31 Q ((a0::a1::a2::a3::a4::a5::a6::a7::a8::a9::b0::b1::b2::b3::b4::b5::b6::b7::b8::b9::d0::d1::d2::d3::d4::d5::d6::d7::d8::d9::e0::e1::e2::e3::e4::e5::e6::e7::e8::e9::f0::[]), h) = (a_mov a0 h (.c (fun t29 h1 => a_mov a0 h1 (.c (fun t30 h2 => a_nilc t30 h2 (.c (fun t31 h3 => a_fa 0 t31 h3 (.c (fun t32 h4 => a_load 1 false t32 h4 (.c (fun t33 h5 => a_mov a1 h5 (.c (fun t34 h6 => a_lit 1 1 [.v (.string ⟨#[]⟩)] [(0, 1, t34)] h6 (.c (fun t35 h7 => a_app 1 16 t33 t35 h7 (.c (fun t36 h8 => a_nilc t29 h8 (.c (fun t37 h9 => a_fa 0 t37 h9 (.c (fun t38 h10 => a_store 1 t38 t36 h10 (.c (fun _v10 h11 => Q .normal ((a0::a1::a2::a3::a4::a5::a6::a7::a8::a9::b0::b1::b2::b3::b4::b5::b6::b7::b8::b9::d0::d1::d2::d3::d4::d5::d6::d7::d8::t29::t30::t31::t32::t33::t34::t35::t36::t37::t38::e9::f0::[]), h11)) ())) ())) ())) ())) ())) ())) ())) ())) ())) ())) ())) := by rw [awp_eq]; kernel_rfl
noncomputable def c10_32 : Code := cr c10_30
noncomputable def c10_33 : Code := cl c10_32
theorem w10_33 : awp X n c10_33 Q ((a0::a1::a2::a3::a4::a5::a6::a7::a8::a9::b0::b1::b2::b3::b4::b5::b6::b7::b8::b9::d0::d1::d2::d3::d4::d5::d6::d7::d8::d9::e0::e1::e2::e3::e4::e5::e6::e7::e8::e9::f0::[]), h) = (a_mov a8 h (.c (fun t39 h1 => a_cint .u64 t39 h1 (.c (fun t40 h2 => a_mov t40 h2 (.c (fun t4 h3 => a_mov (.v (.int .i64 0)) h3 (.c (fun t5 h4 => Q .normal ((a0::a1::a2::a3::t4::t5::a6::a7::a8::a9::b0::b1::b2::b3::b4::b5::b6::b7::b8::b9::d0::d1::d2::d3::d4::d5::d6::d7::d8::d9::e0::e1::e2::e3::e4::e5::e6::e7::e8::t39::t40::[]), h4)) ())) ())) ())) ())) := by rw [awp_eq]; kernel_rfl
noncomputable def c10_34 : Code := cr c10_32
theorem w10_34 : awp X n c10_34 Q st = Q .ret st := by rw [awp_eq]; kernel_rfl
theorem w10_32 : awp X n c10_32 Q st = awp X n c10_33 (thenQ (awp X n c10_34 Q) Q) st := by rw [awp_eq]; kernel_rfl
theorem w10_30 : awp X n c10_30 Q st = awp X n c10_31 (thenQ (awp X n c10_32 Q) Q) st := by rw [awp_eq]; kernel_rfl
theorem w10_22 : awp X n c10_22 Q st = awp X n c10_23 (thenQ (awp X n c10_30 Q) Q) st := by rw [awp_eq]; kernel_rfl
theorem w10_20 : awp X n c10_20 Q st = awp X n c10_21 (thenQ (awp X n c10_22 Q) Q) st := by rw [awp_eq]; kernel_rfl
theorem w10_12 : awp X n c10_12 Q st = awp X n c10_13 (thenQ (awp X n c10_20 Q) Q) st := by rw [awp_eq]; kernel_rfl
theorem w10_10 : awp X n c10_10 Q st = awp X n c10_11 (thenQ (awp X n c10_12 Q) Q) st := by rw [awp_eq]; kernel_rfl
theorem w10_2 : awp X n c10_2 Q st = awp X n c10_3 (thenQ (awp X n c10_10 Q) Q) st := by rw [awp_eq]; kernel_rfl
theorem w10_0 : awp X n c10_0 Q st = awp X n c10_1 (thenQ (awp X n c10_2 Q) Q) st := by rw [awp_eq]; kernel_rfl
theorem q10_ret : retQ X Try.f10 K .ret ((a0::a1::a2::a3::a4::a5::a6::a7::a8::a9::b0::b1::b2::b3::b4::b5::b6::b7::b8::b9::d0::d1::d2::d3::d4::d5::d6::d7::d8::d9::e0::e1::e2::e3::e4::e5::e6::e7::e8::e9::f0::[]), h) = (K.K (.t [a4, a5]) h) := by kernel_rfl
theorem q10_normal : retQ X Try.f10 K .normal ((a0::a1::a2::a3::a4::a5::a6::a7::a8::a9::b0::b1::b2::b3::b4::b5::b6::b7::b8::b9::d0::d1::d2::d3::d4::d5::d6::d7::d8::d9::e0::e1::e2::e3::e4::e5::e6::e7::e8::e9::f0::[]), h) = (K.K (.t [a4, a5]) h) := by kernel_rfl
theorem i10 (H : awp X h.length c10_0 (retQ X Try.f10 K) ((a0::a1::.bad::.bad::.bad::.bad::.bad::.bad::.bad::.bad::.bad::.bad::.bad::.bad::.bad::.bad::.bad::.bad::.bad::.bad::.bad::.bad::.bad::.bad::.bad::.bad::.bad::.bad::.bad::.bad::.bad::.bad::.bad::.bad::.bad::.bad::.bad::.bad::.bad::.bad::.bad::[]), h)) : ACall X 10 [a0, a1] h K := acall_intro (fn := Try.f10) (by kernel_rfl) (by kernel_rfl) (by kernel_rfl) H
noncomputable def R10 := And.intro (And.intro (And.intro (And.intro (And.intro w10_1 w10_4) (And.intro w10_7 w10_8)) (And.intro (And.intro w10_6 w10_9) (And.intro (w10_5) (And.intro w10_3 w10_11)))) (And.intro (And.intro (And.intro w10_14 w10_17) (And.intro w10_18 w10_16)) (And.intro (And.intro w10_19 w10_15) (And.intro (w10_13) (And.intro w10_21 w10_24))))) (And.intro (And.intro (And.intro (And.intro w10_27 w10_28) (And.intro w10_26 w10_29)) (And.intro (And.intro w10_25 w10_23) (And.intro (w10_31) (And.intro w10_33 w10_34)))) (And.intro (And.intro (And.intro w10_32 w10_30) (And.intro (w10_22) (And.intro w10_20 w10_12))) (And.intro (And.intro w10_10 w10_2) (And.intro (w10_0) (And.intro q10_ret q10_normal)))))
/-! function 11: (*sindri/pool.Pool).Find -/
noncomputable def c11_0 : Code := bodyOf Try.f11
noncomputable def c11_1 : Code := cl c11_0
theorem w11_1 : awp X n c11_1 Q ((a0::a1::a2::a3::a4::a5::a6::a7::a8::a9::b0::b1::b2::b3::b4::b5::b6::b7::b8::b9::d0::d1::d2::d3::d4::d5::d6::d7::[]), h) = (a_mov (.v (.int .u64 0)) h (.c (fun t4 h1 => a_mov (.v (.bool false)) h1 (.c (fun t5 h2 => Q .normal ((a0::a1::a2::a3::t4::t5::a6::a7::a8::a9::b0::b1::b2::b3::b4::b5::b6::b7::b8::b9::d0::d1::d2::d3::d4::d5::d6::d7::[]), h2)) ())) ())) := by rw [awp_eq]; kernel_rfl
noncomputable def c11_2 : Code := cr c11_0
noncomputable def c11_3 : Code := cl c11_2
noncomputable def c11_4 : Code := cl c11_3
theorem w11_4 : awp X n c11_4 Q ((a0::a1::a2::a3::a4::a5::a6::a7::a8::a9::b0::b1::b2::b3::b4::b5::b6::b7::b8::b9::d0::d1::d2::d3::d4::d5::d6::d7::[]), h) = (a_mov a0 h (.c (fun t8 h1 => a_eqp false t8 (.v (.pointer none)) h1 (.c (fun t9 h2 => a_mov t9 h2 (.c (fun t10 h3 => a_on t10 false (fun k => a_mov a0 h3 k) h3 (.c (fun t11 h4 => a_on t10 false (fun k => a_nilc t11 h4 k) h4 (.c (fun t12 h5 => a_on t10 false (fun k => a_fa 0 t12 h5 k) h5 (.c (fun t13 h6 => a_on t10 false (fun k => a_load 1 false t13 h6 k) h6 (.c (fun t14 h7 => a_on t10 false (fun k => a_eqm false t14 (.v (.map none)) h7 k) h7 (.c (fun t15 h8 => a_pick t10 (.v (.bool true)) t15 h8 (.c (fun t16 h9 => Q .normal ((a0::a1::a2::a3::a4::a5::a6::a7::t8::t9::t10::t11::t12::t13::t14::t15::t16::b7::b8::b9::d0::d1::d2::d3::d4::d5::d6::d7::[]), h9)) ())) ())) ())) ())) ())) ())) ())) ())) ())) := by rw [awp_eq]; kernel_rfl
noncomputable def c11_5 : Code := cr c11_3
noncomputable def c11_6 : Code := cl c11_5
noncomputable def c11_7 : Code := cl c11_6
theorem w11_7 : awp X n c11_7 Q ((a0::a1::a2::a3::a4::a5::a6::a7::a8::a9::b0::b1::b2::b3::b4::b5::b6::b7::b8::b9::d0::d1::d2::d3::d4::d5::d6::d7::[]), h) = (a_mov (.v (.int .u64 0)) h (.c (fun t4 h1 => a_mov (.v (.bool false)) h1 (.c (fun t5 h2 => Q .normal ((a0::a1::a2::a3::t4::t5::a6::a7::a8::a9::b0::b1::b2::b3::b4::b5::b6::b7::b8::b9::d0::d1::d2::d3::d4::d5::d6::d7::[]), h2)) ())) ())) := by rw [awp_eq]; kernel_rfl
noncomputable def c11_8 : Code := cr c11_6
theorem w11_8 : awp X n c11_8 Q st = Q .ret st := by rw [awp_eq]; kernel_rfl
theorem w11_6 : awp X n c11_6 Q st = awp X n c11_7 (thenQ (awp X n c11_8 Q) Q) st := by rw [awp_eq]; kernel_rfl
noncomputable def c11_9 : Code := cr c11_5
theorem w11_9 : awp X n c11_9 Q st = Q .normal st := by rw [awp_eq]; kernel_rfl
theorem w11_5 : awp X n c11_5 Q ((a0::a1::a2::a3::a4::a5::a6::a7::a8::a9::b0::b1::b2::b3::b4::b5::b6::b7::b8::b9::d0::d1::d2::d3::d4::d5::d6::d7::[]), h) = a_cond b6 (awp X n c11_6 Q ((a0::a1::a2::a3::a4::a5::a6::a7::a8::a9::b0::b1::b2::b3::b4::b5::b6::b7::b8::b9::d0::d1::d2::d3::d4::d5::d6::d7::[]), h)) (awp X n c11_9 Q ((a0::a1::a2::a3::a4::a5::a6::a7::a8::a9::b0::b1::b2::b3::b4::b5::b6::b7::b8::b9::d0::d1::d2::d3::d4::d5::d6::d7::[]), h)) := by rw [awp_eq]; kernel_rfl
theorem w11_3 : awp X n c11_3 Q st = awp X n c11_4 (thenQ (awp X n c11_5 Q) Q) st := by rw [awp_eq]; kernel_rfl
noncomputable def c11_10 : Code := cr c11_2
noncomputable def c11_11 : Code := cl c11_10
theorem w11_11 : awp X n c11_11 Q ((a0::a1::a2::a3::a4::a5::a6::a7::a8::a9::b0::b1::b2::b3::b4::b5::b6::b7::b8::b9::d0::d1::d2::d3::d4::d5::d6::d7::[]), h) = (a_mov a0 h (.c (fun t18 h1 => a_nilc t18 h1 (.c (fun t19 h2 => a_fa 0 t19 h2 (.c (fun t20 h3 => a_load 1 false t20 h3 (.c (fun t21 h4 => a_mov a1 h4 (.c (fun t22 h5 => a_lku true true (.v (.int .u64 0)) t21 t22 h5 (.c (fun t23 h6 => a_mov t23 h6 (.c (fun t17 h7 => a_ext 0 t17 h7 (.c (fun t24 h8 => a_ext 1 t17 h8 (.c (fun t25 h9 => a_mov t24 h9 (.c (fun t6 h10 => a_mov t25 h10 (.c (fun t7 h11 => Q .normal ((a0::a1::a2::a3::a4::a5::t6::t7::a8::a9::b0::b1::b2::b3::b4::b5::b6::t17::t18::t19::t20::t21::t22::t23::t24::t25::d6::d7::[]), h11)) ())) ())) ())) ())) ())) ())) ())) ())) ())) ())) ())) := by rw [awp_eq]; kernel_rfl
noncomputable def c11_12 : Code := cr c11_10
noncomputable def c11_13 : Code := cl c11_12
theorem w11_13 : awp X n c11_13 Q ((a0::a1::a2::a3::a4::a5::a6::a7::a8::a9::b0::b1::b2::b3::b4::b5::b6::b7::b8::b9::d0::d1::d2::d3::d4::d5::d6::d7::[]), h) = (a_mov a6 h (.c (fun t26 h1 => a_mov a7 h1 (.c (fun t27 h2 => a_mov t26 h2 (.c (fun t4 h3 => a_mov t27 h3 (.c (fun t5 h4 => Q .normal ((a0::a1::a2::a3::t4::t5::a6::a7::a8::a9::b0::b1::b2::b3::b4::b5::b6::b7::b8::b9::d0::d1::d2::d3::d4::d5::t26::t27::[]), h4)) ())) ())) ())) ())) := by rw [awp_eq]; kernel_rfl
noncomputable def c11_14 : Code := cr c11_12
theorem w11_14 : awp X n c11_14 Q st = Q .ret st := by rw [awp_eq]; kernel_rfl
theorem w11_12 : awp X n c11_12 Q st = awp X n c11_13 (thenQ (awp X n c11_14 Q) Q) st := by rw [awp_eq]; kernel_rfl
theorem w11_10 : awp X n c11_10 Q st = awp X n c11_11 (thenQ (awp X n c11_12 Q) Q) st := by rw [awp_eq]; kernel_rfl
theorem w11_2 : awp X n c11_2 Q st = awp X n c11_3 (thenQ (awp X n c11_10 Q) Q) st := by rw [awp_eq]; kernel_rfl
theorem w11_0 : awp X n c11_0 Q st = awp X n c11_1 (thenQ (awp X n c11_2 Q) Q) st := by rw [awp_eq]; kernel_rfl
theorem q11_ret : retQ X Try.f11 K .ret ((a0::a1::a2::a3::a4::a5::a6::a7::a8::a9::b0::b1::b2::b3::b4::b5::b6::b7::b8::b9::d0::d1::d2::d3::d4::d5::d6::d7::[]), h) = (K.K (.t [a4, a5]) h) := by kernel_rfl
theorem q11_normal : retQ X Try.f11 K .normal ((a0::a1::a2::a3::a4::a5::a6::a7::a8::a9::b0::b1::b2::b3::b4::b5::b6::b7::b8::b9::d0::d1::d2::d3::d4::d5::d6::d7::[]), h) = (K.K (.t [a4, a5]) h) := by kernel_rfl
theorem i11 (H : awp X h.length c11_0 (retQ X Try.f11 K) ((a0::a1::.bad::.bad::.bad::.bad::.bad::.bad::.bad::.bad::.bad::.bad::.bad::.bad::.bad::.bad::.bad::.bad::.bad::.bad::.bad::.bad::.bad::.bad::.bad::.bad::.bad::.bad::[]), h)) : ACall X 11 [a0, a1] h K := acall_intro (fn := Try.f11) (by kernel_rfl) (by kernel_rfl) (by kernel_rfl) H
noncomputable def R11 := And.intro (And.intro (And.intro (And.intro w11_1 w11_4) (And.intro w11_7 w11_8)) (And.intro (And.intro w11_6 w11_9) (And.intro w11_5 w11_3))) (And.intro (And.intro (And.intro w11_11 w11_13) (And.intro w11_14 w11_12)) (And.intro (And.intro w11_10 w11_2) (And.intro (w11_0) (And.intro q11_ret q11_normal))))
/-! function 12: (*sindri/sindriref04.P).Find -/
noncomputable def c12_0 : Code := bodyOf Try.f12
noncomputable def c12_1 : Code := cl c12_0
theorem w12_1 : awp X n c12_1 Q ((a0::a1::a2::a3::a4::a5::a6::a7::a8::a9::b0::b1::b2::b3::b4::b5::b6::b7::b8::b9::d0::d1::d2::d3::d4::d5::d6::d7::d8::d9::e0::e1::e2::e3::e4::e5::e6::e7::e8::[]), h) = (a_mov (.v (.int .u64 0)) h (.c (fun t4 h1 => a_mov (.v (.bool false)) h1 (.c (fun t5 h2 => Q .normal ((a0::a1::a2::a3::t4::t5::a6::a7::a8::a9::b0::b1::b2::b3::b4::b5::b6::b7::b8::b9::d0::d1::d2::d3::d4::d5::d6::d7::d8::d9::e0::e1::e2::e3::e4::e5::e6::e7::e8::[]), h2)) ())) ())) := by rw [awp_eq]; kernel_rfl
noncomputable def c12_2 : Code := cr c12_0
noncomputable def c12_3 : Code := cl c12_2
theorem w12_3 : awp X n c12_3 Q ((a0::a1::a2::a3::a4::a5::a6::a7::a8::a9::b0::b1::b2::b3::b4::b5::b6::b7::b8::b9::d0::d1::d2::d3::d4::d5::d6::d7::d8::d9::e0::e1::e2::e3::e4::e5::e6::e7::e8::[]), h) = (a_mov (.v (.int .u64 0)) h (.c (fun t6 h1 => Q .normal ((a0::a1::a2::a3::a4::a5::t6::a7::a8::a9::b0::b1::b2::b3::b4::b5::b6::b7::b8::b9::d0::d1::d2::d3::d4::d5::d6::d7::d8::d9::e0::e1::e2::e3::e4::e5::e6::e7::e8::[]), h1)) ())) := by rw [awp_eq]; kernel_rfl
noncomputable def c12_4 : Code := cr c12_2
noncomputable def c12_5 : Code := cl c12_4
noncomputable def c12_6 : Code := cl c12_5
theorem w12_6 : awp X n c12_6 Q ((a0::a1::a2::a3::a4::a5::a6::a7::a8::a9::b0::b1::b2::b3::b4::b5::b6::b7::b8::b9::d0::d1::d2::d3::d4::d5::d6::d7::d8::d9::e0::e1::e2::e3::e4::e5::e6::e7::e8::[]), h) = (a_mov (.v (.int .i64 0)) h (.c (fun t7 h1 => Q .normal ((a0::a1::a2::a3::a4::a5::a6::t7::a8::a9::b0::b1::b2::b3::b4::b5::b6::b7::b8::b9::d0::d1::d2::d3::d4::d5::d6::d7::d8::d9::e0::e1::e2::e3::e4::e5::e6::e7::e8::[]), h1)) ())) := by rw [awp_eq]; kernel_rfl
noncomputable def c12_7 : Code := cr c12_5
noncomputable def c12_8 : Code := cl c12_7
noncomputable def c12_9 : Code := cl c12_8
noncomputable def c12_10 : Code := cl c12_9
noncomputable def c12_11 : Code := cl c12_10
theorem w12_11 : awp X n c12_11 Q ((a0::a1::a2::a3::a4::a5::a6::a7::a8::a9::b0::b1::b2::b3::b4::b5::b6::b7::b8::b9::d0::d1::d2::d3::d4::d5::d6::d7::d8::d9::e0::e1::e2::e3::e4::e5::e6::e7::e8::[]), h) = (a_mov a7 h (.c (fun t8 h1 => a_mov a0 h1 (.c (fun t9 h2 => a_nilc t9 h2 (.c (fun t10 h3 => a_fa 0 t10 h3 (.c (fun t11 h4 => a_load 1 false t11 h4 (.c (fun t12 h5 => a_len t12 h5 (.c (fun t13 h6 => a_bin .lss t8 t13 h6 (.c (fun t14 h7 => Q .normal ((a0::a1::a2::a3::a4::a5::a6::a7::t8::t9::t10::t11::t12::t13::t14::b5::b6::b7::b8::b9::d0::d1::d2::d3::d4::d5::d6::d7::d8::d9::e0::e1::e2::e3::e4::e5::e6::e7::e8::[]), h7)) ())) ())) ())) ())) ())) ())) ())) := by rw [awp_eq]; kernel_rfl
noncomputable def c12_12 : Code := cr c12_10
noncomputable def c12_13 : Code := cl c12_12
theorem w12_13 : awp X n c12_13 Q st = Q .normal st := by rw [awp_eq]; kernel_rfl
noncomputable def c12_14 : Code := cr c12_12
theorem w12_14 : awp X n c12_14 Q st = Q (.exit 0) st := by rw [awp_eq]; kernel_rfl
theorem w12_12 : awp X n c12_12 Q ((a0::a1::a2::a3::a4::a5::a6::a7::a8::a9::b0::b1::b2::b3::b4::b5::b6::b7::b8::b9::d0::d1::d2::d3::d4::d5::d6::d7::d8::d9::e0::e1::e2::e3::e4::e5::e6::e7::e8::[]), h) = a_cond b4 (awp X n c12_13 Q ((a0::a1::a2::a3::a4::a5::a6::a7::a8::a9::b0::b1::b2::b3::b4::b5::b6::b7::b8::b9::d0::d1::d2::d3::d4::d5::d6::d7::d8::d9::e0::e1::e2::e3::e4::e5::e6::e7::e8::[]), h)) (awp X n c12_14 Q ((a0::a1::a2::a3::a4::a5::a6::a7::a8::a9::b0::b1::b2::b3::b4::b5::b6::b7::b8::b9::d0::d1::d2::d3::d4::d5::d6::d7::d8::d9::e0::e1::e2::e3::e4::e5::e6::e7::e8::[]), h)) := by rw [awp_eq]; kernel_rfl
theorem w12_10 : awp X n c12_10 Q st = awp X n c12_11 (thenQ (awp X n c12_12 Q) Q) st := by rw [awp_eq]; kernel_rfl
noncomputable def c12_15 : Code := cr c12_9
noncomputable def c12_16 : Code := cl c12_15
noncomputable def c12_17 : Code := cl c12_16
noncomputable def c12_18 : Code := cl c12_17
noncomputable def c12_19 : Code := cl c12_18
theorem w12_19 : awp X n c12_19 Q ((a0::a1::a2::a3::a4::a5::a6::a7::a8::a9::b0::b1::b2::b3::b4::b5::b6::b7::b8::b9::d0::d1::d2::d3::d4::d5::d6::d7::d8::d9::e0::e1::e2::e3::e4::e5::e6::e7::e8::[]), h) = (a_mov a0 h (.c (fun t17 h1 => a_nilc t17 h1 (.c (fun t18 h2 => a_fa 0 t18 h2 (.c (fun t19 h3 => a_load 1 false t19 h3 (.c (fun t20 h4 => a_mov a7 h4 (.c (fun t21 h5 => a_ia 1 t20 t21 h5 (.c (fun t22 h6 => a_load 1 false t22 h6 (.c (fun t23 h7 => a_mov a1 h7 (.c (fun t24 h8 => a_bins .eql t23 t24 h8 (.c (fun t25 h9 => Q .normal ((a0::a1::a2::a3::a4::a5::a6::a7::a8::a9::b0::b1::b2::b3::b4::b5::b6::t17::t18::t19::t20::t21::t22::t23::t24::t25::d6::d7::d8::d9::e0::e1::e2::e3::e4::e5::e6::e7::e8::[]), h9)) ())) ())) ())) ())) ())) ())) ())) ())) ())) := by rw [awp_eq]; kernel_rfl
noncomputable def c12_20 : Code := cr c12_18
noncomputable def c12_21 : Code := cl c12_20
noncomputable def c12_22 : Code := cl c12_21
theorem w12_22 : awp X n c12_22 Q ((a0::a1::a2::a3::a4::a5::a6::a7::a8::a9::b0::b1::b2::b3::b4::b5::b6::b7::b8::b9::d0::d1::d2::d3::d4::d5::d6::d7::d8::d9::e0::e1::e2::e3::e4::e5::e6::e7::e8::[]), h) = (a_mov a6 h (.c (fun t26 h1 => a_mov t26 h1 (.c (fun t4 h2 => a_mov (.v (.bool true)) h2 (.c (fun t5 h3 => Q .normal ((a0::a1::a2::a3::t4::t5::a6::a7::a8::a9::b0::b1::b2::b3::b4::b5::b6::b7::b8::b9::d0::d1::d2::d3::d4::d5::t26::d7::d8::d9::e0::e1::e2::e3::e4::e5::e6::e7::e8::[]), h3)) ())) ())) ())) := by rw [awp_eq]; kernel_rfl
noncomputable def c12_23 : Code := cr c12_21
theorem w12_23 : awp X n c12_23 Q st = Q .ret st := by rw [awp_eq]; kernel_rfl
theorem w12_21 : awp X n c12_21 Q st = awp X n c12_22 (thenQ (awp X n c12_23 Q) Q) st := by rw [awp_eq]; kernel_rfl
noncomputable def c12_24 : Code := cr c12_20
theorem w12_24 : awp X n c12_24 Q st = Q .normal st := by rw [awp_eq]; kernel_rfl
theorem w12_20 : awp X n c12_20 Q ((a0::a1::a2::a3::a4::a5::a6::a7::a8::a9::b0::b1::b2::b3::b4::b5::b6::b7::b8::b9::d0::d1::d2::d3::d4::d5::d6::d7::d8::d9::e0::e1::e2::e3::e4::e5::e6::e7::e8::[]), h) = a_cond d5 (awp X n c12_21 Q ((a0::a1::a2::a3::a4::a5::a6::a7::a8::a9::b0::b1::b2::b3::b4::b5::b6::b7::b8::b9::d0::d1::d2::d3::d4::d5::d6::d7::d8::d9::e0::e1::e2::e3::e4::e5::e6::e7::e8::[]), h)) (awp X n c12_24 Q ((a0::a1::a2::a3::a4::a5::a6::a7::a8::a9::b0::b1::b2::b3::b4::b5::b6::b7::b8::b9::d0::d1::d2::d3::d4::d5::d6::d7::d8::d9::e0::e1::e2::e3::e4::e5::e6::e7::e8::[]), h)) := by rw [awp_eq]; kernel_rfl
theorem w12_18 : awp X n c12_18 Q st = awp X n c12_19 (thenQ (awp X n c12_20 Q) Q) st := by rw [awp_eq]; kernel_rfl
noncomputable def c12_25 : Code := cr c12_17
theorem w12_25 : awp X n c12_25 Q ((a0::a1::a2::a3::a4::a5::a6::a7::a8::a9::b0::b1::b2::b3::b4::b5::b6::b7::b8::b9::d0::d1::d2::d3::d4::d5::d6::d7::d8::d9::e0::e1::e2::e3::e4::e5::e6::e7::e8::[]), h) = (a_mov a6 h (.c (fun t27 h1 => a_mov a0 h1 (.c (fun t28 h2 => a_nilc t28 h2 (.c (fun t29 h3 => a_fa 0 t29 h3 (.c (fun t30 h4 => a_load 1 false t30 h4 (.c (fun t31 h5 => a_mov a7 h5 (.c (fun t32 h6 => a_ia 1 t31 t32 h6 (.c (fun t33 h7 => a_load 1 false t33 h7 (.c (fun t34 h8 => a_lens t34 h8 (.c (fun t35 h9 => a_cint .u64 t35 h9 (.c (fun t36 h10 => a_bin .add t27 t36 h10 (.c (fun t37 h11 => a_bin .add t37 (.v (.int .u64 1)) h11 (.c (fun t38 h12 => a_mov t38 h12 (.c (fun t6 h13 => Q .normal ((a0::a1::a2::a3::a4::a5::t6::a7::a8::a9::b0::b1::b2::b3::b4::b5::b6::b7::b8::b9::d0::d1::d2::d3::d4::d5::d6::t27::t28::t29::t30::t31::t32::t33::t34::t35::t36::t37::t38::[]), h13)) ())) ())) ())) ())) ())) ())) ())) ())) ())) ())) ())) ())) ())) := by rw [awp_eq]; kernel_rfl
theorem w12_17 : awp X n c12_17 Q st = awp X n c12_18 (thenQ (awp X n c12_25 Q) Q) st := by rw [awp_eq]; kernel_rfl
theorem w12_16 : awp X n c12_16 Q st = awp X n c12_17 (blockQ 1 Q) st := by rw [awp_eq]; kernel_rfl
noncomputable def c12_26 : Code := cr c12_15
theorem w12_26 : awp X n c12_26 Q ((a0::a1::a2::a3::a4::a5::a6::a7::a8::a9::b0::b1::b2::b3::b4::b5::b6::b7::b8::b9::d0::d1::d2::d3::d4::d5::d6::d7::d8::d9::e0::e1::e2::e3::e4::e5::e6::e7::e8::[]), h) = (a_mov a7 h (.c (fun t15 h1 => a_bin .add t15 (.v (.int .i64 1)) h1 (.c (fun t16 h2 => a_mov t16 h2 (.c (fun t7 h3 => Q .normal ((a0::a1::a2::a3::a4::a5::a6::t7::a8::a9::b0::b1::b2::b3::b4::t15::t16::b7::b8::b9::d0::d1::d2::d3::d4::d5::d6::d7::d8::d9::e0::e1::e2::e3::e4::e5::e6::e7::e8::[]), h3)) ())) ())) ())) := by rw [awp_eq]; kernel_rfl
theorem w12_15 : awp X n c12_15 Q st = awp X n c12_16 (thenQ (awp X n c12_26 Q) Q) st := by rw [awp_eq]; kernel_rfl
theorem w12_9 : awp X n c12_9 Q st = awp X n c12_10 (thenQ (awp X n c12_15 Q) Q) st := by rw [awp_eq]; kernel_rfl
theorem w12_8 : awp X n c12_8 Q st = ALoop X n c12_9 Q st := by rw [awp_eq]; kernel_rfl
theorem w12_7 : awp X n c12_7 Q st = awp X n c12_8 (blockQ 0 Q) st := by rw [awp_eq]; kernel_rfl
theorem w12_5 : awp X n c12_5 Q st = awp X n c12_6 (thenQ (awp X n c12_7 Q) Q) st := by rw [awp_eq]; kernel_rfl
noncomputable def c12_27 : Code := cr c12_4
noncomputable def c12_28 : Code := cl c12_27
theorem w12_28 : awp X n c12_28 Q ((a0::a1::a2::a3::a4::a5::a6::a7::a8::a9::b0::b1::b2::b3::b4::b5::b6::b7::b8::b9::d0::d1::d2::d3::d4::d5::d6::d7::d8::d9::e0::e1::e2::e3::e4::e5::e6::e7::e8::[]), h) = (a_mov (.v (.int .u64 0)) h (.c (fun t4 h1 => a_mov (.v (.bool false)) h1 (.c (fun t5 h2 => Q .normal ((a0::a1::a2::a3::t4::t5::a6::a7::a8::a9::b0::b1::b2::b3::b4::b5::b6::b7::b8::b9::d0::d1::d2::d3::d4::d5::d6::d7::d8::d9::e0::e1::e2::e3::e4::e5::e6::e7::e8::[]), h2)) ())) ())) := by rw [awp_eq]; kernel_rfl
noncomputable def c12_29 : Code := cr c12_27
theorem w12_29 : awp X n c12_29 Q st = Q .ret st := by rw [awp_eq]; kernel_rfl
theorem w12_27 : awp X n c12_27 Q st = awp X n c12_28 (thenQ (awp X n c12_29 Q) Q) st := by rw [awp_eq]; kernel_rfl
theorem w12_4 : awp X n c12_4 Q st = awp X n c12_5 (thenQ (awp X n c12_27 Q) Q) st := by rw [awp_eq]; kernel_rfl
theorem w12_2 : awp X n c12_2 Q st = awp X n c12_3 (thenQ (awp X n c12_4 Q) Q) st := by rw [awp_eq]; kernel_rfl
theorem w12_0 : awp X n c12_0 Q st = awp X n c12_1 (thenQ (awp X n c12_2 Q) Q) st := by rw [awp_eq]; kernel_rfl
theorem q12_ret : retQ X Try.f12 K .ret ((a0::a1::a2::a3::a4::a5::a6::a7::a8::a9::b0::b1::b2::b3::b4::b5::b6::b7::b8::b9::d0::d1::d2::d3::d4::d5::d6::d7::d8::d9::e0::e1::e2::e3::e4::e5::e6::e7::e8::[]), h) = (K.K (.t [a4, a5]) h) := by kernel_rfl
theorem q12_normal : retQ X Try.f12 K .normal ((a0::a1::a2::a3::a4::a5::a6::a7::a8::a9::b0::b1::b2::b3::b4::b5::b6::b7::b8::b9::d0::d1::d2::d3::d4::d5::d6::d7::d8::d9::e0::e1::e2::e3::e4::e5::e6::e7::e8::[]), h) = (K.K (.t [a4, a5]) h) := by kernel_rfl
theorem i12 (H : awp X h.length c12_0 (retQ X Try.f12 K) ((a0::a1::.bad::.bad::.bad::.bad::.bad::.bad::.bad::.bad::.bad::.bad::.bad::.bad::.bad::.bad::.bad::.bad::.bad::.bad::.bad::.bad::.bad::.bad::.bad::.bad::.bad::.bad::.bad::.bad::.bad::.bad::.bad::.bad::.bad::.bad::.bad::.bad::.bad::[]), h)) : ACall X 12 [a0, a1] h K := acall_intro (fn := Try.f12) (by kernel_rfl) (by kernel_rfl) (by kernel_rfl) H
noncomputable def R12 := And.intro (And.intro (And.intro (And.intro (And.intro w12_1 w12_3) (And.intro w12_6 w12_11)) (And.intro (And.intro w12_13 w12_14) (And.intro w12_12 w12_10))) (And.intro (And.intro (And.intro w12_19 w12_22) (And.intro w12_23 w12_21)) (And.intro (And.intro w12_24 w12_20) (And.intro w12_18 w12_25)))) (And.intro (And.intro (And.intro (And.intro w12_17 w12_16) (And.intro w12_26 w12_15)) (And.intro (And.intro w12_9 w12_8) (And.intro w12_7 w12_5))) (And.intro (And.intro (And.intro w12_28 w12_29) (And.intro w12_27 w12_4)) (And.intro (And.intro w12_2 w12_0) (And.intro q12_ret q12_normal))))
/-! function 13: (*sindri/pool.Pool).Bytes -/
noncomputable def c13_0 : Code := bodyOf Try.f13
noncomputable def c13_1 : Code := cl c13_0
theorem w13_1 : awp X n c13_1 Q ((a0::a1::a2::a3::a4::a5::a6::a7::a8::a9::b0::[]), h) = (a_mov (.v (.slice none 0 0)) h (.c (fun t2 h1 => Q .normal ((a0::a1::t2::a3::a4::a5::a6::a7::a8::a9::b0::[]), h1)) ())) := by rw [awp_eq]; kernel_rfl
noncomputable def c13_2 : Code := cr c13_0
noncomputable def c13_3 : Code := cl c13_2
noncomputable def c13_4 : Code := cl c13_3
theorem w13_4 : awp X n c13_4 Q ((a0::a1::a2::a3::a4::a5::a6::a7::a8::a9::b0::[]), h) = (a_mov a0 h (.c (fun t3 h1 => a_eqp false t3 (.v (.pointer none)) h1 (.c (fun t4 h2 => Q .normal ((a0::a1::a2::t3::t4::a5::a6::a7::a8::a9::b0::[]), h2)) ())) ())) := by rw [awp_eq]; kernel_rfl
noncomputable def c13_5 : Code := cr c13_3
noncomputable def c13_6 : Code := cl c13_5
noncomputable def c13_7 : Code := cl c13_6
theorem w13_7 : awp X n c13_7 Q ((a0::a1::a2::a3::a4::a5::a6::a7::a8::a9::b0::[]), h) = (a_mov (.v (.slice none 0 0)) h (.c (fun t2 h1 => Q .normal ((a0::a1::t2::a3::a4::a5::a6::a7::a8::a9::b0::[]), h1)) ())) := by rw [awp_eq]; kernel_rfl
noncomputable def c13_8 : Code := cr c13_6
theorem w13_8 : awp X n c13_8 Q st = Q .ret st := by rw [awp_eq]; kernel_rfl
theorem w13_6 : awp X n c13_6 Q st = awp X n c13_7 (thenQ (awp X n c13_8 Q) Q) st := by rw [awp_eq]; kernel_rfl
noncomputable def c13_9 : Code := cr c13_5
theorem w13_9 : awp X n c13_9 Q st = Q .normal st := by rw [awp_eq]; kernel_rfl
theorem w13_5 : awp X n c13_5 Q ((a0::a1::a2::a3::a4::a5::a6::a7::a8::a9::b0::[]), h) = a_cond a4 (awp X n c13_6 Q ((a0::a1::a2::a3::a4::a5::a6::a7::a8::a9::b0::[]), h)) (awp X n c13_9 Q ((a0::a1::a2::a3::a4::a5::a6::a7::a8::a9::b0::[]), h)) := by rw [awp_eq]; kernel_rfl
theorem w13_3 : awp X n c13_3 Q st = awp X n c13_4 (thenQ (awp X n c13_5 Q) Q) st := by rw [awp_eq]; kernel_rfl
noncomputable def c13_10 : Code := cr c13_2
noncomputable def c13_11 : Code := cl c13_10
theorem w13_11 : awp X n c13_11 Q ((a0::a1::a2::a3::a4::a5::a6::a7::a8::a9::b0::[]), h) = (a_lit 1 0 [] [] h (.c (fun t5 h1 => a_mov a0 h1 (.c (fun t6 h2 => a_nilc t6 h2 (.c (fun t7 h3 => a_fa 1 t7 h3 (.c (fun t8 h4 => a_load 1 false t8 h4 (.c (fun t9 h5 => a_app 1 1 t5 t9 h5 (.c (fun t10 h6 => a_mov t10 h6 (.c (fun t2 h7 => Q .normal ((a0::a1::t2::a3::a4::t5::t6::t7::t8::t9::t10::[]), h7)) ())) ())) ())) ())) ())) ())) ())) := by rw [awp_eq]; kernel_rfl
noncomputable def c13_12 : Code := cr c13_10
theorem w13_12 : awp X n c13_12 Q st = Q .ret st := by rw [awp_eq]; kernel_rfl
theorem w13_10 : awp X n c13_10 Q st = awp X n c13_11 (thenQ (awp X n c13_12 Q) Q) st := by rw [awp_eq]; kernel_rfl
theorem w13_2 : awp X n c13_2 Q st = awp X n c13_3 (thenQ (awp X n c13_10 Q) Q) st := by rw [awp_eq]; kernel_rfl
theorem w13_0 : awp X n c13_0 Q st = awp X n c13_1 (thenQ (awp X n c13_2 Q) Q) st := by rw [awp_eq]; kernel_rfl
theorem q13_ret : retQ X Try.f13 K .ret ((a0::a1::a2::a3::a4::a5::a6::a7::a8::a9::b0::[]), h) = (K.K a2 h) := by kernel_rfl
theorem q13_normal : retQ X Try.f13 K .normal ((a0::a1::a2::a3::a4::a5::a6::a7::a8::a9::b0::[]), h) = (K.K a2 h) := by kernel_rfl
theorem i13 (H : awp X h.length c13_0 (retQ X Try.f13 K) ((a0::.bad::.bad::.bad::.bad::.bad::.bad::.bad::.bad::.bad::.bad::[]), h)) : ACall X 13 [a0] h K := acall_intro (fn := Try.f13) (by kernel_rfl) (by kernel_rfl) (by kernel_rfl) H
noncomputable def R13 := And.intro (And.intro (And.intro (w13_1) (And.intro w13_4 w13_7)) (And.intro (And.intro w13_8 w13_6) (And.intro w13_9 w13_5))) (And.intro (And.intro (And.intro w13_3 w13_11) (And.intro w13_12 w13_10)) (And.intro (And.intro w13_2 w13_0) (And.intro q13_ret q13_normal)))
/-! function 14: (*sindri/sindriref04.P).Bytes -/
noncomputable def c14_0 : Code := bodyOf Try.f14
noncomputable def c14_1 : Code := cl c14_0
theorem w14_1 : awp X n c14_1 Q ((a0::a1::a2::a3::a4::a5::a6::a7::a8::a9::b0::b1::b2::b3::b4::b5::b6::b7::b8::b9::d0::d1::d2::d3::d4::[]), h) = (a_mov (.v (.slice none 0 0)) h (.c (fun t2 h1 => Q .normal ((a0::a1::t2::a3::a4::a5::a6::a7::a8::a9::b0::b1::b2::b3::b4::b5::b6::b7::b8::b9::d0::d1::d2::d3::d4::[]), h1)) ())) := by rw [awp_eq]; kernel_rfl
noncomputable def c14_2 : Code := cr c14_0
noncomputable def c14_3 : Code := cl c14_2
theorem w14_3 : awp X n c14_3 Q ((a0::a1::a2::a3::a4::a5::a6::a7::a8::a9::b0::b1::b2::b3::b4::b5::b6::b7::b8::b9::d0::d1::d2::d3::d4::[]), h) = (a_mov (.v (.slice none 0 0)) h (.c (fun t3 h1 => Q .normal ((a0::a1::a2::t3::a4::a5::a6::a7::a8::a9::b0::b1::b2::b3::b4::b5::b6::b7::b8::b9::d0::d1::d2::d3::d4::[]), h1)) ())) := by rw [awp_eq]; kernel_rfl
noncomputable def c14_4 : Code := cr c14_2
noncomputable def c14_5 : Code := cl c14_4
noncomputable def c14_6 : Code := cl c14_5
theorem w14_6 : awp X n c14_6 Q ((a0::a1::a2::a3::a4::a5::a6::a7::a8::a9::b0::b1::b2::b3::b4::b5::b6::b7::b8::b9::d0::d1::d2::d3::d4::[]), h) = (a_mov (.v (.int .i64 0)) h (.c (fun t4 h1 => Q .normal ((a0::a1::a2::a3::t4::a5::a6::a7::a8::a9::b0::b1::b2::b3::b4::b5::b6::b7::b8::b9::d0::d1::d2::d3::d4::[]), h1)) ())) := by rw [awp_eq]; kernel_rfl
noncomputable def c14_7 : Code := cr c14_5
noncomputable def c14_8 : Code := cl c14_7
noncomputable def c14_9 : Code := cl c14_8
noncomputable def c14_10 : Code := cl c14_9
noncomputable def c14_11 : Code := cl c14_10
theorem w14_11 : awp X n c14_11 Q ((a0::a1::a2::a3::a4::a5::a6::a7::a8::a9::b0::b1::b2::b3::b4::b5::b6::b7::b8::b9::d0::d1::d2::d3::d4::[]), h) = (a_mov a4 h (.c (fun t5 h1 => a_mov a0 h1 (.c (fun t6 h2 => a_nilc t6 h2 (.c (fun t7 h3 => a_fa 0 t7 h3 (.c (fun t8 h4 => a_load 1 false t8 h4 (.c (fun t9 h5 => a_len t9 h5 (.c (fun t10 h6 => a_bin .lss t5 t10 h6 (.c (fun t11 h7 => Q .normal ((a0::a1::a2::a3::a4::t5::t6::t7::t8::t9::t10::t11::b2::b3::b4::b5::b6::b7::b8::b9::d0::d1::d2::d3::d4::[]), h7)) ())) ())) ())) ())) ())) ())) ())) := by rw [awp_eq]; kernel_rfl
noncomputable def c14_12 : Code := cr c14_10
noncomputable def c14_13 : Code := cl c14_12
theorem w14_13 : awp X n c14_13 Q st = Q .normal st := by rw [awp_eq]; kernel_rfl
noncomputable def c14_14 : Code := cr c14_12
theorem w14_14 : awp X n c14_14 Q st = Q (.exit 0) st := by rw [awp_eq]; kernel_rfl
theorem w14_12 : awp X n c14_12 Q ((a0::a1::a2::a3::a4::a5::a6::a7::a8::a9::b0::b1::b2::b3::b4::b5::b6::b7::b8::b9::d0::d1::d2::d3::d4::[]), h) = a_cond b1 (awp X n c14_13 Q ((a0::a1::a2::a3::a4::a5::a6::a7::a8::a9::b0::b1::b2::b3::b4::b5::b6::b7::b8::b9::d0::d1::d2::d3::d4::[]), h)) (awp X n c14_14 Q ((a0::a1::a2::a3::a4::a5::a6::a7::a8::a9::b0::b1::b2::b3::b4::b5::b6::b7::b8::b9::d0::d1::d2::d3::d4::[]), h)) := by rw [awp_eq]; kernel_rfl
theorem w14_10 : awp X n c14_10 Q st = awp X n c14_11 (thenQ (awp X n c14_12 Q) Q) st := by rw [awp_eq]; kernel_rfl
noncomputable def c14_15 : Code := cr c14_9
noncomputable def c14_16 : Code := cl c14_15
noncomputable def c14_17 : Code := cl c14_16
theorem w14_17 : awp X n c14_17 Q ((a0::a1::a2::a3::a4::a5::a6::a7::a8::a9::b0::b1::b2::b3::b4::b5::b6::b7::b8::b9::d0::d1::d2::d3::d4::[]), h) = (a_mov a3 h (.c (fun t14 h1 => a_mov a0 h1 (.c (fun t15 h2 => a_nilc t15 h2 (.c (fun t16 h3 => a_fa 0 t16 h3 (.c (fun t17 h4 => a_load 1 false t17 h4 (.c (fun t18 h5 => a_mov a4 h5 (.c (fun t19 h6 => a_ia 1 t18 t19 h6 (.c (fun t20 h7 => a_load 1 false t20 h7 (.c (fun t21 h8 => ACall X 22 [t21] h8 (.c (fun t22 h9 => a_app 1 1 t14 t22 h9 (.c (fun t23 h10 => a_mov t23 h10 (.c (fun t3 h11 => Q .normal ((a0::a1::a2::t3::a4::a5::a6::a7::a8::a9::b0::b1::b2::b3::t14::t15::t16::t17::t18::t19::t20::t21::t22::t23::d4::[]), h11)) ())) ())) ())) ())) ())) ())) ())) ())) ())) ())) ())) := by rw [awp_eq]; kernel_rfl
theorem w14_16 : awp X n c14_16 Q st = awp X n c14_17 (blockQ 1 Q) st := by rw [awp_eq]; kernel_rfl
noncomputable def c14_18 : Code := cr c14_15
theorem w14_18 : awp X n c14_18 Q ((a0::a1::a2::a3::a4::a5::a6::a7::a8::a9::b0::b1::b2::b3::b4::b5::b6::b7::b8::b9::d0::d1::d2::d3::d4::[]), h) = (a_mov a4 h (.c (fun t12 h1 => a_bin .add t12 (.v (.int .i64 1)) h1 (.c (fun t13 h2 => a_mov t13 h2 (.c (fun t4 h3 => Q .normal ((a0::a1::a2::a3::t4::a5::a6::a7::a8::a9::b0::b1::t12::t13::b4::b5::b6::b7::b8::b9::d0::d1::d2::d3::d4::[]), h3)) ())) ())) ())) := by rw [awp_eq]; kernel_rfl
theorem w14_15 : awp X n c14_15 Q st = awp X n c14_16 (thenQ (awp X n c14_18 Q) Q) st := by rw [awp_eq]; kernel_rfl
theorem w14_9 : awp X n c14_9 Q st = awp X n c14_10 (thenQ (awp X n c14_15 Q) Q) st := by rw [awp_eq]; kernel_rfl
theorem w14_8 : awp X n c14_8 Q st = ALoop X n c14_9 Q st := by rw [awp_eq]; kernel_rfl
theorem w14_7 : awp X n c14_7 Q st = awp X n c14_8 (blockQ 0 Q) st := by rw [awp_eq]; kernel_rfl
theorem w14_5 : awp X n c14_5 Q st = awp X n c14_6 (thenQ (awp X n c14_7 Q) Q) st := by rw [awp_eq]; kernel_rfl
noncomputable def c14_19 : Code := cr c14_4
noncomputable def c14_20 : Code := cl c14_19
theorem w14_20 : awp X n c14_20 Q ((a0::a1::a2::a3::a4::a5::a6::a7::a8::a9::b0::b1::b2::b3::b4::b5::b6::b7::b8::b9::d0::d1::d2::d3::d4::[]), h) = (a_mov a3 h (.c (fun t24 h1 => a_mov t24 h1 (.c (fun t2 h2 => Q .normal ((a0::a1::t2::a3::a4::a5::a6::a7::a8::a9::b0::b1::b2::b3::b4::b5::b6::b7::b8::b9::d0::d1::d2::d3::t24::[]), h2)) ())) ())) := by rw [awp_eq]; kernel_rfl
noncomputable def c14_21 : Code := cr c14_19
theorem w14_21 : awp X n c14_21 Q st = Q .ret st := by rw [awp_eq]; kernel_rfl
theorem w14_19 : awp X n c14_19 Q st = awp X n c14_20 (thenQ (awp X n c14_21 Q) Q) st := by rw [awp_eq]; kernel_rfl
theorem w14_4 : awp X n c14_4 Q st = awp X n c14_5 (thenQ (awp X n c14_19 Q) Q) st := by rw [awp_eq]; kernel_rfl
theorem w14_2 : awp X n c14_2 Q st = awp X n c14_3 (thenQ (awp X n c14_4 Q) Q) st := by rw [awp_eq]; kernel_rfl
theorem w14_0 : awp X n c14_0 Q st = awp X n c14_1 (thenQ (awp X n c14_2 Q) Q) st := by rw [awp_eq]; kernel_rfl
theorem q14_ret : retQ X Try.f14 K .ret ((a0::a1::a2::a3::a4::a5::a6::a7::a8::a9::b0::b1::b2::b3::b4::b5::b6::b7::b8::b9::d0::d1::d2::d3::d4::[]), h) = (K.K a2 h) := by kernel_rfl
theorem q14_normal : retQ X Try.f14 K .normal ((a0::a1::a2::a3::a4::a5::a6::a7::a8::a9::b0::b1::b2::b3::b4::b5::b6::b7::b8::b9::d0::d1::d2::d3::d4::[]), h) = (K.K a2 h) := by kernel_rfl
theorem i14 (H : awp X h.length c14_0 (retQ X Try.f14 K) ((a0::.bad::.bad::.bad::.bad::.bad::.bad::.bad::.bad::.bad::.bad::.bad::.bad::.bad::.bad::.bad::.bad::.bad::.bad::.bad::.bad::.bad::.bad::.bad::.bad::[]), h)) : ACall X 14 [a0] h K := acall_intro (fn := Try.f14) (by kernel_rfl) (by kernel_rfl) (by kernel_rfl) H
noncomputable def R14 := And.intro (And.intro (And.intro (And.intro (w14_1) (And.intro w14_3 w14_6)) (And.intro (w14_11) (And.intro w14_13 w14_14))) (And.intro (And.intro (w14_12) (And.intro w14_10 w14_17)) (And.intro (w14_16) (And.intro w14_18 w14_15)))) (And.intro (And.intro (And.intro (w14_9) (And.intro w14_8 w14_7)) (And.intro (w14_5) (And.intro w14_20 w14_21))) (And.intro (And.intro (w14_19) (And.intro w14_4 w14_2)) (And.intro (w14_0) (And.intro q14_ret q14_normal))))
/-! function 15: (*sindri/pool.Pool).Count -/
noncomputable def c15_0 : Code := bodyOf Try.f15
noncomputable def c15_1 : Code := cl c15_0
theorem w15_1 : awp X n c15_1 Q ((a0::a1::a2::a3::a4::a5::a6::a7::a8::a9::[]), h) = (a_mov (.v (.int .i64 0)) h (.c (fun t2 h1 => Q .normal ((a0::a1::t2::a3::a4::a5::a6::a7::a8::a9::[]), h1)) ())) := by rw [awp_eq]; kernel_rfl
noncomputable def c15_2 : Code := cr c15_0
noncomputable def c15_3 : Code := cl c15_2
noncomputable def c15_4 : Code := cl c15_3
theorem w15_4 : awp X n c15_4 Q ((a0::a1::a2::a3::a4::a5::a6::a7::a8::a9::[]), h) = (a_mov a0 h (.c (fun t3 h1 => a_eqp false t3 (.v (.pointer none)) h1 (.c (fun t4 h2 => Q .normal ((a0::a1::a2::t3::t4::a5::a6::a7::a8::a9::[]), h2)) ())) ())) := by rw [awp_eq]; kernel_rfl
noncomputable def c15_5 : Code := cr c15_3
noncomputable def c15_6 : Code := cl c15_5
noncomputable def c15_7 : Code := cl c15_6
theorem w15_7 : awp X n c15_7 Q ((a0::a1::a2::a3::a4::a5::a6::a7::a8::a9::[]), h) = (a_mov (.v (.int .i64 0)) h (.c (fun t2 h1 => Q .normal ((a0::a1::t2::a3::a4::a5::a6::a7::a8::a9::[]), h1)) ())) := by rw [awp_eq]; kernel_rfl
noncomputable def c15_8 : Code := cr c15_6
theorem w15_8 : awp X n c15_8 Q st = Q .ret st := by rw [awp_eq]; kernel_rfl
theorem w15_6 : awp X n c15_6 Q st = awp X n c15_7 (thenQ (awp X n c15_8 Q) Q) st := by rw [awp_eq]; kernel_rfl
noncomputable def c15_9 : Code := cr c15_5
theorem w15_9 : awp X n c15_9 Q st = Q .normal st := by rw [awp_eq]; kernel_rfl
theorem w15_5 : awp X n c15_5 Q ((a0::a1::a2::a3::a4::a5::a6::a7::a8::a9::[]), h) = a_cond a4 (awp X n c15_6 Q ((a0::a1::a2::a3::a4::a5::a6::a7::a8::a9::[]), h)) (awp X n c15_9 Q ((a0::a1::a2::a3::a4::a5::a6::a7::a8::a9::[]), h)) := by rw [awp_eq]; kernel_rfl
theorem w15_3 : awp X n c15_3 Q st = awp X n c15_4 (thenQ (awp X n c15_5 Q) Q) st := by rw [awp_eq]; kernel_rfl
noncomputable def c15_10 : Code := cr c15_2
noncomputable def c15_11 : Code := cl c15_10
theorem w15_11 : awp X n c15_11 Q ((a0::a1::a2::a3::a4::a5::a6::a7::a8::a9::[]), h) = (a_mov a0 h (.c (fun t5 h1 => a_nilc t5 h1 (.c (fun t6 h2 => a_fa 0 t6 h2 (.c (fun t7 h3 => a_load 1 false t7 h3 (.c (fun t8 h4 => a_lenm t8 h4 (.c (fun t9 h5 => a_mov t9 h5 (.c (fun t2 h6 => Q .normal ((a0::a1::t2::a3::a4::t5::t6::t7::t8::t9::[]), h6)) ())) ())) ())) ())) ())) ())) := by rw [awp_eq]; kernel_rfl
noncomputable def c15_12 : Code := cr c15_10
theorem w15_12 : awp X n c15_12 Q st = Q .ret st := by rw [awp_eq]; kernel_rfl
theorem w15_10 : awp X n c15_10 Q st = awp X n c15_11 (thenQ (awp X n c15_12 Q) Q) st := by rw [awp_eq]; kernel_rfl
theorem w15_2 : awp X n c15_2 Q st = awp X n c15_3 (thenQ (awp X n c15_10 Q) Q) st := by rw [awp_eq]; kernel_rfl
theorem w15_0 : awp X n c15_0 Q st = awp X n c15_1 (thenQ (awp X n c15_2 Q) Q) st := by rw [awp_eq]; kernel_rfl
theorem q15_ret : retQ X Try.f15 K .ret ((a0::a1::a2::a3::a4::a5::a6::a7::a8::a9::[]), h) = (K.K a2 h) := by kernel_rfl
theorem q15_normal : retQ X Try.f15 K .normal ((a0::a1::a2::a3::a4::a5::a6::a7::a8::a9::[]), h) = (K.K a2 h) := by kernel_rfl
theorem i15 (H : awp X h.length c15_0 (retQ X Try.f15 K) ((a0::.bad::.bad::.bad::.bad::.bad::.bad::.bad::.bad::.bad::[]), h)) : ACall X 15 [a0] h K := acall_intro (fn := Try.f15) (by kernel_rfl) (by kernel_rfl) (by kernel_rfl) H
noncomputable def R15 := And.intro (And.intro (And.intro (w15_1) (And.intro w15_4 w15_7)) (And.intro (And.intro w15_8 w15_6) (And.intro w15_9 w15_5))) (And.intro (And.intro (And.intro w15_3 w15_11) (And.intro w15_12 w15_10)) (And.intro (And.intro w15_2 w15_0) (And.intro q15_ret q15_normal)))
/-! function 16: sindri/pool.Once -/
noncomputable def c16_0 : Code := bodyOf Try.f16
noncomputable def c16_1 : Code := cl c16_0
theorem w16_1 : awp X n c16_1 Q ((a0::a1::a2::a3::a4::a5::a6::a7::a8::a9::b0::b1::b2::b3::b4::b5::b6::b7::b8::b9::d0::d1::d2::d3::d4::d5::d6::d7::d8::d9::[]), h) = (a_mov (.v (.bool false)) h (.c (fun t2 h1 => a_mov (.v (.int .i64 0)) h1 (.c (fun t3 h2 => Q .normal ((a0::a1::t2::t3::a4::a5::a6::a7::a8::a9::b0::b1::b2::b3::b4::b5::b6::b7::b8::b9::d0::d1::d2::d3::d4::d5::d6::d7::d8::d9::[]), h2)) ())) ())) := by rw [awp_eq]; kernel_rfl
noncomputable def c16_2 : Code := cr c16_0
noncomputable def c16_3 : Code := cl c16_2
theorem w16_3 : awp X n c16_3 Q ((a0::a1::a2::a3::a4::a5::a6::a7::a8::a9::b0::b1::b2::b3::b4::b5::b6::b7::b8::b9::d0::d1::d2::d3::d4::d5::d6::d7::d8::d9::[]), h) = (a_mov a0 h (.c (fun t10 h1 => ACall X 23 [t10] h1 (.c (fun t11 h2 => a_mov t11 h2 (.c (fun t9 h3 => a_ext 0 t9 h3 (.c (fun t12 h4 => a_ext 1 t9 h4 (.c (fun t13 h5 => a_mov t12 h5 (.c (fun t4 h6 => a_mov t13 h6 (.c (fun t5 h7 => Q .normal ((a0::a1::a2::a3::t4::t5::a6::a7::a8::t9::t10::t11::t12::t13::b4::b5::b6::b7::b8::b9::d0::d1::d2::d3::d4::d5::d6::d7::d8::d9::[]), h7)) ())) ())) ())) ())) ())) ())) ())) := by rw [awp_eq]; kernel_rfl
noncomputable def c16_4 : Code := cr c16_2
noncomputable def c16_5 : Code := cl c16_4
noncomputable def c16_6 : Code := cl c16_5
theorem w16_6 : awp X n c16_6 Q ((a0::a1::a2::a3::a4::a5::a6::a7::a8::a9::b0::b1::b2::b3::b4::b5::b6::b7::b8::b9::d0::d1::d2::d3::d4::d5::d6::d7::d8::d9::[]), h) = (a_mov a5 h (.c (fun t14 h1 => a_bin .neq t14 (.v (.int .i64 0)) h1 (.c (fun t15 h2 => Q .normal ((a0::a1::a2::a3::a4::a5::a6::a7::a8::a9::b0::b1::b2::b3::t14::t15::b6::b7::b8::b9::d0::d1::d2::d3::d4::d5::d6::d7::d8::d9::[]), h2)) ())) ())) := by rw [awp_eq]; kernel_rfl
noncomputable def c16_7 : Code := cr c16_5
noncomputable def c16_8 : Code := cl c16_7
noncomputable def c16_9 : Code := cl c16_8
theorem w16_9 : awp X n c16_9 Q ((a0::a1::a2::a3::a4::a5::a6::a7::a8::a9::b0::b1::b2::b3::b4::b5::b6::b7::b8::b9::d0::d1::d2::d3::d4::d5::d6::d7::d8::d9::[]), h) = (a_mov a5 h (.c (fun t16 h1 => a_mov (.v (.bool false)) h1 (.c (fun t2 h2 => a_mov t16 h2 (.c (fun t3 h3 => Q .normal ((a0::a1::t2::t3::a4::a5::a6::a7::a8::a9::b0::b1::b2::b3::b4::b5::t16::b7::b8::b9::d0::d1::d2::d3::d4::d5::d6::d7::d8::d9::[]), h3)) ())) ())) ())) := by rw [awp_eq]; kernel_rfl
noncomputable def c16_10 : Code := cr c16_8
theorem w16_10 : awp X n c16_10 Q st = Q .ret st := by rw [awp_eq]; kernel_rfl
theorem w16_8 : awp X n c16_8 Q st = awp X n c16_9 (thenQ (awp X n c16_10 Q) Q) st := by rw [awp_eq]; kernel_rfl
noncomputable def c16_11 : Code := cr c16_7
theorem w16_11 : awp X n c16_11 Q st = Q .normal st := by rw [awp_eq]; kernel_rfl
theorem w16_7 : awp X n c16_7 Q ((a0::a1::a2::a3::a4::a5::a6::a7::a8::a9::b0::b1::b2::b3::b4::b5::b6::b7::b8::b9::d0::d1::d2::d3::d4::d5::d6::d7::d8::d9::[]), h) = a_cond b5 (awp X n c16_8 Q ((a0::a1::a2::a3::a4::a5::a6::a7::a8::a9::b0::b1::b2::b3::b4::b5::b6::b7::b8::b9::d0::d1::d2::d3::d4::d5::d6::d7::d8::d9::[]), h)) (awp X n c16_11 Q ((a0::a1::a2::a3::a4::a5::a6::a7::a8::a9::b0::b1::b2::b3::b4::b5::b6::b7::b8::b9::d0::d1::d2::d3::d4::d5::d6::d7::d8::d9::[]), h)) := by rw [awp_eq]; kernel_rfl
theorem w16_5 : awp X n c16_5 Q st = awp X n c16_6 (thenQ (awp X n c16_7 Q) Q) st := by rw [awp_eq]; kernel_rfl
noncomputable def c16_12 : Code := cr c16_4
noncomputable def c16_13 : Code := cl c16_12
theorem w16_13 : awp X n c16_13 Q ((a0::a1::a2::a3::a4::a5::a6::a7::a8::a9::b0::b1::b2::b3::b4::b5::b6::b7::b8::b9::d0::d1::d2::d3::d4::d5::d6::d7::d8::d9::[]), h) = (a_mkm h (.c (fun t17 h1 => a_mov t17 h1 (.c (fun t6 h2 => Q .normal ((a0::a1::a2::a3::a4::a5::t6::a7::a8::a9::b0::b1::b2::b3::b4::b5::b6::t17::b8::b9::d0::d1::d2::d3::d4::d5::d6::d7::d8::d9::[]), h2)) ())) ())) := by rw [awp_eq]; kernel_rfl
noncomputable def c16_14 : Code := cr c16_12
noncomputable def c16_15 : Code := cl c16_14
noncomputable def c16_16 : Code := cl c16_15
theorem w16_16 : awp X n c16_16 Q ((a0::a1::a2::a3::a4::a5::a6::a7::a8::a9::b0::b1::b2::b3::b4::b5::b6::b7::b8::b9::d0::d1::d2::d3::d4::d5::d6::d7::d8::d9::[]), h) = (a_mov a4 h (.c (fun t18 h1 => a_len t18 h1 (.c (fun t19 h2 => a_mov (.v (.int .i64 0)) h2 (.c (fun t20 h3 => Q .normal ((a0::a1::a2::a3::a4::a5::a6::a7::a8::a9::b0::b1::b2::b3::b4::b5::b6::b7::t18::t19::t20::d1::d2::d3::d4::d5::d6::d7::d8::d9::[]), h3)) ())) ())) ())) := by rw [awp_eq]; kernel_rfl
noncomputable def c16_17 : Code := cr c16_15
noncomputable def c16_18 : Code := cl c16_17
noncomputable def c16_19 : Code := cl c16_18
noncomputable def c16_20 : Code := cl c16_19
theorem w16_20 : awp X n c16_20 Q ((a0::a1::a2::a3::a4::a5::a6::a7::a8::a9::b0::b1::b2::b3::b4::b5::b6::b7::b8::b9::d0::d1::d2::d3::d4::d5::d6::d7::d8::d9::[]), h) = (a_bin .lss d0 b9 h (.c (fun t21 h1 => Q .normal ((a0::a1::a2::a3::a4::a5::a6::a7::a8::a9::b0::b1::b2::b3::b4::b5::b6::b7::b8::b9::d0::t21::d2::d3::d4::d5::d6::d7::d8::d9::[]), h1)) ())) := by rw [awp_eq]; kernel_rfl
noncomputable def c16_21 : Code := cr c16_19
noncomputable def c16_22 : Code := cl c16_21
noncomputable def c16_23 : Code := cl c16_22
theorem w16_23 : awp X n c16_23 Q st = Q .normal st := by rw [awp_eq]; kernel_rfl
noncomputable def c16_24 : Code := cr c16_22
theorem w16_24 : awp X n c16_24 Q st = Q (.exit 0) st := by rw [awp_eq]; kernel_rfl
theorem w16_22 : awp X n c16_22 Q ((a0::a1::a2::a3::a4::a5::a6::a7::a8::a9::b0::b1::b2::b3::b4::b5::b6::b7::b8::b9::d0::d1::d2::d3::d4::d5::d6::d7::d8::d9::[]), h) = a_cond d1 (awp X n c16_23 Q ((a0::a1::a2::a3::a4::a5::a6::a7::a8::a9::b0::b1::b2::b3::b4::b5::b6::b7::b8::b9::d0::d1::d2::d3::d4::d5::d6::d7::d8::d9::[]), h)) (awp X n c16_24 Q ((a0::a1::a2::a3::a4::a5::a6::a7::a8::a9::b0::b1::b2::b3::b4::b5::b6::b7::b8::b9::d0::d1::d2::d3::d4::d5::d6::d7::d8::d9::[]), h)) := by rw [awp_eq]; kernel_rfl
noncomputable def c16_25 : Code := cr c16_21
noncomputable def c16_26 : Code := cl c16_25
noncomputable def c16_27 : Code := cl c16_26
noncomputable def c16_28 : Code := cl c16_27
theorem w16_28 : awp X n c16_28 Q ((a0::a1::a2::a3::a4::a5::a6::a7::a8::a9::b0::b1::b2::b3::b4::b5::b6::b7::b8::b9::d0::d1::d2::d3::d4::d5::d6::d7::d8::d9::[]), h) = (a_ia 1 b8 d0 h (.c (fun t22 h1 => a_load 1 false t22 h1 (.c (fun t23 h2 => a_mov t23 h2 (.c (fun t8 h3 => Q .normal ((a0::a1::a2::a3::a4::a5::a6::a7::t8::a9::b0::b1::b2::b3::b4::b5::b6::b7::b8::b9::d0::d1::t22::t23::d4::d5::d6::d7::d8::d9::[]), h3)) ())) ())) ())) := by rw [awp_eq]; kernel_rfl
noncomputable def c16_29 : Code := cr c16_27
noncomputable def c16_30 : Code := cl c16_29
noncomputable def c16_31 : Code := cl c16_30
theorem w16_31 : awp X n c16_31 Q ((a0::a1::a2::a3::a4::a5::a6::a7::a8::a9::b0::b1::b2::b3::b4::b5::b6::b7::b8::b9::d0::d1::d2::d3::d4::d5::d6::d7::d8::d9::[]), h) = (a_mov a6 h (.c (fun t24 h1 => a_mov a8 h1 (.c (fun t25 h2 => a_lku true false (.v (.bool false)) t24 t25 h2 (.c (fun t26 h3 => Q .normal ((a0::a1::a2::a3::a4::a5::a6::a7::a8::a9::b0::b1::b2::b3::b4::b5::b6::b7::b8::b9::d0::d1::d2::d3::t24::t25::t26::d7::d8::d9::[]), h3)) ())) ())) ())) := by rw [awp_eq]; kernel_rfl
noncomputable def c16_32 : Code := cr c16_30
noncomputable def c16_33 : Code := cl c16_32
noncomputable def c16_34 : Code := cl c16_33
theorem w16_34 : awp X n c16_34 Q ((a0::a1::a2::a3::a4::a5::a6::a7::a8::a9::b0::b1::b2::b3::b4::b5::b6::b7::b8::b9::d0::d1::d2::d3::d4::d5::d6::d7::d8::d9::[]), h) = (a_mov (.v (.bool false)) h (.c (fun t2 h1 => a_mov (.v (.int .i64 0)) h1 (.c (fun t3 h2 => Q .normal ((a0::a1::t2::t3::a4::a5::a6::a7::a8::a9::b0::b1::b2::b3::b4::b5::b6::b7::b8::b9::d0::d1::d2::d3::d4::d5::d6::d7::d8::d9::[]), h2)) ())) ())) := by rw [awp_eq]; kernel_rfl
noncomputable def c16_35 : Code := cr c16_33
theorem w16_35 : awp X n c16_35 Q st = Q .ret st := by rw [awp_eq]; kernel_rfl
theorem w16_33 : awp X n c16_33 Q st = awp X n c16_34 (thenQ (awp X n c16_35 Q) Q) st := by rw [awp_eq]; kernel_rfl
noncomputable def c16_36 : Code := cr c16_32
theorem w16_36 : awp X n c16_36 Q st = Q .normal st := by rw [awp_eq]; kernel_rfl
theorem w16_32 : awp X n c16_32 Q ((a0::a1::a2::a3::a4::a5::a6::a7::a8::a9::b0::b1::b2::b3::b4::b5::b6::b7::b8::b9::d0::d1::d2::d3::d4::d5::d6::d7::d8::d9::[]), h) = a_cond d6 (awp X n c16_33 Q ((a0::a1::a2::a3::a4::a5::a6::a7::a8::a9::b0::b1::b2::b3::b4::b5::b6::b7::b8::b9::d0::d1::d2::d3::d4::d5::d6::d7::d8::d9::[]), h)) (awp X n c16_36 Q ((a0::a1::a2::a3::a4::a5::a6::a7::a8::a9::b0::b1::b2::b3::b4::b5::b6::b7::b8::b9::d0::d1::d2::d3::d4::d5::d6::d7::d8::d9::[]), h)) := by rw [awp_eq]; kernel_rfl
theorem w16_30 : awp X n c16_30 Q st = awp X n c16_31 (thenQ (awp X n c16_32 Q) Q) st := by rw [awp_eq]; kernel_rfl
noncomputable def c16_37 : Code := cr c16_29
theorem w16_37 : awp X n c16_37 Q ((a0::a1::a2::a3::a4::a5::a6::a7::a8::a9::b0::b1::b2::b3::b4::b5::b6::b7::b8::b9::d0::d1::d2::d3::d4::d5::d6::d7::d8::d9::[]), h) = (a_mov a6 h (.c (fun t27 h1 => a_mov a8 h1 (.c (fun t28 h2 => a_upd true t27 t28 (.v (.bool true)) h2 (.c (fun _v2 h3 => Q .normal ((a0::a1::a2::a3::a4::a5::a6::a7::a8::a9::b0::b1::b2::b3::b4::b5::b6::b7::b8::b9::d0::d1::d2::d3::d4::d5::d6::t27::t28::d9::[]), h3)) ())) ())) ())) := by rw [awp_eq]; kernel_rfl
theorem w16_29 : awp X n c16_29 Q st = awp X n c16_30 (thenQ (awp X n c16_37 Q) Q) st := by rw [awp_eq]; kernel_rfl
theorem w16_27 : awp X n c16_27 Q st = awp X n c16_28 (thenQ (awp X n c16_29 Q) Q) st := by rw [awp_eq]; kernel_rfl
theorem w16_26 : awp X n c16_26 Q st = awp X n c16_27 (blockQ 1 Q) st := by rw [awp_eq]; kernel_rfl
noncomputable def c16_38 : Code := cr c16_25
theorem w16_38 : awp X n c16_38 Q ((a0::a1::a2::a3::a4::a5::a6::a7::a8::a9::b0::b1::b2::b3::b4::b5::b6::b7::b8::b9::d0::d1::d2::d3::d4::d5::d6::d7::d8::d9::[]), h) = (a_bin .add d0 (.v (.int .i64 1)) h (.c (fun t29 h1 => a_mov t29 h1 (.c (fun t20 h2 => Q .normal ((a0::a1::a2::a3::a4::a5::a6::a7::a8::a9::b0::b1::b2::b3::b4::b5::b6::b7::b8::b9::t20::d1::d2::d3::d4::d5::d6::d7::d8::t29::[]), h2)) ())) ())) := by rw [awp_eq]; kernel_rfl
theorem w16_25 : awp X n c16_25 Q st = awp X n c16_26 (thenQ (awp X n c16_38 Q) Q) st := by rw [awp_eq]; kernel_rfl
theorem w16_21 : awp X n c16_21 Q st = awp X n c16_22 (thenQ (awp X n c16_25 Q) Q) st := by rw [awp_eq]; kernel_rfl
theorem w16_19 : awp X n c16_19 Q st = awp X n c16_20 (thenQ (awp X n c16_21 Q) Q) st := by rw [awp_eq]; kernel_rfl
theorem w16_18 : awp X n c16_18 Q st = ALoop X n c16_19 Q st := by rw [awp_eq]; kernel_rfl
theorem w16_17 : awp X n c16_17 Q st = awp X n c16_18 (blockQ 0 Q) st := by rw [awp_eq]; kernel_rfl
theorem w16_15 : awp X n c16_15 Q st = awp X n c16_16 (thenQ (awp X n c16_17 Q) Q) st := by rw [awp_eq]; kernel_rfl
noncomputable def c16_39 : Code := cr c16_14
noncomputable def c16_40 : Code := cl c16_39
theorem w16_40 : awp X n c16_40 Q ((a0::a1::a2::a3::a4::a5::a6::a7::a8::a9::b0::b1::b2::b3::b4::b5::b6::b7::b8::b9::d0::d1::d2::d3::d4::d5::d6::d7::d8::d9::[]), h) = (a_mov (.v (.bool true)) h (.c (fun t2 h1 => a_mov (.v (.int .i64 0)) h1 (.c (fun t3 h2 => Q .normal ((a0::a1::t2::t3::a4::a5::a6::a7::a8::a9::b0::b1::b2::b3::b4::b5::b6::b7::b8::b9::d0::d1::d2::d3::d4::d5::d6::d7::d8::d9::[]), h2)) ())) ())) := by rw [awp_eq]; kernel_rfl
noncomputable def c16_41 : Code := cr c16_39
theorem w16_41 : awp X n c16_41 Q st = Q .ret st := by rw [awp_eq]; kernel_rfl
theorem w16_39 : awp X n c16_39 Q st = awp X n c16_40 (thenQ (awp X n c16_41 Q) Q) st := by rw [awp_eq]; kernel_rfl
theorem w16_14 : awp X n c16_14 Q st = awp X n c16_15 (thenQ (awp X n c16_39 Q) Q) st := by rw [awp_eq]; kernel_rfl
theorem w16_12 : awp X n c16_12 Q st = awp X n c16_13 (thenQ (awp X n c16_14 Q) Q) st := by rw [awp_eq]; kernel_rfl
theorem w16_4 : awp X n c16_4 Q st = awp X n c16_5 (thenQ (awp X n c16_12 Q) Q) st := by rw [awp_eq]; kernel_rfl
theorem w16_2 : awp X n c16_2 Q st = awp X n c16_3 (thenQ (awp X n c16_4 Q) Q) st := by rw [awp_eq]; kernel_rfl
theorem w16_0 : awp X n c16_0 Q st = awp X n c16_1 (thenQ (awp X n c16_2 Q) Q) st := by rw [awp_eq]; kernel_rfl
theorem q16_ret : retQ X Try.f16 K .ret ((a0::a1::a2::a3::a4::a5::a6::a7::a8::a9::b0::b1::b2::b3::b4::b5::b6::b7::b8::b9::d0::d1::d2::d3::d4::d5::d6::d7::d8::d9::[]), h) = (K.K (.t [a2, a3]) h) := by kernel_rfl
theorem q16_normal : retQ X Try.f16 K .normal ((a0::a1::a2::a3::a4::a5::a6::a7::a8::a9::b0::b1::b2::b3::b4::b5::b6::b7::b8::b9::d0::d1::d2::d3::d4::d5::d6::d7::d8::d9::[]), h) = (K.K (.t [a2, a3]) h) := by kernel_rfl
theorem i16 (H : awp X h.length c16_0 (retQ X Try.f16 K) ((a0::.bad::.bad::.bad::.bad::.bad::.bad::.bad::.bad::.bad::.bad::.bad::.bad::.bad::.bad::.bad::.bad::.bad::.bad::.bad::.bad::.bad::.bad::.bad::.bad::.bad::.bad::.bad::.bad::.bad::[]), h)) : ACall X 16 [a0] h K := acall_intro (fn := Try.f16) (by kernel_rfl) (by kernel_rfl) (by kernel_rfl) H
noncomputable def R16 := And.intro (And.intro (And.intro (And.intro (And.intro w16_1 w16_3) (And.intro (w16_6) (And.intro w16_9 w16_10))) (And.intro (And.intro (w16_8) (And.intro w16_11 w16_7)) (And.intro (w16_5) (And.intro w16_13 w16_16)))) (And.intro (And.intro (And.intro w16_20 w16_23) (And.intro (w16_24) (And.intro w16_22 w16_28))) (And.intro (And.intro (w16_31) (And.intro w16_34 w16_35)) (And.intro (w16_33) (And.intro w16_36 w16_32))))) (And.intro (And.intro (And.intro (And.intro w16_30 w16_37) (And.intro (w16_29) (And.intro w16_27 w16_26))) (And.intro (And.intro (w16_38) (And.intro w16_25 w16_21)) (And.intro (w16_19) (And.intro w16_18 w16_17)))) (And.intro (And.intro (And.intro w16_15 w16_40) (And.intro (w16_41) (And.intro w16_39 w16_14))) (And.intro (And.intro (w16_12) (And.intro w16_4 w16_2)) (And.intro (w16_0) (And.intro q16_ret q16_normal)))))
/-! function 17: sindri/sindriref04.Once -/
noncomputable def c17_0 : Code := bodyOf Try.f17
noncomputable def c17_1 : Code := cl c17_0
theorem w17_1 : awp X n c17_1 Q ((a0::a1::a2::a3::a4::a5::a6::a7::a8::a9::b0::b1::b2::b3::b4::b5::b6::b7::b8::b9::d0::d1::d2::d3::d4::d5::d6::d7::d8::d9::e0::e1::e2::e3::e4::e5::[]), h) = (a_mov (.v (.bool false)) h (.c (fun t2 h1 => a_mov (.v (.int .i64 0)) h1 (.c (fun t3 h2 => Q .normal ((a0::a1::t2::t3::a4::a5::a6::a7::a8::a9::b0::b1::b2::b3::b4::b5::b6::b7::b8::b9::d0::d1::d2::d3::d4::d5::d6::d7::d8::d9::e0::e1::e2::e3::e4::e5::[]), h2)) ())) ())) := by rw [awp_eq]; kernel_rfl
noncomputable def c17_2 : Code := cr c17_0
noncomputable def c17_3 : Code := cl c17_2
theorem w17_3 : awp X n c17_3 Q ((a0::a1::a2::a3::a4::a5::a6::a7::a8::a9::b0::b1::b2::b3::b4::b5::b6::b7::b8::b9::d0::d1::d2::d3::d4::d5::d6::d7::d8::d9::e0::e1::e2::e3::e4::e5::[]), h) = (a_mov a0 h (.c (fun t9 h1 => ACall X 24 [t9] h1 (.c (fun t10 h2 => a_mov t10 h2 (.c (fun t8 h3 => a_ext 0 t8 h3 (.c (fun t11 h4 => a_ext 1 t8 h4 (.c (fun t12 h5 => a_mov t11 h5 (.c (fun t4 h6 => a_mov t12 h6 (.c (fun t5 h7 => Q .normal ((a0::a1::a2::a3::t4::t5::a6::a7::t8::t9::t10::t11::t12::b3::b4::b5::b6::b7::b8::b9::d0::d1::d2::d3::d4::d5::d6::d7::d8::d9::e0::e1::e2::e3::e4::e5::[]), h7)) ())) ())) ())) ())) ())) ())) ())) := by rw [awp_eq]; kernel_rfl
noncomputable def c17_4 : Code := cr c17_2
noncomputable def c17_5 : Code := cl c17_4
noncomputable def c17_6 : Code := cl c17_5
theorem w17_6 : awp X n c17_6 Q ((a0::a1::a2::a3::a4::a5::a6::a7::a8::a9::b0::b1::b2::b3::b4::b5::b6::b7::b8::b9::d0::d1::d2::d3::d4::d5::d6::d7::d8::d9::e0::e1::e2::e3::e4::e5::[]), h) = (a_mov a5 h (.c (fun t13 h1 => a_bin .neq t13 (.v (.int .i64 0)) h1 (.c (fun t14 h2 => Q .normal ((a0::a1::a2::a3::a4::a5::a6::a7::a8::a9::b0::b1::b2::t13::t14::b5::b6::b7::b8::b9::d0::d1::d2::d3::d4::d5::d6::d7::d8::d9::e0::e1::e2::e3::e4::e5::[]), h2)) ())) ())) := by rw [awp_eq]; kernel_rfl
noncomputable def c17_7 : Code := cr c17_5
noncomputable def c17_8 : Code := cl c17_7
noncomputable def c17_9 : Code := cl c17_8
theorem w17_9 : awp X n c17_9 Q ((a0::a1::a2::a3::a4::a5::a6::a7::a8::a9::b0::b1::b2::b3::b4::b5::b6::b7::b8::b9::d0::d1::d2::d3::d4::d5::d6::d7::d8::d9::e0::e1::e2::e3::e4::e5::[]), h) = (a_mov a5 h (.c (fun t15 h1 => a_mov (.v (.bool false)) h1 (.c (fun t2 h2 => a_mov t15 h2 (.c (fun t3 h3 => Q .normal ((a0::a1::t2::t3::a4::a5::a6::a7::a8::a9::b0::b1::b2::b3::b4::t15::b6::b7::b8::b9::d0::d1::d2::d3::d4::d5::d6::d7::d8::d9::e0::e1::e2::e3::e4::e5::[]), h3)) ())) ())) ())) := by rw [awp_eq]; kernel_rfl
noncomputable def c17_10 : Code := cr c17_8
theorem w17_10 : awp X n c17_10 Q st = Q .ret st := by rw [awp_eq]; kernel_rfl
theorem w17_8 : awp X n c17_8 Q st = awp X n c17_9 (thenQ (awp X n c17_10 Q) Q) st := by rw [awp_eq]; kernel_rfl
noncomputable def c17_11 : Code := cr c17_7
theorem w17_11 : awp X n c17_11 Q st = Q .normal st := by rw [awp_eq]; kernel_rfl
theorem w17_7 : awp X n c17_7 Q ((a0::a1::a2::a3::a4::a5::a6::a7::a8::a9::b0::b1::b2::b3::b4::b5::b6::b7::b8::b9::d0::d1::d2::d3::d4::d5::d6::d7::d8::d9::e0::e1::e2::e3::e4::e5::[]), h) = a_cond b4 (awp X n c17_8 Q ((a0::a1::a2::a3::a4::a5::a6::a7::a8::a9::b0::b1::b2::b3::b4::b5::b6::b7::b8::b9::d0::d1::d2::d3::d4::d5::d6::d7::d8::d9::e0::e1::e2::e3::e4::e5::[]), h)) (awp X n c17_11 Q ((a0::a1::a2::a3::a4::a5::a6::a7::a8::a9::b0::b1::b2::b3::b4::b5::b6::b7::b8::b9::d0::d1::d2::d3::d4::d5::d6::d7::d8::d9::e0::e1::e2::e3::e4::e5::[]), h)) := by rw [awp_eq]; kernel_rfl
theorem w17_5 : awp X n c17_5 Q st = awp X n c17_6 (thenQ (awp X n c17_7 Q) Q) st := by rw [awp_eq]; kernel_rfl
noncomputable def c17_12 : Code := cr c17_4
noncomputable def c17_13 : Code := cl c17_12
noncomputable def c17_14 : Code := cl c17_13
theorem w17_14 : awp X n c17_14 Q ((a0::a1::a2::a3::a4::a5::a6::a7::a8::a9::b0::b1::b2::b3::b4::b5::b6::b7::b8::b9::d0::d1::d2::d3::d4::d5::d6::d7::d8::d9::e0::e1::e2::e3::e4::e5::[]), h) = (a_mov (.v (.int .i64 0)) h (.c (fun t6 h1 => Q .normal ((a0::a1::a2::a3::a4::a5::t6::a7::a8::a9::b0::b1::b2::b3::b4::b5::b6::b7::b8::b9::d0::d1::d2::d3::d4::d5::d6::d7::d8::d9::e0::e1::e2::e3::e4::e5::[]), h1)) ())) := by rw [awp_eq]; kernel_rfl
noncomputable def c17_15 : Code := cr c17_13
noncomputable def c17_16 : Code := cl c17_15
noncomputable def c17_17 : Code := cl c17_16
noncomputable def c17_18 : Code := cl c17_17
noncomputable def c17_19 : Code := cl c17_18
theorem w17_19 : awp X n c17_19 Q ((a0::a1::a2::a3::a4::a5::a6::a7::a8::a9::b0::b1::b2::b3::b4::b5::b6::b7::b8::b9::d0::d1::d2::d3::d4::d5::d6::d7::d8::d9::e0::e1::e2::e3::e4::e5::[]), h) = (a_mov a6 h (.c (fun t16 h1 => a_mov a4 h1 (.c (fun t17 h2 => a_len t17 h2 (.c (fun t18 h3 => a_bin .lss t16 t18 h3 (.c (fun t19 h4 => Q .normal ((a0::a1::a2::a3::a4::a5::a6::a7::a8::a9::b0::b1::b2::b3::b4::b5::t16::t17::t18::t19::d0::d1::d2::d3::d4::d5::d6::d7::d8::d9::e0::e1::e2::e3::e4::e5::[]), h4)) ())) ())) ())) ())) := by rw [awp_eq]; kernel_rfl
noncomputable def c17_20 : Code := cr c17_18
noncomputable def c17_21 : Code := cl c17_20
theorem w17_21 : awp X n c17_21 Q st = Q .normal st := by rw [awp_eq]; kernel_rfl
noncomputable def c17_22 : Code := cr c17_20
theorem w17_22 : awp X n c17_22 Q st = Q (.exit 0) st := by rw [awp_eq]; kernel_rfl
theorem w17_20 : awp X n c17_20 Q ((a0::a1::a2::a3::a4::a5::a6::a7::a8::a9::b0::b1::b2::b3::b4::b5::b6::b7::b8::b9::d0::d1::d2::d3::d4::d5::d6::d7::d8::d9::e0::e1::e2::e3::e4::e5::[]), h) = a_cond b9 (awp X n c17_21 Q ((a0::a1::a2::a3::a4::a5::a6::a7::a8::a9::b0::b1::b2::b3::b4::b5::b6::b7::b8::b9::d0::d1::d2::d3::d4::d5::d6::d7::d8::d9::e0::e1::e2::e3::e4::e5::[]), h)) (awp X n c17_22 Q ((a0::a1::a2::a3::a4::a5::a6::a7::a8::a9::b0::b1::b2::b3::b4::b5::b6::b7::b8::b9::d0::d1::d2::d3::d4::d5::d6::d7::d8::d9::e0::e1::e2::e3::e4::e5::[]), h)) := by rw [awp_eq]; kernel_rfl
theorem w17_18 : awp X n c17_18 Q st = awp X n c17_19 (thenQ (awp X n c17_20 Q) Q) st := by rw [awp_eq]; kernel_rfl
noncomputable def c17_23 : Code := cr c17_17
noncomputable def c17_24 : Code := cl c17_23
noncomputable def c17_25 : Code := cl c17_24
noncomputable def c17_26 : Code := cl c17_25
theorem w17_26 : awp X n c17_26 Q ((a0::a1::a2::a3::a4::a5::a6::a7::a8::a9::b0::b1::b2::b3::b4::b5::b6::b7::b8::b9::d0::d1::d2::d3::d4::d5::d6::d7::d8::d9::e0::e1::e2::e3::e4::e5::[]), h) = (a_mov (.v (.int .i64 0)) h (.c (fun t7 h1 => Q .normal ((a0::a1::a2::a3::a4::a5::a6::t7::a8::a9::b0::b1::b2::b3::b4::b5::b6::b7::b8::b9::d0::d1::d2::d3::d4::d5::d6::d7::d8::d9::e0::e1::e2::e3::e4::e5::[]), h1)) ())) := by rw [awp_eq]; kernel_rfl
noncomputable def c17_27 : Code := cr c17_25
noncomputable def c17_28 : Code := cl c17_27
noncomputable def c17_29 : Code := cl c17_28
noncomputable def c17_30 : Code := cl c17_29
noncomputable def c17_31 : Code := cl c17_30
theorem w17_31 : awp X n c17_31 Q ((a0::a1::a2::a3::a4::a5::a6::a7::a8::a9::b0::b1::b2::b3::b4::b5::b6::b7::b8::b9::d0::d1::d2::d3::d4::d5::d6::d7::d8::d9::e0::e1::e2::e3::e4::e5::[]), h) = (a_mov a7 h (.c (fun t22 h1 => a_mov a6 h1 (.c (fun t23 h2 => a_bin .lss t22 t23 h2 (.c (fun t24 h3 => Q .normal ((a0::a1::a2::a3::a4::a5::a6::a7::a8::a9::b0::b1::b2::b3::b4::b5::b6::b7::b8::b9::d0::d1::t22::t23::t24::d5::d6::d7::d8::d9::e0::e1::e2::e3::e4::e5::[]), h3)) ())) ())) ())) := by rw [awp_eq]; kernel_rfl
noncomputable def c17_32 : Code := cr c17_30
noncomputable def c17_33 : Code := cl c17_32
theorem w17_33 : awp X n c17_33 Q st = Q .normal st := by rw [awp_eq]; kernel_rfl
noncomputable def c17_34 : Code := cr c17_32
theorem w17_34 : awp X n c17_34 Q st = Q (.exit 2) st := by rw [awp_eq]; kernel_rfl
theorem w17_32 : awp X n c17_32 Q ((a0::a1::a2::a3::a4::a5::a6::a7::a8::a9::b0::b1::b2::b3::b4::b5::b6::b7::b8::b9::d0::d1::d2::d3::d4::d5::d6::d7::d8::d9::e0::e1::e2::e3::e4::e5::[]), h) = a_cond d4 (awp X n c17_33 Q ((a0::a1::a2::a3::a4::a5::a6::a7::a8::a9::b0::b1::b2::b3::b4::b5::b6::b7::b8::b9::d0::d1::d2::d3::d4::d5::d6::d7::d8::d9::e0::e1::e2::e3::e4::e5::[]), h)) (awp X n c17_34 Q ((a0::a1::a2::a3::a4::a5::a6::a7::a8::a9::b0::b1::b2::b3::b4::b5::b6::b7::b8::b9::d0::d1::d2::d3::d4::d5::d6::d7::d8::d9::e0::e1::e2::e3::e4::e5::[]), h)) := by rw [awp_eq]; kernel_rfl
theorem w17_30 : awp X n c17_30 Q st = awp X n c17_31 (thenQ (awp X n c17_32 Q) Q) st := by rw [awp_eq]; kernel_rfl
noncomputable def c17_35 : Code := cr c17_29
noncomputable def c17_36 : Code := cl c17_35
noncomputable def c17_37 : Code := cl c17_36
noncomputable def c17_38 : Code := cl c17_37
theorem w17_38 : awp X n c17_38 Q ((a0::a1::a2::a3::a4::a5::a6::a7::a8::a9::b0::b1::b2::b3::b4::b5::b6::b7::b8::b9::d0::d1::d2::d3::d4::d5::d6::d7::d8::d9::e0::e1::e2::e3::e4::e5::[]), h) = (a_mov a4 h (.c (fun t27 h1 => a_mov a6 h1 (.c (fun t28 h2 => a_ia 1 t27 t28 h2 (.c (fun t29 h3 => a_load 1 false t29 h3 (.c (fun t30 h4 => a_mov a4 h4 (.c (fun t31 h5 => a_mov a7 h5 (.c (fun t32 h6 => a_ia 1 t31 t32 h6 (.c (fun t33 h7 => a_load 1 false t33 h7 (.c (fun t34 h8 => a_bins .eql t30 t34 h8 (.c (fun t35 h9 => Q .normal ((a0::a1::a2::a3::a4::a5::a6::a7::a8::a9::b0::b1::b2::b3::b4::b5::b6::b7::b8::b9::d0::d1::d2::d3::d4::d5::d6::t27::t28::t29::t30::t31::t32::t33::t34::t35::[]), h9)) ())) ())) ())) ())) ())) ())) ())) ())) ())) := by rw [awp_eq]; kernel_rfl
noncomputable def c17_39 : Code := cr c17_37
noncomputable def c17_40 : Code := cl c17_39
noncomputable def c17_41 : Code := cl c17_40
theorem w17_41 : awp X n c17_41 Q ((a0::a1::a2::a3::a4::a5::a6::a7::a8::a9::b0::b1::b2::b3::b4::b5::b6::b7::b8::b9::d0::d1::d2::d3::d4::d5::d6::d7::d8::d9::e0::e1::e2::e3::e4::e5::[]), h) = (a_mov (.v (.bool false)) h (.c (fun t2 h1 => a_mov (.v (.int .i64 0)) h1 (.c (fun t3 h2 => Q .normal ((a0::a1::t2::t3::a4::a5::a6::a7::a8::a9::b0::b1::b2::b3::b4::b5::b6::b7::b8::b9::d0::d1::d2::d3::d4::d5::d6::d7::d8::d9::e0::e1::e2::e3::e4::e5::[]), h2)) ())) ())) := by rw [awp_eq]; kernel_rfl
noncomputable def c17_42 : Code := cr c17_40
theorem w17_42 : awp X n c17_42 Q st = Q .ret st := by rw [awp_eq]; kernel_rfl
theorem w17_40 : awp X n c17_40 Q st = awp X n c17_41 (thenQ (awp X n c17_42 Q) Q) st := by rw [awp_eq]; kernel_rfl
noncomputable def c17_43 : Code := cr c17_39
theorem w17_43 : awp X n c17_43 Q st = Q .normal st := by rw [awp_eq]; kernel_rfl
theorem w17_39 : awp X n c17_39 Q ((a0::a1::a2::a3::a4::a5::a6::a7::a8::a9::b0::b1::b2::b3::b4::b5::b6::b7::b8::b9::d0::d1::d2::d3::d4::d5::d6::d7::d8::d9::e0::e1::e2::e3::e4::e5::[]), h) = a_cond e5 (awp X n c17_40 Q ((a0::a1::a2::a3::a4::a5::a6::a7::a8::a9::b0::b1::b2::b3::b4::b5::b6::b7::b8::b9::d0::d1::d2::d3::d4::d5::d6::d7::d8::d9::e0::e1::e2::e3::e4::e5::[]), h)) (awp X n c17_43 Q ((a0::a1::a2::a3::a4::a5::a6::a7::a8::a9::b0::b1::b2::b3::b4::b5::b6::b7::b8::b9::d0::d1::d2::d3::d4::d5::d6::d7::d8::d9::e0::e1::e2::e3::e4::e5::[]), h)) := by rw [awp_eq]; kernel_rfl
theorem w17_37 : awp X n c17_37 Q st = awp X n c17_38 (thenQ (awp X n c17_39 Q) Q) st := by rw [awp_eq]; kernel_rfl
theorem w17_36 : awp X n c17_36 Q st = awp X n c17_37 (blockQ 3 Q) st := by rw [awp_eq]; kernel_rfl
noncomputable def c17_44 : Code := cr c17_35
theorem w17_44 : awp X n c17_44 Q ((a0::a1::a2::a3::a4::a5::a6::a7::a8::a9::b0::b1::b2::b3::b4::b5::b6::b7::b8::b9::d0::d1::d2::d3::d4::d5::d6::d7::d8::d9::e0::e1::e2::e3::e4::e5::[]), h) = (a_mov a7 h (.c (fun t25 h1 => a_bin .add t25 (.v (.int .i64 1)) h1 (.c (fun t26 h2 => a_mov t26 h2 (.c (fun t7 h3 => Q .normal ((a0::a1::a2::a3::a4::a5::a6::t7::a8::a9::b0::b1::b2::b3::b4::b5::b6::b7::b8::b9::d0::d1::d2::d3::d4::t25::t26::d7::d8::d9::e0::e1::e2::e3::e4::e5::[]), h3)) ())) ())) ())) := by rw [awp_eq]; kernel_rfl
theorem w17_35 : awp X n c17_35 Q st = awp X n c17_36 (thenQ (awp X n c17_44 Q) Q) st := by rw [awp_eq]; kernel_rfl
theorem w17_29 : awp X n c17_29 Q st = awp X n c17_30 (thenQ (awp X n c17_35 Q) Q) st := by rw [awp_eq]; kernel_rfl
theorem w17_28 : awp X n c17_28 Q st = ALoop X n c17_29 Q st := by rw [awp_eq]; kernel_rfl
theorem w17_27 : awp X n c17_27 Q st = awp X n c17_28 (blockQ 2 Q) st := by rw [awp_eq]; kernel_rfl
theorem w17_25 : awp X n c17_25 Q st = awp X n c17_26 (thenQ (awp X n c17_27 Q) Q) st := by rw [awp_eq]; kernel_rfl
theorem w17_24 : awp X n c17_24 Q st = awp X n c17_25 (blockQ 1 Q) st := by rw [awp_eq]; kernel_rfl
noncomputable def c17_45 : Code := cr c17_23
theorem w17_45 : awp X n c17_45 Q ((a0::a1::a2::a3::a4::a5::a6::a7::a8::a9::b0::b1::b2::b3::b4::b5::b6::b7::b8::b9::d0::d1::d2::d3::d4::d5::d6::d7::d8::d9::e0::e1::e2::e3::e4::e5::[]), h) = (a_mov a6 h (.c (fun t20 h1 => a_bin .add t20 (.v (.int .i64 1)) h1 (.c (fun t21 h2 => a_mov t21 h2 (.c (fun t6 h3 => Q .normal ((a0::a1::a2::a3::a4::a5::t6::a7::a8::a9::b0::b1::b2::b3::b4::b5::b6::b7::b8::b9::t20::t21::d2::d3::d4::d5::d6::d7::d8::d9::e0::e1::e2::e3::e4::e5::[]), h3)) ())) ())) ())) := by rw [awp_eq]; kernel_rfl
theorem w17_23 : awp X n c17_23 Q st = awp X n c17_24 (thenQ (awp X n c17_45 Q) Q) st := by rw [awp_eq]; kernel_rfl
theorem w17_17 : awp X n c17_17 Q st = awp X n c17_18 (thenQ (awp X n c17_23 Q) Q) st := by rw [awp_eq]; kernel_rfl
theorem w17_16 : awp X n c17_16 Q st = ALoop X n c17_17 Q st := by rw [awp_eq]; kernel_rfl
theorem w17_15 : awp X n c17_15 Q st = awp X n c17_16 (blockQ 0 Q) st := by rw [awp_eq]; kernel_rfl
theorem w17_13 : awp X n c17_13 Q st = awp X n c17_14 (thenQ (awp X n c17_15 Q) Q) st := by rw [awp_eq]; kernel_rfl
noncomputable def c17_46 : Code := cr c17_12
noncomputable def c17_47 : Code := cl c17_46
theorem w17_47 : awp X n c17_47 Q ((a0::a1::a2::a3::a4::a5::a6::a7::a8::a9::b0::b1::b2::b3::b4::b5::b6::b7::b8::b9::d0::d1::d2::d3::d4::d5::d6::d7::d8::d9::e0::e1::e2::e3::e4::e5::[]), h) = (a_mov (.v (.bool true)) h (.c (fun t2 h1 => a_mov (.v (.int .i64 0)) h1 (.c (fun t3 h2 => Q .normal ((a0::a1::t2::t3::a4::a5::a6::a7::a8::a9::b0::b1::b2::b3::b4::b5::b6::b7::b8::b9::d0::d1::d2::d3::d4::d5::d6::d7::d8::d9::e0::e1::e2::e3::e4::e5::[]), h2)) ())) ())) := by rw [awp_eq]; kernel_rfl
noncomputable def c17_48 : Code := cr c17_46
theorem w17_48 : awp X n c17_48 Q st = Q .ret st := by rw [awp_eq]; kernel_rfl
theorem w17_46 : awp X n c17_46 Q st = awp X n c17_47 (thenQ (awp X n c17_48 Q) Q) st := by rw [awp_eq]; kernel_rfl
theorem w17_12 : awp X n c17_12 Q st = awp X n c17_13 (thenQ (awp X n c17_46 Q) Q) st := by rw [awp_eq]; kernel_rfl
theorem w17_4 : awp X n c17_4 Q st = awp X n c17_5 (thenQ (awp X n c17_12 Q) Q) st := by rw [awp_eq]; kernel_rfl
theorem w17_2 : awp X n c17_2 Q st = awp X n c17_3 (thenQ (awp X n c17_4 Q) Q) st := by rw [awp_eq]; kernel_rfl
theorem w17_0 : awp X n c17_0 Q st = awp X n c17_1 (thenQ (awp X n c17_2 Q) Q) st := by rw [awp_eq]; kernel_rfl
theorem q17_ret : retQ X Try.f17 K .ret ((a0::a1::a2::a3::a4::a5::a6::a7::a8::a9::b0::b1::b2::b3::b4::b5::b6::b7::b8::b9::d0::d1::d2::d3::d4::d5::d6::d7::d8::d9::e0::e1::e2::e3::e4::e5::[]), h) = (K.K (.t [a2, a3]) h) := by kernel_rfl
theorem q17_normal : retQ X Try.f17 K .normal ((a0::a1::a2::a3::a4::a5::a6::a7::a8::a9::b0::b1::b2::b3::b4::b5::b6::b7::b8::b9::d0::d1::d2::d3::d4::d5::d6::d7::d8::d9::e0::e1::e2::e3::e4::e5::[]), h) = (K.K (.t [a2, a3]) h) := by kernel_rfl
theorem i17 (H : awp X h.length c17_0 (retQ X Try.f17 K) ((a0::.bad::.bad::.bad::.bad::.bad::.bad::.bad::.bad::.bad::.bad::.bad::.bad::.bad::.bad::.bad::.bad::.bad::.bad::.bad::.bad::.bad::.bad::.bad::.bad::.bad::.bad::.bad::.bad::.bad::.bad::.bad::.bad::.bad::.bad::.bad::[]), h)) : ACall X 17 [a0] h K := acall_intro (fn := Try.f17) (by kernel_rfl) (by kernel_rfl) (by kernel_rfl) H
noncomputable def R17 := And.intro (And.intro (And.intro (And.intro (And.intro (w17_1) (And.intro w17_3 w17_6)) (And.intro (w17_9) (And.intro w17_10 w17_8))) (And.intro (And.intro (w17_11) (And.intro w17_7 w17_5)) (And.intro (w17_14) (And.intro w17_19 w17_21)))) (And.intro (And.intro (And.intro (w17_22) (And.intro w17_20 w17_18)) (And.intro (w17_26) (And.intro w17_31 w17_33))) (And.intro (And.intro (w17_34) (And.intro w17_32 w17_30)) (And.intro (And.intro w17_38 w17_41) (And.intro w17_42 w17_40))))) (And.intro (And.intro (And.intro (And.intro (w17_43) (And.intro w17_39 w17_37)) (And.intro (w17_36) (And.intro w17_44 w17_35))) (And.intro (And.intro (w17_29) (And.intro w17_28 w17_27)) (And.intro (And.intro w17_25 w17_24) (And.intro w17_45 w17_23)))) (And.intro (And.intro (And.intro (w17_17) (And.intro w17_16 w17_15)) (And.intro (w17_13) (And.intro w17_47 w17_48))) (And.intro (And.intro (w17_46) (And.intro w17_12 w17_4)) (And.intro (And.intro w17_2 w17_0) (And.intro q17_ret q17_normal)))))
end Go.Proofs.Ytgpddpdhkhfdjaa
