import Derived.Test.YtaejegndbaahnaaEnv
set_option linter.unusedVariables false
set_option linter.defProp false
set_option maxRecDepth 100000
namespace Go.Proofs.Ytaejegndbaahnaa
open Go.Ab
variable (n : Nat) (h : Heap) (Q : Qt) (st : St) (K : Kt) (a0 a1 a2 a3 a4 a5 a6 a7 a8 a9 b0 b1 b2 b3 b4 b5 b6 b7 b8 b9 d0 d1 d2 d3 d4 d5 d6 d7 d8 d9 e0 e1 e2 e3 e4 e5 e6 e7 e8 e9 f0 f1 f2 f3 f4 f5 f6 f7 f8 f9 g0 g1 g2 g3 g4 g5 g6 g7 g8 g9 j0 j1 j2 j3 j4 j5 j6 j7 j8 j9 k0 k1 k2 k3 k4 : AV)
/-! function 25: sindri/lineput.Sequences -/
noncomputable def c25_0 : Code := bodyOf Try.f25
noncomputable def c25_1 : Code := cl c25_0
theorem w25_1 : awp X n c25_1 Q ((a0::a1::a2::a3::a4::a5::a6::a7::a8::a9::b0::b1::b2::b3::b4::b5::b6::b7::b8::b9::d0::d1::d2::d3::d4::d5::d6::d7::d8::d9::e0::e1::e2::e3::e4::e5::e6::[]), h) = (a_mov (.v (.slice none 0 0)) h (.c (fun t2 h1 => Q .normal ((a0::a1::t2::a3::a4::a5::a6::a7::a8::a9::b0::b1::b2::b3::b4::b5::b6::b7::b8::b9::d0::d1::d2::d3::d4::d5::d6::d7::d8::d9::e0::e1::e2::e3::e4::e5::e6::[]), h1)) ())) := by rw [awp_eq]; kernel_rfl
noncomputable def c25_2 : Code := cr c25_0
noncomputable def c25_3 : Code := cl c25_2
theorem w25_3 : awp X n c25_3 Q ((a0::a1::a2::a3::a4::a5::a6::a7::a8::a9::b0::b1::b2::b3::b4::b5::b6::b7::b8::b9::d0::d1::d2::d3::d4::d5::d6::d7::d8::d9::e0::e1::e2::e3::e4::e5::e6::[]), h) = (a_mov (.v (.slice none 0 0)) h (.c (fun t3 h1 => Q .normal ((a0::a1::a2::t3::a4::a5::a6::a7::a8::a9::b0::b1::b2::b3::b4::b5::b6::b7::b8::b9::d0::d1::d2::d3::d4::d5::d6::d7::d8::d9::e0::e1::e2::e3::e4::e5::e6::[]), h1)) ())) := by rw [awp_eq]; kernel_rfl
noncomputable def c25_4 : Code := cr c25_2
noncomputable def c25_5 : Code := cl c25_4
theorem w25_5 : awp X n c25_5 Q ((a0::a1::a2::a3::a4::a5::a6::a7::a8::a9::b0::b1::b2::b3::b4::b5::b6::b7::b8::b9::d0::d1::d2::d3::d4::d5::d6::d7::d8::d9::e0::e1::e2::e3::e4::e5::e6::[]), h) = (a_mov (.v (.int .i64 0)) h (.c (fun t4 h1 => Q .normal ((a0::a1::a2::a3::t4::a5::a6::a7::a8::a9::b0::b1::b2::b3::b4::b5::b6::b7::b8::b9::d0::d1::d2::d3::d4::d5::d6::d7::d8::d9::e0::e1::e2::e3::e4::e5::e6::[]), h1)) ())) := by rw [awp_eq]; kernel_rfl
noncomputable def c25_6 : Code := cr c25_4
noncomputable def c25_7 : Code := cl c25_6
noncomputable def c25_8 : Code := cl c25_7
theorem w25_8 : awp X n c25_8 Q ((a0::a1::a2::a3::a4::a5::a6::a7::a8::a9::b0::b1::b2::b3::b4::b5::b6::b7::b8::b9::d0::d1::d2::d3::d4::d5::d6::d7::d8::d9::e0::e1::e2::e3::e4::e5::e6::[]), h) = (a_mov a0 h (.c (fun t7 h1 => a_len t7 h1 (.c (fun t8 h2 => a_mov (.v (.int .i64 0)) h2 (.c (fun t9 h3 => Q .normal ((a0::a1::a2::a3::a4::a5::a6::t7::t8::t9::b0::b1::b2::b3::b4::b5::b6::b7::b8::b9::d0::d1::d2::d3::d4::d5::d6::d7::d8::d9::e0::e1::e2::e3::e4::e5::e6::[]), h3)) ())) ())) ())) := by rw [awp_eq]; kernel_rfl
noncomputable def c25_9 : Code := cr c25_7
noncomputable def c25_10 : Code := cl c25_9
noncomputable def c25_11 : Code := cl c25_10
noncomputable def c25_12 : Code := cl c25_11
theorem w25_12 : awp X n c25_12 Q ((a0::a1::a2::a3::a4::a5::a6::a7::a8::a9::b0::b1::b2::b3::b4::b5::b6::b7::b8::b9::d0::d1::d2::d3::d4::d5::d6::d7::d8::d9::e0::e1::e2::e3::e4::e5::e6::[]), h) = (a_bin .lss a9 a8 h (.c (fun t10 h1 => Q .normal ((a0::a1::a2::a3::a4::a5::a6::a7::a8::a9::t10::b1::b2::b3::b4::b5::b6::b7::b8::b9::d0::d1::d2::d3::d4::d5::d6::d7::d8::d9::e0::e1::e2::e3::e4::e5::e6::[]), h1)) ())) := by rw [awp_eq]; kernel_rfl
noncomputable def c25_13 : Code := cr c25_11
noncomputable def c25_14 : Code := cl c25_13
noncomputable def c25_15 : Code := cl c25_14
theorem w25_15 : awp X n c25_15 Q st = Q .normal st := by rw [awp_eq]; kernel_rfl
noncomputable def c25_16 : Code := cr c25_14
theorem w25_16 : awp X n c25_16 Q st = Q (.exit 0) st := by rw [awp_eq]; kernel_rfl
theorem w25_14 : awp X n c25_14 Q ((a0::a1::a2::a3::a4::a5::a6::a7::a8::a9::b0::b1::b2::b3::b4::b5::b6::b7::b8::b9::d0::d1::d2::d3::d4::d5::d6::d7::d8::d9::e0::e1::e2::e3::e4::e5::e6::[]), h) = a_cond b0 (awp X n c25_15 Q ((a0::a1::a2::a3::a4::a5::a6::a7::a8::a9::b0::b1::b2::b3::b4::b5::b6::b7::b8::b9::d0::d1::d2::d3::d4::d5::d6::d7::d8::d9::e0::e1::e2::e3::e4::e5::e6::[]), h)) (awp X n c25_16 Q ((a0::a1::a2::a3::a4::a5::a6::a7::a8::a9::b0::b1::b2::b3::b4::b5::b6::b7::b8::b9::d0::d1::d2::d3::d4::d5::d6::d7::d8::d9::e0::e1::e2::e3::e4::e5::e6::[]), h)) := by rw [awp_eq]; kernel_rfl
noncomputable def c25_17 : Code := cr c25_13
noncomputable def c25_18 : Code := cl c25_17
noncomputable def c25_19 : Code := cl c25_18
noncomputable def c25_20 : Code := cl c25_19
theorem w25_20 : awp X n c25_20 Q ((a0::a1::a2::a3::a4::a5::a6::a7::a8::a9::b0::b1::b2::b3::b4::b5::b6::b7::b8::b9::d0::d1::d2::d3::d4::d5::d6::d7::d8::d9::e0::e1::e2::e3::e4::e5::e6::[]), h) = (a_mov a9 h (.c (fun t11 h1 => a_ia 11 a7 a9 h1 (.c (fun t12 h2 => a_load 11 true t12 h2 (.c (fun t13 h3 => a_alloc [.v (.int .u64 0), .v (.int .i64 0), .v (.int .i64 0), .v (.int .i64 0), .v (.bool false), .v (.bool false), .v (.bool false), .v (.bool false), .v (.bool false), .v (.int .u64 0), .v (.int .u64 0)] h3 (.c (fun t6 h4 => a_mov t11 h4 (.c (fun t5 h5 => a_store 11 t6 t13 h5 (.c (fun _v5 h6 => Q .normal ((a0::a1::a2::a3::a4::t5::t6::a7::a8::a9::b0::t11::t12::t13::b4::b5::b6::b7::b8::b9::d0::d1::d2::d3::d4::d5::d6::d7::d8::d9::e0::e1::e2::e3::e4::e5::e6::[]), h6)) ())) ())) ())) ())) ())) ())) := by rw [awp_eq]; kernel_rfl
noncomputable def c25_21 : Code := cr c25_19
noncomputable def c25_22 : Code := cl c25_21
theorem w25_22 : awp X n c25_22 Q ((a0::a1::a2::a3::a4::a5::a6::a7::a8::a9::b0::b1::b2::b3::b4::b5::b6::b7::b8::b9::d0::d1::d2::d3::d4::d5::d6::d7::d8::d9::e0::e1::e2::e3::e4::e5::e6::[]), h) = (a_fa 8 a6 h (.c (fun t14 h1 => a_load 1 false t14 h1 (.c (fun t15 h2 => a_mov t15 h2 (.c (fun t16 h3 => a_on t16 false (fun k => a_mov a5 h3 k) h3 (.c (fun t17 h4 => a_on t16 false (fun k => a_bin .add t17 (.v (.int .i64 1)) h4 k) h4 (.c (fun t18 h5 => a_on t16 false (fun k => a_mov a0 h5 k) h5 (.c (fun t19 h6 => a_on t16 false (fun k => a_len t19 h6 k) h6 (.c (fun t20 h7 => a_on t16 false (fun k => a_bin .eql t18 t20 h7 k) h7 (.c (fun t21 h8 => a_pick t16 (.v (.bool true)) t21 h8 (.c (fun t22 h9 => Q .normal ((a0::a1::a2::a3::a4::a5::a6::a7::a8::a9::b0::b1::b2::b3::t14::t15::t16::t17::t18::t19::t20::t21::t22::d3::d4::d5::d6::d7::d8::d9::e0::e1::e2::e3::e4::e5::e6::[]), h9)) ())) ())) ())) ())) ())) ())) ())) ())) ())) := by rw [awp_eq]; kernel_rfl
noncomputable def c25_23 : Code := cr c25_21
noncomputable def c25_24 : Code := cl c25_23
noncomputable def c25_25 : Code := cl c25_24
theorem w25_25 : awp X n c25_25 Q ((a0::a1::a2::a3::a4::a5::a6::a7::a8::a9::b0::b1::b2::b3::b4::b5::b6::b7::b8::b9::d0::d1::d2::d3::d4::d5::d6::d7::d8::d9::e0::e1::e2::e3::e4::e5::e6::[]), h) = (a_mov a3 h (.c (fun t23 h1 => a_lit 11 0 [] [] h1 (.c (fun t24 h2 => a_mov a0 h2 (.c (fun t25 h3 => a_mov a4 h3 (.c (fun t26 h4 => a_mov a5 h4 (.c (fun t27 h5 => a_bin .add t27 (.v (.int .i64 1)) h5 (.c (fun t28 h6 => a_slice 11 t25 (some t26) (some t28) none h6 (.c (fun t29 h7 => a_app 11 56 t24 t29 h7 (.c (fun t30 h8 => a_lit 1 1 [.v (.slice none 0 0)] [(0, 1, t30)] h8 (.c (fun t31 h9 => a_app 1 24 t23 t31 h9 (.c (fun t32 h10 => a_mov t32 h10 (.c (fun t3 h11 => Q .normal ((a0::a1::a2::t3::a4::a5::a6::a7::a8::a9::b0::b1::b2::b3::b4::b5::b6::b7::b8::b9::d0::d1::d2::t23::t24::t25::t26::t27::t28::t29::t30::t31::t32::e3::e4::e5::e6::[]), h11)) ())) ())) ())) ())) ())) ())) ())) ())) ())) ())) ())) := by rw [awp_eq]; kernel_rfl
noncomputable def c25_26 : Code := cr c25_24
theorem w25_26 : awp X n c25_26 Q ((a0::a1::a2::a3::a4::a5::a6::a7::a8::a9::b0::b1::b2::b3::b4::b5::b6::b7::b8::b9::d0::d1::d2::d3::d4::d5::d6::d7::d8::d9::e0::e1::e2::e3::e4::e5::e6::[]), h) = (a_mov a5 h (.c (fun t33 h1 => a_bin .add t33 (.v (.int .i64 1)) h1 (.c (fun t34 h2 => a_mov t34 h2 (.c (fun t4 h3 => Q .normal ((a0::a1::a2::a3::t4::a5::a6::a7::a8::a9::b0::b1::b2::b3::b4::b5::b6::b7::b8::b9::d0::d1::d2::d3::d4::d5::d6::d7::d8::d9::e0::e1::e2::t33::t34::e5::e6::[]), h3)) ())) ())) ())) := by rw [awp_eq]; kernel_rfl
theorem w25_24 : awp X n c25_24 Q st = awp X n c25_25 (thenQ (awp X n c25_26 Q) Q) st := by rw [awp_eq]; kernel_rfl
noncomputable def c25_27 : Code := cr c25_23
theorem w25_27 : awp X n c25_27 Q st = Q .normal st := by rw [awp_eq]; kernel_rfl
theorem w25_23 : awp X n c25_23 Q ((a0::a1::a2::a3::a4::a5::a6::a7::a8::a9::b0::b1::b2::b3::b4::b5::b6::b7::b8::b9::d0::d1::d2::d3::d4::d5::d6::d7::d8::d9::e0::e1::e2::e3::e4::e5::e6::[]), h) = a_cond d2 (awp X n c25_24 Q ((a0::a1::a2::a3::a4::a5::a6::a7::a8::a9::b0::b1::b2::b3::b4::b5::b6::b7::b8::b9::d0::d1::d2::d3::d4::d5::d6::d7::d8::d9::e0::e1::e2::e3::e4::e5::e6::[]), h)) (awp X n c25_27 Q ((a0::a1::a2::a3::a4::a5::a6::a7::a8::a9::b0::b1::b2::b3::b4::b5::b6::b7::b8::b9::d0::d1::d2::d3::d4::d5::d6::d7::d8::d9::e0::e1::e2::e3::e4::e5::e6::[]), h)) := by rw [awp_eq]; kernel_rfl
theorem w25_21 : awp X n c25_21 Q st = awp X n c25_22 (thenQ (awp X n c25_23 Q) Q) st := by rw [awp_eq]; kernel_rfl
theorem w25_19 : awp X n c25_19 Q st = awp X n c25_20 (thenQ (awp X n c25_21 Q) Q) st := by rw [awp_eq]; kernel_rfl
theorem w25_18 : awp X n c25_18 Q st = awp X n c25_19 (blockQ 1 Q) st := by rw [awp_eq]; kernel_rfl
noncomputable def c25_28 : Code := cr c25_17
theorem w25_28 : awp X n c25_28 Q ((a0::a1::a2::a3::a4::a5::a6::a7::a8::a9::b0::b1::b2::b3::b4::b5::b6::b7::b8::b9::d0::d1::d2::d3::d4::d5::d6::d7::d8::d9::e0::e1::e2::e3::e4::e5::e6::[]), h) = (a_bin .add a9 (.v (.int .i64 1)) h (.c (fun t35 h1 => a_mov t35 h1 (.c (fun t9 h2 => Q .normal ((a0::a1::a2::a3::a4::a5::a6::a7::a8::t9::b0::b1::b2::b3::b4::b5::b6::b7::b8::b9::d0::d1::d2::d3::d4::d5::d6::d7::d8::d9::e0::e1::e2::e3::e4::t35::e6::[]), h2)) ())) ())) := by rw [awp_eq]; kernel_rfl
theorem w25_17 : awp X n c25_17 Q st = awp X n c25_18 (thenQ (awp X n c25_28 Q) Q) st := by rw [awp_eq]; kernel_rfl
theorem w25_13 : awp X n c25_13 Q st = awp X n c25_14 (thenQ (awp X n c25_17 Q) Q) st := by rw [awp_eq]; kernel_rfl
theorem w25_11 : awp X n c25_11 Q st = awp X n c25_12 (thenQ (awp X n c25_13 Q) Q) st := by rw [awp_eq]; kernel_rfl
theorem w25_10 : awp X n c25_10 Q st = ALoop X n c25_11 Q st := by rw [awp_eq]; kernel_rfl
theorem w25_9 : awp X n c25_9 Q st = awp X n c25_10 (blockQ 0 Q) st := by rw [awp_eq]; kernel_rfl
theorem w25_7 : awp X n c25_7 Q st = awp X n c25_8 (thenQ (awp X n c25_9 Q) Q) st := by rw [awp_eq]; kernel_rfl
noncomputable def c25_29 : Code := cr c25_6
noncomputable def c25_30 : Code := cl c25_29
theorem w25_30 : awp X n c25_30 Q ((a0::a1::a2::a3::a4::a5::a6::a7::a8::a9::b0::b1::b2::b3::b4::b5::b6::b7::b8::b9::d0::d1::d2::d3::d4::d5::d6::d7::d8::d9::e0::e1::e2::e3::e4::e5::e6::[]), h) = (a_mov a3 h (.c (fun t36 h1 => a_mov t36 h1 (.c (fun t2 h2 => Q .normal ((a0::a1::t2::a3::a4::a5::a6::a7::a8::a9::b0::b1::b2::b3::b4::b5::b6::b7::b8::b9::d0::d1::d2::d3::d4::d5::d6::d7::d8::d9::e0::e1::e2::e3::e4::e5::t36::[]), h2)) ())) ())) := by rw [awp_eq]; kernel_rfl
noncomputable def c25_31 : Code := cr c25_29
theorem w25_31 : awp X n c25_31 Q st = Q .ret st := by rw [awp_eq]; kernel_rfl
theorem w25_29 : awp X n c25_29 Q st = awp X n c25_30 (thenQ (awp X n c25_31 Q) Q) st := by rw [awp_eq]; kernel_rfl
theorem w25_6 : awp X n c25_6 Q st = awp X n c25_7 (thenQ (awp X n c25_29 Q) Q) st := by rw [awp_eq]; kernel_rfl
theorem w25_4 : awp X n c25_4 Q st = awp X n c25_5 (thenQ (awp X n c25_6 Q) Q) st := by rw [awp_eq]; kernel_rfl
theorem w25_2 : awp X n c25_2 Q st = awp X n c25_3 (thenQ (awp X n c25_4 Q) Q) st := by rw [awp_eq]; kernel_rfl
theorem w25_0 : awp X n c25_0 Q st = awp X n c25_1 (thenQ (awp X n c25_2 Q) Q) st := by rw [awp_eq]; kernel_rfl
theorem q25_ret : retQ X Try.f25 K .ret ((a0::a1::a2::a3::a4::a5::a6::a7::a8::a9::b0::b1::b2::b3::b4::b5::b6::b7::b8::b9::d0::d1::d2::d3::d4::d5::d6::d7::d8::d9::e0::e1::e2::e3::e4::e5::e6::[]), h) = (K.K a2 h) := by kernel_rfl
theorem q25_normal : retQ X Try.f25 K .normal ((a0::a1::a2::a3::a4::a5::a6::a7::a8::a9::b0::b1::b2::b3::b4::b5::b6::b7::b8::b9::d0::d1::d2::d3::d4::d5::d6::d7::d8::d9::e0::e1::e2::e3::e4::e5::e6::[]), h) = (K.K a2 h) := by kernel_rfl
theorem i25 (H : awp X h.length c25_0 (retQ X Try.f25 K) ((a0::.bad::.bad::.bad::.bad::.bad::.bad::.bad::.bad::.bad::.bad::.bad::.bad::.bad::.bad::.bad::.bad::.bad::.bad::.bad::.bad::.bad::.bad::.bad::.bad::.bad::.bad::.bad::.bad::.bad::.bad::.bad::.bad::.bad::.bad::.bad::.bad::[]), h)) : ACall X 25 [a0] h K := acall_intro (fn := Try.f25) (by kernel_rfl) (by kernel_rfl) (by kernel_rfl) H
noncomputable def R25 := And.intro (And.intro (And.intro (And.intro (And.intro w25_1 w25_3) (And.intro w25_5 w25_8)) (And.intro (And.intro w25_12 w25_15) (And.intro w25_16 w25_14))) (And.intro (And.intro (And.intro w25_20 w25_22) (And.intro w25_25 w25_26)) (And.intro (And.intro w25_24 w25_27) (And.intro (w25_23) (And.intro w25_21 w25_19))))) (And.intro (And.intro (And.intro (And.intro w25_18 w25_28) (And.intro w25_17 w25_13)) (And.intro (And.intro w25_11 w25_10) (And.intro w25_9 w25_7))) (And.intro (And.intro (And.intro w25_30 w25_31) (And.intro w25_29 w25_6)) (And.intro (And.intro w25_4 w25_2) (And.intro (w25_0) (And.intro q25_ret q25_normal)))))
/-! function 27: sindri/linerows.fact -/
noncomputable def c27_0 : Code := bodyOf Try.f27
noncomputable def c27_1 : Code := cl c27_0
theorem w27_1 : awp X n c27_1 Q ((a0::a1::a2::a3::a4::a5::a6::a7::a8::a9::b0::b1::b2::b3::b4::b5::b6::b7::b8::b9::d0::d1::d2::d3::d4::d5::[]), h) = (a_box a0 h (.c (fun t2 h1 => a_alloc [.v (.string ⟨#[]⟩), .v (.int .i64 0), .v (.int .i64 0), .v (.bool false), .v (.bool false), .v (.bool false), .v (.bool false), .v (.int .u64 0), .v (.int .u64 0)] h1 (.c (fun t4 h2 => Q .normal ((a0::a1::t2::a3::t4::a5::a6::a7::a8::a9::b0::b1::b2::b3::b4::b5::b6::b7::b8::b9::d0::d1::d2::d3::d4::d5::[]), h2)) ())) ())) := by rw [awp_eq]; kernel_rfl
noncomputable def c27_2 : Code := cr c27_0
noncomputable def c27_3 : Code := cl c27_2
theorem w27_3 : awp X n c27_3 Q ((a0::a1::a2::a3::a4::a5::a6::a7::a8::a9::b0::b1::b2::b3::b4::b5::b6::b7::b8::b9::d0::d1::d2::d3::d4::d5::[]), h) = (a_mov a1 h (.c (fun t5 h1 => a_fa 1 a2 h1 (.c (fun t6 h2 => a_load 1 false t6 h2 (.c (fun t7 h3 => a_fa 2 a2 h3 (.c (fun t9 h4 => a_load 1 false t9 h4 (.c (fun t10 h5 => a_fa 3 a2 h5 (.c (fun t11 h6 => a_load 1 false t11 h6 (.c (fun t12 h7 => a_fa 4 a2 h7 (.c (fun t13 h8 => a_load 1 false t13 h8 (.c (fun t14 h9 => a_fa 5 a2 h9 (.c (fun t15 h10 => a_load 1 false t15 h10 (.c (fun t16 h11 => a_fa 6 a2 h11 (.c (fun t17 h12 => a_load 1 false t17 h12 (.c (fun t18 h13 => a_fa 7 a2 h13 (.c (fun t19 h14 => a_load 1 false t19 h14 (.c (fun t20 h15 => a_fa 9 a2 h15 (.c (fun t21 h16 => a_load 1 false t21 h16 (.c (fun t22 h17 => a_fa 10 a2 h17 (.c (fun t23 h18 => a_load 1 false t23 h18 (.c (fun t24 h19 => ACall X 14 [t5, t7] h19 (.c (fun t8 h20 => conj [a_load 1 false t23 h20 (.c (fun v_ _ => v_ = t24) ()), a_load 1 false t21 h20 (.c (fun v_ _ => v_ = t22) ()), a_load 1 false t19 h20 (.c (fun v_ _ => v_ = t20) ()), a_load 1 false t17 h20 (.c (fun v_ _ => v_ = t18) ()), a_load 1 false t15 h20 (.c (fun v_ _ => v_ = t16) ()), a_load 1 false t13 h20 (.c (fun v_ _ => v_ = t14) ()), a_load 1 false t11 h20 (.c (fun v_ _ => v_ = t12) ()), a_load 1 false t9 h20 (.c (fun v_ _ => v_ = t10) ())] ∧ (a_build [.v (.string ⟨#[]⟩), .v (.int .i64 0), .v (.int .i64 0), .v (.bool false), .v (.bool false), .v (.bool false), .v (.bool false), .v (.int .u64 0), .v (.int .u64 0)] [(0, 1, t8), (1, 1, t10), (2, 1, t12), (3, 1, t14), (4, 1, t16), (5, 1, t18), (6, 1, t20), (7, 1, t22), (8, 1, t24)] h20 (.c (fun t25 h21 => a_store 9 a4 t25 h21 (.c (fun _v21 h22 => conj [] ∧ (Q .normal ((a0::a1::a2::a3::a4::t5::t6::t7::t8::t9::t10::t11::t12::t13::t14::t15::t16::t17::t18::t19::t20::t21::t22::t23::t24::t25::[]), h22))) ())) ()))) ())) ())) ())) ())) ())) ())) ())) ())) ())) ())) ())) ())) ())) ())) ())) ())) ())) ())) ())) ())) := by rw [awp_eq]; kernel_rfl
noncomputable def c27_4 : Code := cr c27_2
theorem w27_4 : awp X n c27_4 Q st = Q .ret st := by rw [awp_eq]; kernel_rfl
theorem w27_2 : awp X n c27_2 Q st = awp X n c27_3 (thenQ (awp X n c27_4 Q) Q) st := by rw [awp_eq]; kernel_rfl
theorem w27_0 : awp X n c27_0 Q st = awp X n c27_1 (thenQ (awp X n c27_2 Q) Q) st := by rw [awp_eq]; kernel_rfl
theorem q27_ret : retQ X Try.f27 K .ret ((a0::a1::a2::a3::a4::a5::a6::a7::a8::a9::b0::b1::b2::b3::b4::b5::b6::b7::b8::b9::d0::d1::d2::d3::d4::d5::[]), h) = (a_load 9 true a4 h (.c (fun rr0 _ => K.K rr0 h) ())) := by kernel_rfl
theorem q27_normal : retQ X Try.f27 K .normal ((a0::a1::a2::a3::a4::a5::a6::a7::a8::a9::b0::b1::b2::b3::b4::b5::b6::b7::b8::b9::d0::d1::d2::d3::d4::d5::[]), h) = (a_load 9 true a4 h (.c (fun rr0 _ => K.K rr0 h) ())) := by kernel_rfl
theorem i27 (H : awp X h.length c27_0 (retQ X Try.f27 K) ((a0::a1::.bad::.bad::.bad::.bad::.bad::.bad::.bad::.bad::.bad::.bad::.bad::.bad::.bad::.bad::.bad::.bad::.bad::.bad::.bad::.bad::.bad::.bad::.bad::.bad::[]), h)) : ACall X 27 [a0, a1] h K := acall_intro (fn := Try.f27) (by kernel_rfl) (by kernel_rfl) (by kernel_rfl) H
noncomputable def R27 := And.intro (And.intro (w27_1) (And.intro w27_3 w27_4)) (And.intro (And.intro w27_2 w27_0) (And.intro q27_ret q27_normal))
/-! function 28: sindri/sindriref23.Sequences -/
noncomputable def c28_0 : Code := bodyOf Try.f28
noncomputable def c28_1 : Code := cl c28_0
theorem w28_1 : awp X n c28_1 Q ((a0::a1::a2::a3::a4::a5::a6::a7::a8::a9::b0::b1::b2::b3::b4::b5::b6::b7::b8::b9::d0::d1::d2::d3::d4::d5::d6::d7::d8::d9::e0::e1::e2::e3::e4::e5::[]), h) = (a_mov (.v (.slice none 0 0)) h (.c (fun t2 h1 => Q .normal ((a0::a1::t2::a3::a4::a5::a6::a7::a8::a9::b0::b1::b2::b3::b4::b5::b6::b7::b8::b9::d0::d1::d2::d3::d4::d5::d6::d7::d8::d9::e0::e1::e2::e3::e4::e5::[]), h1)) ())) := by rw [awp_eq]; kernel_rfl
noncomputable def c28_2 : Code := cr c28_0
noncomputable def c28_3 : Code := cl c28_2
theorem w28_3 : awp X n c28_3 Q ((a0::a1::a2::a3::a4::a5::a6::a7::a8::a9::b0::b1::b2::b3::b4::b5::b6::b7::b8::b9::d0::d1::d2::d3::d4::d5::d6::d7::d8::d9::e0::e1::e2::e3::e4::e5::[]), h) = (a_mov (.v (.slice none 0 0)) h (.c (fun t3 h1 => Q .normal ((a0::a1::a2::t3::a4::a5::a6::a7::a8::a9::b0::b1::b2::b3::b4::b5::b6::b7::b8::b9::d0::d1::d2::d3::d4::d5::d6::d7::d8::d9::e0::e1::e2::e3::e4::e5::[]), h1)) ())) := by rw [awp_eq]; kernel_rfl
noncomputable def c28_4 : Code := cr c28_2
noncomputable def c28_5 : Code := cl c28_4
theorem w28_5 : awp X n c28_5 Q ((a0::a1::a2::a3::a4::a5::a6::a7::a8::a9::b0::b1::b2::b3::b4::b5::b6::b7::b8::b9::d0::d1::d2::d3::d4::d5::d6::d7::d8::d9::e0::e1::e2::e3::e4::e5::[]), h) = (a_mov (.v (.slice none 0 0)) h (.c (fun t4 h1 => Q .normal ((a0::a1::a2::a3::t4::a5::a6::a7::a8::a9::b0::b1::b2::b3::b4::b5::b6::b7::b8::b9::d0::d1::d2::d3::d4::d5::d6::d7::d8::d9::e0::e1::e2::e3::e4::e5::[]), h1)) ())) := by rw [awp_eq]; kernel_rfl
noncomputable def c28_6 : Code := cr c28_4
noncomputable def c28_7 : Code := cl c28_6
noncomputable def c28_8 : Code := cl c28_7
theorem w28_8 : awp X n c28_8 Q ((a0::a1::a2::a3::a4::a5::a6::a7::a8::a9::b0::b1::b2::b3::b4::b5::b6::b7::b8::b9::d0::d1::d2::d3::d4::d5::d6::d7::d8::d9::e0::e1::e2::e3::e4::e5::[]), h) = (a_mov (.v (.int .i64 0)) h (.c (fun t5 h1 => Q .normal ((a0::a1::a2::a3::a4::t5::a6::a7::a8::a9::b0::b1::b2::b3::b4::b5::b6::b7::b8::b9::d0::d1::d2::d3::d4::d5::d6::d7::d8::d9::e0::e1::e2::e3::e4::e5::[]), h1)) ())) := by rw [awp_eq]; kernel_rfl
noncomputable def c28_9 : Code := cr c28_7
noncomputable def c28_10 : Code := cl c28_9
noncomputable def c28_11 : Code := cl c28_10
noncomputable def c28_12 : Code := cl c28_11
noncomputable def c28_13 : Code := cl c28_12
theorem w28_13 : awp X n c28_13 Q ((a0::a1::a2::a3::a4::a5::a6::a7::a8::a9::b0::b1::b2::b3::b4::b5::b6::b7::b8::b9::d0::d1::d2::d3::d4::d5::d6::d7::d8::d9::e0::e1::e2::e3::e4::e5::[]), h) = (a_mov a5 h (.c (fun t6 h1 => a_mov a0 h1 (.c (fun t7 h2 => a_len t7 h2 (.c (fun t8 h3 => a_bin .lss t6 t8 h3 (.c (fun t9 h4 => Q .normal ((a0::a1::a2::a3::a4::a5::t6::t7::t8::t9::b0::b1::b2::b3::b4::b5::b6::b7::b8::b9::d0::d1::d2::d3::d4::d5::d6::d7::d8::d9::e0::e1::e2::e3::e4::e5::[]), h4)) ())) ())) ())) ())) := by rw [awp_eq]; kernel_rfl
noncomputable def c28_14 : Code := cr c28_12
noncomputable def c28_15 : Code := cl c28_14
theorem w28_15 : awp X n c28_15 Q st = Q .normal st := by rw [awp_eq]; kernel_rfl
noncomputable def c28_16 : Code := cr c28_14
theorem w28_16 : awp X n c28_16 Q st = Q (.exit 0) st := by rw [awp_eq]; kernel_rfl
theorem w28_14 : awp X n c28_14 Q ((a0::a1::a2::a3::a4::a5::a6::a7::a8::a9::b0::b1::b2::b3::b4::b5::b6::b7::b8::b9::d0::d1::d2::d3::d4::d5::d6::d7::d8::d9::e0::e1::e2::e3::e4::e5::[]), h) = a_cond a9 (awp X n c28_15 Q ((a0::a1::a2::a3::a4::a5::a6::a7::a8::a9::b0::b1::b2::b3::b4::b5::b6::b7::b8::b9::d0::d1::d2::d3::d4::d5::d6::d7::d8::d9::e0::e1::e2::e3::e4::e5::[]), h)) (awp X n c28_16 Q ((a0::a1::a2::a3::a4::a5::a6::a7::a8::a9::b0::b1::b2::b3::b4::b5::b6::b7::b8::b9::d0::d1::d2::d3::d4::d5::d6::d7::d8::d9::e0::e1::e2::e3::e4::e5::[]), h)) := by rw [awp_eq]; kernel_rfl
theorem w28_12 : awp X n c28_12 Q st = awp X n c28_13 (thenQ (awp X n c28_14 Q) Q) st := by rw [awp_eq]; kernel_rfl
noncomputable def c28_17 : Code := cr c28_11
noncomputable def c28_18 : Code := cl c28_17
noncomputable def c28_19 : Code := cl c28_18
noncomputable def c28_20 : Code := cl c28_19
theorem w28_20 : awp X n c28_20 Q ((a0::a1::a2::a3::a4::a5::a6::a7::a8::a9::b0::b1::b2::b3::b4::b5::b6::b7::b8::b9::d0::d1::d2::d3::d4::d5::d6::d7::d8::d9::e0::e1::e2::e3::e4::e5::[]), h) = (a_mov a4 h (.c (fun t12 h1 => a_mov a0 h1 (.c (fun t13 h2 => a_mov a5 h2 (.c (fun t14 h3 => a_ia 11 t13 t14 h3 (.c (fun t15 h4 => a_load 11 true t15 h4 (.c (fun t16 h5 => a_lit 11 1 [.v (.int .u64 0), .v (.int .i64 0), .v (.int .i64 0), .v (.int .i64 0), .v (.bool false), .v (.bool false), .v (.bool false), .v (.bool false), .v (.bool false), .v (.int .u64 0), .v (.int .u64 0)] [(0, 11, t16)] h5 (.c (fun t17 h6 => a_app 11 56 t12 t17 h6 (.c (fun t18 h7 => a_mov t18 h7 (.c (fun t4 h8 => Q .normal ((a0::a1::a2::a3::t4::a5::a6::a7::a8::a9::b0::b1::t12::t13::t14::t15::t16::t17::t18::b9::d0::d1::d2::d3::d4::d5::d6::d7::d8::d9::e0::e1::e2::e3::e4::e5::[]), h8)) ())) ())) ())) ())) ())) ())) ())) ())) := by rw [awp_eq]; kernel_rfl
noncomputable def c28_21 : Code := cr c28_19
noncomputable def c28_22 : Code := cl c28_21
theorem w28_22 : awp X n c28_22 Q ((a0::a1::a2::a3::a4::a5::a6::a7::a8::a9::b0::b1::b2::b3::b4::b5::b6::b7::b8::b9::d0::d1::d2::d3::d4::d5::d6::d7::d8::d9::e0::e1::e2::e3::e4::e5::[]), h) = (a_mov a0 h (.c (fun t19 h1 => a_mov a5 h1 (.c (fun t20 h2 => a_ia 11 t19 t20 h2 (.c (fun t21 h3 => a_fa 8 t21 h3 (.c (fun t22 h4 => a_load 1 false t22 h4 (.c (fun t23 h5 => Q .normal ((a0::a1::a2::a3::a4::a5::a6::a7::a8::a9::b0::b1::b2::b3::b4::b5::b6::b7::b8::t19::t20::t21::t22::t23::d4::d5::d6::d7::d8::d9::e0::e1::e2::e3::e4::e5::[]), h5)) ())) ())) ())) ())) ())) := by rw [awp_eq]; kernel_rfl
noncomputable def c28_23 : Code := cr c28_21
noncomputable def c28_24 : Code := cl c28_23
noncomputable def c28_25 : Code := cl c28_24
theorem w28_25 : awp X n c28_25 Q ((a0::a1::a2::a3::a4::a5::a6::a7::a8::a9::b0::b1::b2::b3::b4::b5::b6::b7::b8::b9::d0::d1::d2::d3::d4::d5::d6::d7::d8::d9::e0::e1::e2::e3::e4::e5::[]), h) = (a_mov a3 h (.c (fun t24 h1 => a_mov a4 h1 (.c (fun t25 h2 => a_lit 1 1 [.v (.slice none 0 0)] [(0, 1, t25)] h2 (.c (fun t26 h3 => a_app 1 24 t24 t26 h3 (.c (fun t27 h4 => a_mov t27 h4 (.c (fun t3 h5 => Q .normal ((a0::a1::a2::t3::a4::a5::a6::a7::a8::a9::b0::b1::b2::b3::b4::b5::b6::b7::b8::b9::d0::d1::d2::d3::t24::t25::t26::t27::d8::d9::e0::e1::e2::e3::e4::e5::[]), h5)) ())) ())) ())) ())) ())) := by rw [awp_eq]; kernel_rfl
noncomputable def c28_26 : Code := cr c28_24
theorem w28_26 : awp X n c28_26 Q ((a0::a1::a2::a3::a4::a5::a6::a7::a8::a9::b0::b1::b2::b3::b4::b5::b6::b7::b8::b9::d0::d1::d2::d3::d4::d5::d6::d7::d8::d9::e0::e1::e2::e3::e4::e5::[]), h) = (a_mov (.v (.slice none 0 0)) h (.c (fun t4 h1 => Q .normal ((a0::a1::a2::a3::t4::a5::a6::a7::a8::a9::b0::b1::b2::b3::b4::b5::b6::b7::b8::b9::d0::d1::d2::d3::d4::d5::d6::d7::d8::d9::e0::e1::e2::e3::e4::e5::[]), h1)) ())) := by rw [awp_eq]; kernel_rfl
theorem w28_24 : awp X n c28_24 Q st = awp X n c28_25 (thenQ (awp X n c28_26 Q) Q) st := by rw [awp_eq]; kernel_rfl
noncomputable def c28_27 : Code := cr c28_23
theorem w28_27 : awp X n c28_27 Q st = Q .normal st := by rw [awp_eq]; kernel_rfl
theorem w28_23 : awp X n c28_23 Q ((a0::a1::a2::a3::a4::a5::a6::a7::a8::a9::b0::b1::b2::b3::b4::b5::b6::b7::b8::b9::d0::d1::d2::d3::d4::d5::d6::d7::d8::d9::e0::e1::e2::e3::e4::e5::[]), h) = a_cond d3 (awp X n c28_24 Q ((a0::a1::a2::a3::a4::a5::a6::a7::a8::a9::b0::b1::b2::b3::b4::b5::b6::b7::b8::b9::d0::d1::d2::d3::d4::d5::d6::d7::d8::d9::e0::e1::e2::e3::e4::e5::[]), h)) (awp X n c28_27 Q ((a0::a1::a2::a3::a4::a5::a6::a7::a8::a9::b0::b1::b2::b3::b4::b5::b6::b7::b8::b9::d0::d1::d2::d3::d4::d5::d6::d7::d8::d9::e0::e1::e2::e3::e4::e5::[]), h)) := by rw [awp_eq]; kernel_rfl
theorem w28_21 : awp X n c28_21 Q st = awp X n c28_22 (thenQ (awp X n c28_23 Q) Q) st := by rw [awp_eq]; kernel_rfl
theorem w28_19 : awp X n c28_19 Q st = awp X n c28_20 (thenQ (awp X n c28_21 Q) Q) st := by rw [awp_eq]; kernel_rfl
theorem w28_18 : awp X n c28_18 Q st = awp X n c28_19 (blockQ 1 Q) st := by rw [awp_eq]; kernel_rfl
noncomputable def c28_28 : Code := cr c28_17
theorem w28_28 : awp X n c28_28 Q ((a0::a1::a2::a3::a4::a5::a6::a7::a8::a9::b0::b1::b2::b3::b4::b5::b6::b7::b8::b9::d0::d1::d2::d3::d4::d5::d6::d7::d8::d9::e0::e1::e2::e3::e4::e5::[]), h) = (a_mov a5 h (.c (fun t10 h1 => a_bin .add t10 (.v (.int .i64 1)) h1 (.c (fun t11 h2 => a_mov t11 h2 (.c (fun t5 h3 => Q .normal ((a0::a1::a2::a3::a4::t5::a6::a7::a8::a9::t10::t11::b2::b3::b4::b5::b6::b7::b8::b9::d0::d1::d2::d3::d4::d5::d6::d7::d8::d9::e0::e1::e2::e3::e4::e5::[]), h3)) ())) ())) ())) := by rw [awp_eq]; kernel_rfl
theorem w28_17 : awp X n c28_17 Q st = awp X n c28_18 (thenQ (awp X n c28_28 Q) Q) st := by rw [awp_eq]; kernel_rfl
theorem w28_11 : awp X n c28_11 Q st = awp X n c28_12 (thenQ (awp X n c28_17 Q) Q) st := by rw [awp_eq]; kernel_rfl
theorem w28_10 : awp X n c28_10 Q st = ALoop X n c28_11 Q st := by rw [awp_eq]; kernel_rfl
theorem w28_9 : awp X n c28_9 Q st = awp X n c28_10 (blockQ 0 Q) st := by rw [awp_eq]; kernel_rfl
theorem w28_7 : awp X n c28_7 Q st = awp X n c28_8 (thenQ (awp X n c28_9 Q) Q) st := by rw [awp_eq]; kernel_rfl
noncomputable def c28_29 : Code := cr c28_6
noncomputable def c28_30 : Code := cl c28_29
noncomputable def c28_31 : Code := cl c28_30
theorem w28_31 : awp X n c28_31 Q ((a0::a1::a2::a3::a4::a5::a6::a7::a8::a9::b0::b1::b2::b3::b4::b5::b6::b7::b8::b9::d0::d1::d2::d3::d4::d5::d6::d7::d8::d9::e0::e1::e2::e3::e4::e5::[]), h) = (a_mov a4 h (.c (fun t28 h1 => a_len t28 h1 (.c (fun t29 h2 => a_bin .gtr t29 (.v (.int .i64 0)) h2 (.c (fun t30 h3 => Q .normal ((a0::a1::a2::a3::a4::a5::a6::a7::a8::a9::b0::b1::b2::b3::b4::b5::b6::b7::b8::b9::d0::d1::d2::d3::d4::d5::d6::d7::t28::t29::t30::e1::e2::e3::e4::e5::[]), h3)) ())) ())) ())) := by rw [awp_eq]; kernel_rfl
noncomputable def c28_32 : Code := cr c28_30
noncomputable def c28_33 : Code := cl c28_32
theorem w28_33 : awp X n c28_33 Q ((a0::a1::a2::a3::a4::a5::a6::a7::a8::a9::b0::b1::b2::b3::b4::b5::b6::b7::b8::b9::d0::d1::d2::d3::d4::d5::d6::d7::d8::d9::e0::e1::e2::e3::e4::e5::[]), h) = (a_mov a3 h (.c (fun t31 h1 => a_mov a4 h1 (.c (fun t32 h2 => a_lit 1 1 [.v (.slice none 0 0)] [(0, 1, t32)] h2 (.c (fun t33 h3 => a_app 1 24 t31 t33 h3 (.c (fun t34 h4 => a_mov t34 h4 (.c (fun t3 h5 => Q .normal ((a0::a1::a2::t3::a4::a5::a6::a7::a8::a9::b0::b1::b2::b3::b4::b5::b6::b7::b8::b9::d0::d1::d2::d3::d4::d5::d6::d7::d8::d9::e0::t31::t32::t33::t34::e5::[]), h5)) ())) ())) ())) ())) ())) := by rw [awp_eq]; kernel_rfl
noncomputable def c28_34 : Code := cr c28_32
theorem w28_34 : awp X n c28_34 Q st = Q .normal st := by rw [awp_eq]; kernel_rfl
theorem w28_32 : awp X n c28_32 Q ((a0::a1::a2::a3::a4::a5::a6::a7::a8::a9::b0::b1::b2::b3::b4::b5::b6::b7::b8::b9::d0::d1::d2::d3::d4::d5::d6::d7::d8::d9::e0::e1::e2::e3::e4::e5::[]), h) = a_cond e0 (awp X n c28_33 Q ((a0::a1::a2::a3::a4::a5::a6::a7::a8::a9::b0::b1::b2::b3::b4::b5::b6::b7::b8::b9::d0::d1::d2::d3::d4::d5::d6::d7::d8::d9::e0::e1::e2::e3::e4::e5::[]), h)) (awp X n c28_34 Q ((a0::a1::a2::a3::a4::a5::a6::a7::a8::a9::b0::b1::b2::b3::b4::b5::b6::b7::b8::b9::d0::d1::d2::d3::d4::d5::d6::d7::d8::d9::e0::e1::e2::e3::e4::e5::[]), h)) := by rw [awp_eq]; kernel_rfl
theorem w28_30 : awp X n c28_30 Q st = awp X n c28_31 (thenQ (awp X n c28_32 Q) Q) st := by rw [awp_eq]; kernel_rfl
noncomputable def c28_35 : Code := cr c28_29
noncomputable def c28_36 : Code := cl c28_35
theorem w28_36 : awp X n c28_36 Q ((a0::a1::a2::a3::a4::a5::a6::a7::a8::a9::b0::b1::b2::b3::b4::b5::b6::b7::b8::b9::d0::d1::d2::d3::d4::d5::d6::d7::d8::d9::e0::e1::e2::e3::e4::e5::[]), h) = (a_mov a3 h (.c (fun t35 h1 => a_mov t35 h1 (.c (fun t2 h2 => Q .normal ((a0::a1::t2::a3::a4::a5::a6::a7::a8::a9::b0::b1::b2::b3::b4::b5::b6::b7::b8::b9::d0::d1::d2::d3::d4::d5::d6::d7::d8::d9::e0::e1::e2::e3::e4::t35::[]), h2)) ())) ())) := by rw [awp_eq]; kernel_rfl
noncomputable def c28_37 : Code := cr c28_35
theorem w28_37 : awp X n c28_37 Q st = Q .ret st := by rw [awp_eq]; kernel_rfl
theorem w28_35 : awp X n c28_35 Q st = awp X n c28_36 (thenQ (awp X n c28_37 Q) Q) st := by rw [awp_eq]; kernel_rfl
theorem w28_29 : awp X n c28_29 Q st = awp X n c28_30 (thenQ (awp X n c28_35 Q) Q) st := by rw [awp_eq]; kernel_rfl
theorem w28_6 : awp X n c28_6 Q st = awp X n c28_7 (thenQ (awp X n c28_29 Q) Q) st := by rw [awp_eq]; kernel_rfl
theorem w28_4 : awp X n c28_4 Q st = awp X n c28_5 (thenQ (awp X n c28_6 Q) Q) st := by rw [awp_eq]; kernel_rfl
theorem w28_2 : awp X n c28_2 Q st = awp X n c28_3 (thenQ (awp X n c28_4 Q) Q) st := by rw [awp_eq]; kernel_rfl
theorem w28_0 : awp X n c28_0 Q st = awp X n c28_1 (thenQ (awp X n c28_2 Q) Q) st := by rw [awp_eq]; kernel_rfl
theorem q28_ret : retQ X Try.f28 K .ret ((a0::a1::a2::a3::a4::a5::a6::a7::a8::a9::b0::b1::b2::b3::b4::b5::b6::b7::b8::b9::d0::d1::d2::d3::d4::d5::d6::d7::d8::d9::e0::e1::e2::e3::e4::e5::[]), h) = (K.K a2 h) := by kernel_rfl
theorem q28_normal : retQ X Try.f28 K .normal ((a0::a1::a2::a3::a4::a5::a6::a7::a8::a9::b0::b1::b2::b3::b4::b5::b6::b7::b8::b9::d0::d1::d2::d3::d4::d5::d6::d7::d8::d9::e0::e1::e2::e3::e4::e5::[]), h) = (K.K a2 h) := by kernel_rfl
theorem i28 (H : awp X h.length c28_0 (retQ X Try.f28 K) ((a0::.bad::.bad::.bad::.bad::.bad::.bad::.bad::.bad::.bad::.bad::.bad::.bad::.bad::.bad::.bad::.bad::.bad::.bad::.bad::.bad::.bad::.bad::.bad::.bad::.bad::.bad::.bad::.bad::.bad::.bad::.bad::.bad::.bad::.bad::.bad::[]), h)) : ACall X 28 [a0] h K := acall_intro (fn := Try.f28) (by kernel_rfl) (by kernel_rfl) (by kernel_rfl) H
noncomputable def R28 := And.intro (And.intro (And.intro (And.intro (And.intro w28_1 w28_3) (And.intro (w28_5) (And.intro w28_8 w28_13))) (And.intro (And.intro w28_15 w28_16) (And.intro (w28_14) (And.intro w28_12 w28_20)))) (And.intro (And.intro (And.intro w28_22 w28_25) (And.intro (w28_26) (And.intro w28_24 w28_27))) (And.intro (And.intro w28_23 w28_21) (And.intro (w28_19) (And.intro w28_18 w28_28))))) (And.intro (And.intro (And.intro (And.intro w28_17 w28_11) (And.intro (w28_10) (And.intro w28_9 w28_7))) (And.intro (And.intro w28_31 w28_33) (And.intro (w28_34) (And.intro w28_32 w28_30)))) (And.intro (And.intro (And.intro w28_36 w28_37) (And.intro (w28_35) (And.intro w28_29 w28_6))) (And.intro (And.intro w28_4 w28_2) (And.intro (w28_0) (And.intro q28_ret q28_normal)))))
/-! function 29: sindri/linerows.cover -/
noncomputable def c29_0 : Code := bodyOf Try.f29
noncomputable def c29_1 : Code := cl c29_0
theorem w29_1 : awp X n c29_1 Q ((a0::a1::a2::a3::a4::a5::a6::a7::a8::a9::b0::b1::b2::b3::b4::b5::b6::b7::b8::b9::d0::d1::d2::d3::d4::d5::d6::d7::d8::d9::e0::e1::e2::e3::e4::e5::e6::[]), h) = (a_alloc [.v (.int .u64 0), .v (.int .u64 0)] h (.c (fun t2 h1 => a_mov (.v (.bool false)) h1 (.c (fun t3 h2 => Q .normal ((a0::a1::t2::t3::a4::a5::a6::a7::a8::a9::b0::b1::b2::b3::b4::b5::b6::b7::b8::b9::d0::d1::d2::d3::d4::d5::d6::d7::d8::d9::e0::e1::e2::e3::e4::e5::e6::[]), h2)) ())) ())) := by rw [awp_eq]; kernel_rfl
noncomputable def c29_2 : Code := cr c29_0
noncomputable def c29_3 : Code := cl c29_2
noncomputable def c29_4 : Code := cl c29_3
theorem w29_4 : awp X n c29_4 Q ((a0::a1::a2::a3::a4::a5::a6::a7::a8::a9::b0::b1::b2::b3::b4::b5::b6::b7::b8::b9::d0::d1::d2::d3::d4::d5::d6::d7::d8::d9::e0::e1::e2::e3::e4::e5::e6::[]), h) = (a_mov a0 h (.c (fun t5 h1 => a_len t5 h1 (.c (fun t6 h2 => a_bin .eql t6 (.v (.int .i64 0)) h2 (.c (fun t7 h3 => a_mov t7 h3 (.c (fun t8 h4 => a_on t8 false (fun k => a_mov a0 h4 k) h4 (.c (fun t9 h5 => a_on t8 false (fun k => a_mov a0 h5 k) h5 (.c (fun t10 h6 => a_on t8 false (fun k => a_len t10 h6 k) h6 (.c (fun t11 h7 => a_on t8 false (fun k => a_bin .sub t11 (.v (.int .i64 1)) h7 k) h7 (.c (fun t12 h8 => a_on t8 false (fun k => a_ia 11 t9 t12 h8 k) h8 (.c (fun t13 h9 => a_on t8 false (fun k => a_fa 8 t13 h9 k) h9 (.c (fun t14 h10 => a_on t8 false (fun k => a_load 1 false t14 h10 k) h10 (.c (fun t15 h11 => a_on t8 false (fun k => a_un .not t15 h11 k) h11 (.c (fun t16 h12 => a_pick t8 (.v (.bool true)) t16 h12 (.c (fun t17 h13 => Q .normal ((a0::a1::a2::a3::a4::t5::t6::t7::t8::t9::t10::t11::t12::t13::t14::t15::t16::t17::b8::b9::d0::d1::d2::d3::d4::d5::d6::d7::d8::d9::e0::e1::e2::e3::e4::e5::e6::[]), h13)) ())) ())) ())) ())) ())) ())) ())) ())) ())) ())) ())) ())) ())) := by rw [awp_eq]; kernel_rfl
noncomputable def c29_5 : Code := cr c29_3
noncomputable def c29_6 : Code := cl c29_5
noncomputable def c29_7 : Code := cl c29_6
theorem w29_7 : awp X n c29_7 Q ((a0::a1::a2::a3::a4::a5::a6::a7::a8::a9::b0::b1::b2::b3::b4::b5::b6::b7::b8::b9::d0::d1::d2::d3::d4::d5::d6::d7::d8::d9::e0::e1::e2::e3::e4::e5::e6::[]), h) = (a_build [.v (.int .u64 0), .v (.int .u64 0)] [] h (.c (fun t18 h1 => a_store 2 a2 t18 h1 (.c (fun _v1 h2 => a_mov (.v (.bool false)) h2 (.c (fun t3 h3 => Q .normal ((a0::a1::a2::t3::a4::a5::a6::a7::a8::a9::b0::b1::b2::b3::b4::b5::b6::b7::t18::b9::d0::d1::d2::d3::d4::d5::d6::d7::d8::d9::e0::e1::e2::e3::e4::e5::e6::[]), h3)) ())) ())) ())) := by rw [awp_eq]; kernel_rfl
noncomputable def c29_8 : Code := cr c29_6
theorem w29_8 : awp X n c29_8 Q st = Q .ret st := by rw [awp_eq]; kernel_rfl
theorem w29_6 : awp X n c29_6 Q st = awp X n c29_7 (thenQ (awp X n c29_8 Q) Q) st := by rw [awp_eq]; kernel_rfl
noncomputable def c29_9 : Code := cr c29_5
theorem w29_9 : awp X n c29_9 Q st = Q .normal st := by rw [awp_eq]; kernel_rfl
theorem w29_5 : awp X n c29_5 Q ((a0::a1::a2::a3::a4::a5::a6::a7::a8::a9::b0::b1::b2::b3::b4::b5::b6::b7::b8::b9::d0::d1::d2::d3::d4::d5::d6::d7::d8::d9::e0::e1::e2::e3::e4::e5::e6::[]), h) = a_cond b7 (awp X n c29_6 Q ((a0::a1::a2::a3::a4::a5::a6::a7::a8::a9::b0::b1::b2::b3::b4::b5::b6::b7::b8::b9::d0::d1::d2::d3::d4::d5::d6::d7::d8::d9::e0::e1::e2::e3::e4::e5::e6::[]), h)) (awp X n c29_9 Q ((a0::a1::a2::a3::a4::a5::a6::a7::a8::a9::b0::b1::b2::b3::b4::b5::b6::b7::b8::b9::d0::d1::d2::d3::d4::d5::d6::d7::d8::d9::e0::e1::e2::e3::e4::e5::e6::[]), h)) := by rw [awp_eq]; kernel_rfl
theorem w29_3 : awp X n c29_3 Q st = awp X n c29_4 (thenQ (awp X n c29_5 Q) Q) st := by rw [awp_eq]; kernel_rfl
noncomputable def c29_10 : Code := cr c29_2
noncomputable def c29_11 : Code := cl c29_10
theorem w29_11 : awp X n c29_11 Q ((a0::a1::a2::a3::a4::a5::a6::a7::a8::a9::b0::b1::b2::b3::b4::b5::b6::b7::b8::b9::d0::d1::d2::d3::d4::d5::d6::d7::d8::d9::e0::e1::e2::e3::e4::e5::e6::[]), h) = (a_mov a0 h (.c (fun t19 h1 => a_ia 11 t19 (.v (.int .i64 0)) h1 (.c (fun t20 h2 => a_fa 0 t20 h2 (.c (fun t21 h3 => a_load 1 false t21 h3 (.c (fun t22 h4 => a_mov a0 h4 (.c (fun t23 h5 => a_mov a0 h5 (.c (fun t24 h6 => a_len t24 h6 (.c (fun t25 h7 => a_bin .sub t25 (.v (.int .i64 1)) h7 (.c (fun t26 h8 => a_ia 11 t23 t26 h8 (.c (fun t27 h9 => a_fa 0 t27 h9 (.c (fun t28 h10 => a_load 1 false t28 h10 (.c (fun t29 h11 => a_build [.v (.int .u64 0), .v (.int .u64 0)] [(0, 1, t22), (1, 1, t29)] h11 (.c (fun t30 h12 => a_alloc [.v (.int .u64 0), .v (.int .u64 0)] h12 (.c (fun t4 h13 => conj [a_load 1 false t28 h13 (.c (fun v_ _ => v_ = t29) ()), a_len t24 h13 (.c (fun v_ _ => v_ = t25) ()), a_load 1 false t21 h13 (.c (fun v_ _ => v_ = t22) ())] ∧ (a_store 2 t4 t30 h13 (.c (fun _v13 h14 => conj [] ∧ (Q .normal ((a0::a1::a2::a3::t4::a5::a6::a7::a8::a9::b0::b1::b2::b3::b4::b5::b6::b7::b8::t19::t20::t21::t22::t23::t24::t25::t26::t27::t28::t29::t30::e1::e2::e3::e4::e5::e6::[]), h14))) ()))) ())) ())) ())) ())) ())) ())) ())) ())) ())) ())) ())) ())) ())) := by rw [awp_eq]; kernel_rfl
noncomputable def c29_12 : Code := cr c29_10
noncomputable def c29_13 : Code := cl c29_12
theorem w29_13 : awp X n c29_13 Q ((a0::a1::a2::a3::a4::a5::a6::a7::a8::a9::b0::b1::b2::b3::b4::b5::b6::b7::b8::b9::d0::d1::d2::d3::d4::d5::d6::d7::d8::d9::e0::e1::e2::e3::e4::e5::e6::[]), h) = (a_load 2 true a4 h (.c (fun t31 h1 => a_fa 0 a4 h1 (.c (fun t32 h2 => a_load 1 false t32 h2 (.c (fun t33 h3 => a_fa 1 a4 h3 (.c (fun t34 h4 => a_load 1 false t34 h4 (.c (fun t35 h5 => a_bin .lss t33 t35 h5 (.c (fun t36 h6 => a_store 2 a2 t31 h6 (.c (fun _v6 h7 => conj [a_load 1 false t34 h7 (.c (fun v_ _ => v_ = t35) ()), a_load 1 false t32 h7 (.c (fun v_ _ => v_ = t33) ())] ∧ (a_mov t36 h7 (.c (fun t3 h8 => Q .normal ((a0::a1::a2::t3::a4::a5::a6::a7::a8::a9::b0::b1::b2::b3::b4::b5::b6::b7::b8::b9::d0::d1::d2::d3::d4::d5::d6::d7::d8::d9::e0::t31::t32::t33::t34::t35::t36::[]), h8)) ()))) ())) ())) ())) ())) ())) ())) ())) := by rw [awp_eq]; kernel_rfl
noncomputable def c29_14 : Code := cr c29_12
theorem w29_14 : awp X n c29_14 Q st = Q .ret st := by rw [awp_eq]; kernel_rfl
theorem w29_12 : awp X n c29_12 Q st = awp X n c29_13 (thenQ (awp X n c29_14 Q) Q) st := by rw [awp_eq]; kernel_rfl
theorem w29_10 : awp X n c29_10 Q st = awp X n c29_11 (thenQ (awp X n c29_12 Q) Q) st := by rw [awp_eq]; kernel_rfl
theorem w29_2 : awp X n c29_2 Q st = awp X n c29_3 (thenQ (awp X n c29_10 Q) Q) st := by rw [awp_eq]; kernel_rfl
theorem w29_0 : awp X n c29_0 Q st = awp X n c29_1 (thenQ (awp X n c29_2 Q) Q) st := by rw [awp_eq]; kernel_rfl
theorem q29_ret : retQ X Try.f29 K .ret ((a0::a1::a2::a3::a4::a5::a6::a7::a8::a9::b0::b1::b2::b3::b4::b5::b6::b7::b8::b9::d0::d1::d2::d3::d4::d5::d6::d7::d8::d9::e0::e1::e2::e3::e4::e5::e6::[]), h) = (a_load 2 true a2 h (.c (fun rr0 _ => K.K (.t [rr0, a3]) h) ())) := by kernel_rfl
theorem q29_normal : retQ X Try.f29 K .normal ((a0::a1::a2::a3::a4::a5::a6::a7::a8::a9::b0::b1::b2::b3::b4::b5::b6::b7::b8::b9::d0::d1::d2::d3::d4::d5::d6::d7::d8::d9::e0::e1::e2::e3::e4::e5::e6::[]), h) = (a_load 2 true a2 h (.c (fun rr0 _ => K.K (.t [rr0, a3]) h) ())) := by kernel_rfl
theorem i29 (H : awp X h.length c29_0 (retQ X Try.f29 K) ((a0::.bad::.bad::.bad::.bad::.bad::.bad::.bad::.bad::.bad::.bad::.bad::.bad::.bad::.bad::.bad::.bad::.bad::.bad::.bad::.bad::.bad::.bad::.bad::.bad::.bad::.bad::.bad::.bad::.bad::.bad::.bad::.bad::.bad::.bad::.bad::.bad::[]), h)) : ACall X 29 [a0] h K := acall_intro (fn := Try.f29) (by kernel_rfl) (by kernel_rfl) (by kernel_rfl) H
noncomputable def R29 := And.intro (And.intro (And.intro (And.intro w29_1 w29_4) (And.intro w29_7 w29_8)) (And.intro (And.intro w29_6 w29_9) (And.intro w29_5 w29_3))) (And.intro (And.intro (And.intro w29_11 w29_13) (And.intro w29_14 w29_12)) (And.intro (And.intro w29_10 w29_2) (And.intro (w29_0) (And.intro q29_ret q29_normal))))
/-! function 14: sindri/linerows.Full -/
noncomputable def c14_0 : Code := bodyOf Try.f14
noncomputable def c14_1 : Code := cl c14_0
theorem w14_1 : awp X n c14_1 Q ((a0::a1::a2::a3::a4::a5::a6::a7::a8::a9::b0::b1::b2::b3::b4::b5::b6::[]), h) = (a_mov (.v (.string ⟨#[]⟩)) h (.c (fun t4 h1 => Q .normal ((a0::a1::a2::a3::t4::a5::a6::a7::a8::a9::b0::b1::b2::b3::b4::b5::b6::[]), h1)) ())) := by rw [awp_eq]; kernel_rfl
noncomputable def c14_2 : Code := cr c14_0
noncomputable def c14_3 : Code := cl c14_2
noncomputable def c14_4 : Code := cl c14_3
theorem w14_4 : awp X n c14_4 Q ((a0::a1::a2::a3::a4::a5::a6::a7::a8::a9::b0::b1::b2::b3::b4::b5::b6::[]), h) = (a_mov a1 h (.c (fun t5 h1 => a_bin .lss t5 (.v (.int .i64 0)) h1 (.c (fun t6 h2 => a_mov t6 h2 (.c (fun t7 h3 => a_on t7 false (fun k => a_mov a1 h3 k) h3 (.c (fun t8 h4 => a_on t7 false (fun k => a_mov a0 h4 k) h4 (.c (fun t9 h5 => a_on t7 false (fun k => a_len t9 h5 k) h5 (.c (fun t10 h6 => a_on t7 false (fun k => a_bin .geq t8 t10 h6 k) h6 (.c (fun t11 h7 => a_pick t7 (.v (.bool true)) t11 h7 (.c (fun t12 h8 => Q .normal ((a0::a1::a2::a3::a4::t5::t6::t7::t8::t9::t10::t11::t12::b3::b4::b5::b6::[]), h8)) ())) ())) ())) ())) ())) ())) ())) ())) := by rw [awp_eq]; kernel_rfl
noncomputable def c14_5 : Code := cr c14_3
noncomputable def c14_6 : Code := cl c14_5
noncomputable def c14_7 : Code := cl c14_6
theorem w14_7 : awp X n c14_7 Q ((a0::a1::a2::a3::a4::a5::a6::a7::a8::a9::b0::b1::b2::b3::b4::b5::b6::[]), h) = (a_mov (.v (.string ⟨#[]⟩)) h (.c (fun t4 h1 => Q .normal ((a0::a1::a2::a3::t4::a5::a6::a7::a8::a9::b0::b1::b2::b3::b4::b5::b6::[]), h1)) ())) := by rw [awp_eq]; kernel_rfl
noncomputable def c14_8 : Code := cr c14_6
theorem w14_8 : awp X n c14_8 Q st = Q .ret st := by rw [awp_eq]; kernel_rfl
theorem w14_6 : awp X n c14_6 Q st = awp X n c14_7 (thenQ (awp X n c14_8 Q) Q) st := by rw [awp_eq]; kernel_rfl
noncomputable def c14_9 : Code := cr c14_5
theorem w14_9 : awp X n c14_9 Q st = Q .normal st := by rw [awp_eq]; kernel_rfl
theorem w14_5 : awp X n c14_5 Q ((a0::a1::a2::a3::a4::a5::a6::a7::a8::a9::b0::b1::b2::b3::b4::b5::b6::[]), h) = a_cond b2 (awp X n c14_6 Q ((a0::a1::a2::a3::a4::a5::a6::a7::a8::a9::b0::b1::b2::b3::b4::b5::b6::[]), h)) (awp X n c14_9 Q ((a0::a1::a2::a3::a4::a5::a6::a7::a8::a9::b0::b1::b2::b3::b4::b5::b6::[]), h)) := by rw [awp_eq]; kernel_rfl
theorem w14_3 : awp X n c14_3 Q st = awp X n c14_4 (thenQ (awp X n c14_5 Q) Q) st := by rw [awp_eq]; kernel_rfl
noncomputable def c14_10 : Code := cr c14_2
noncomputable def c14_11 : Code := cl c14_10
theorem w14_11 : awp X n c14_11 Q ((a0::a1::a2::a3::a4::a5::a6::a7::a8::a9::b0::b1::b2::b3::b4::b5::b6::[]), h) = (a_mov a0 h (.c (fun t13 h1 => a_mov a1 h1 (.c (fun t14 h2 => a_ia 1 t13 t14 h2 (.c (fun t15 h3 => a_load 1 false t15 h3 (.c (fun t16 h4 => a_mov t16 h4 (.c (fun t4 h5 => Q .normal ((a0::a1::a2::a3::t4::a5::a6::a7::a8::a9::b0::b1::b2::t13::t14::t15::t16::[]), h5)) ())) ())) ())) ())) ())) := by rw [awp_eq]; kernel_rfl
noncomputable def c14_12 : Code := cr c14_10
theorem w14_12 : awp X n c14_12 Q st = Q .ret st := by rw [awp_eq]; kernel_rfl
theorem w14_10 : awp X n c14_10 Q st = awp X n c14_11 (thenQ (awp X n c14_12 Q) Q) st := by rw [awp_eq]; kernel_rfl
theorem w14_2 : awp X n c14_2 Q st = awp X n c14_3 (thenQ (awp X n c14_10 Q) Q) st := by rw [awp_eq]; kernel_rfl
theorem w14_0 : awp X n c14_0 Q st = awp X n c14_1 (thenQ (awp X n c14_2 Q) Q) st := by rw [awp_eq]; kernel_rfl
theorem q14_ret : retQ X Try.f14 K .ret ((a0::a1::a2::a3::a4::a5::a6::a7::a8::a9::b0::b1::b2::b3::b4::b5::b6::[]), h) = (K.K a4 h) := by kernel_rfl
theorem q14_normal : retQ X Try.f14 K .normal ((a0::a1::a2::a3::a4::a5::a6::a7::a8::a9::b0::b1::b2::b3::b4::b5::b6::[]), h) = (K.K a4 h) := by kernel_rfl
theorem i14 (H : awp X h.length c14_0 (retQ X Try.f14 K) ((a0::a1::.bad::.bad::.bad::.bad::.bad::.bad::.bad::.bad::.bad::.bad::.bad::.bad::.bad::.bad::.bad::[]), h)) : ACall X 14 [a0, a1] h K := acall_intro (fn := Try.f14) (by kernel_rfl) (by kernel_rfl) (by kernel_rfl) H
noncomputable def R14 := And.intro (And.intro (And.intro (w14_1) (And.intro w14_4 w14_7)) (And.intro (And.intro w14_8 w14_6) (And.intro w14_9 w14_5))) (And.intro (And.intro (And.intro w14_3 w14_11) (And.intro w14_12 w14_10)) (And.intro (And.intro w14_2 w14_0) (And.intro q14_ret q14_normal)))
/-! function 15: sindri/sindriref24.Full -/
noncomputable def c15_0 : Code := bodyOf Try.f15
noncomputable def c15_1 : Code := cl c15_0
theorem w15_1 : awp X n c15_1 Q ((a0::a1::a2::a3::a4::a5::a6::a7::a8::a9::b0::b1::b2::b3::b4::b5::b6::[]), h) = (a_mov (.v (.string ⟨#[]⟩)) h (.c (fun t4 h1 => Q .normal ((a0::a1::a2::a3::t4::a5::a6::a7::a8::a9::b0::b1::b2::b3::b4::b5::b6::[]), h1)) ())) := by rw [awp_eq]; kernel_rfl
noncomputable def c15_2 : Code := cr c15_0
noncomputable def c15_3 : Code := cl c15_2
noncomputable def c15_4 : Code := cl c15_3
theorem w15_4 : awp X n c15_4 Q ((a0::a1::a2::a3::a4::a5::a6::a7::a8::a9::b0::b1::b2::b3::b4::b5::b6::[]), h) = (a_mov a1 h (.c (fun t5 h1 => a_bin .geq t5 (.v (.int .i64 0)) h1 (.c (fun t6 h2 => a_mov t6 h2 (.c (fun t7 h3 => a_on t7 true (fun k => a_mov a1 h3 k) h3 (.c (fun t8 h4 => a_on t7 true (fun k => a_mov a0 h4 k) h4 (.c (fun t9 h5 => a_on t7 true (fun k => a_len t9 h5 k) h5 (.c (fun t10 h6 => a_on t7 true (fun k => a_bin .lss t8 t10 h6 k) h6 (.c (fun t11 h7 => a_pick t7 t11 (.v (.bool false)) h7 (.c (fun t12 h8 => Q .normal ((a0::a1::a2::a3::a4::t5::t6::t7::t8::t9::t10::t11::t12::b3::b4::b5::b6::[]), h8)) ())) ())) ())) ())) ())) ())) ())) ())) := by rw [awp_eq]; kernel_rfl
noncomputable def c15_5 : Code := cr c15_3
noncomputable def c15_6 : Code := cl c15_5
noncomputable def c15_7 : Code := cl c15_6
theorem w15_7 : awp X n c15_7 Q ((a0::a1::a2::a3::a4::a5::a6::a7::a8::a9::b0::b1::b2::b3::b4::b5::b6::[]), h) = (a_mov a0 h (.c (fun t13 h1 => a_mov a1 h1 (.c (fun t14 h2 => a_ia 1 t13 t14 h2 (.c (fun t15 h3 => a_load 1 false t15 h3 (.c (fun t16 h4 => a_mov t16 h4 (.c (fun t4 h5 => Q .normal ((a0::a1::a2::a3::t4::a5::a6::a7::a8::a9::b0::b1::b2::t13::t14::t15::t16::[]), h5)) ())) ())) ())) ())) ())) := by rw [awp_eq]; kernel_rfl
noncomputable def c15_8 : Code := cr c15_6
theorem w15_8 : awp X n c15_8 Q st = Q .ret st := by rw [awp_eq]; kernel_rfl
theorem w15_6 : awp X n c15_6 Q st = awp X n c15_7 (thenQ (awp X n c15_8 Q) Q) st := by rw [awp_eq]; kernel_rfl
noncomputable def c15_9 : Code := cr c15_5
theorem w15_9 : awp X n c15_9 Q st = Q .normal st := by rw [awp_eq]; kernel_rfl
theorem w15_5 : awp X n c15_5 Q ((a0::a1::a2::a3::a4::a5::a6::a7::a8::a9::b0::b1::b2::b3::b4::b5::b6::[]), h) = a_cond b2 (awp X n c15_6 Q ((a0::a1::a2::a3::a4::a5::a6::a7::a8::a9::b0::b1::b2::b3::b4::b5::b6::[]), h)) (awp X n c15_9 Q ((a0::a1::a2::a3::a4::a5::a6::a7::a8::a9::b0::b1::b2::b3::b4::b5::b6::[]), h)) := by rw [awp_eq]; kernel_rfl
theorem w15_3 : awp X n c15_3 Q st = awp X n c15_4 (thenQ (awp X n c15_5 Q) Q) st := by rw [awp_eq]; kernel_rfl
noncomputable def c15_10 : Code := cr c15_2
noncomputable def c15_11 : Code := cl c15_10
theorem w15_11 : awp X n c15_11 Q ((a0::a1::a2::a3::a4::a5::a6::a7::a8::a9::b0::b1::b2::b3::b4::b5::b6::[]), h) = (a_mov (.v (.string ⟨#[]⟩)) h (.c (fun t4 h1 => Q .normal ((a0::a1::a2::a3::t4::a5::a6::a7::a8::a9::b0::b1::b2::b3::b4::b5::b6::[]), h1)) ())) := by rw [awp_eq]; kernel_rfl
noncomputable def c15_12 : Code := cr c15_10
theorem w15_12 : awp X n c15_12 Q st = Q .ret st := by rw [awp_eq]; kernel_rfl
theorem w15_10 : awp X n c15_10 Q st = awp X n c15_11 (thenQ (awp X n c15_12 Q) Q) st := by rw [awp_eq]; kernel_rfl
theorem w15_2 : awp X n c15_2 Q st = awp X n c15_3 (thenQ (awp X n c15_10 Q) Q) st := by rw [awp_eq]; kernel_rfl
theorem w15_0 : awp X n c15_0 Q st = awp X n c15_1 (thenQ (awp X n c15_2 Q) Q) st := by rw [awp_eq]; kernel_rfl
theorem q15_ret : retQ X Try.f15 K .ret ((a0::a1::a2::a3::a4::a5::a6::a7::a8::a9::b0::b1::b2::b3::b4::b5::b6::[]), h) = (K.K a4 h) := by kernel_rfl
theorem q15_normal : retQ X Try.f15 K .normal ((a0::a1::a2::a3::a4::a5::a6::a7::a8::a9::b0::b1::b2::b3::b4::b5::b6::[]), h) = (K.K a4 h) := by kernel_rfl
theorem i15 (H : awp X h.length c15_0 (retQ X Try.f15 K) ((a0::a1::.bad::.bad::.bad::.bad::.bad::.bad::.bad::.bad::.bad::.bad::.bad::.bad::.bad::.bad::.bad::[]), h)) : ACall X 15 [a0, a1] h K := acall_intro (fn := Try.f15) (by kernel_rfl) (by kernel_rfl) (by kernel_rfl) H
noncomputable def R15 := And.intro (And.intro (And.intro (w15_1) (And.intro w15_4 w15_7)) (And.intro (And.intro w15_8 w15_6) (And.intro w15_9 w15_5))) (And.intro (And.intro (And.intro w15_3 w15_11) (And.intro w15_12 w15_10)) (And.intro (And.intro w15_2 w15_0) (And.intro q15_ret q15_normal)))
/-! function 7: sindri/sindriref24.Same -/
noncomputable def c7_0 : Code := bodyOf Try.f7
noncomputable def c7_1 : Code := cl c7_0
theorem w7_1 : awp X n c7_1 Q ((a0::a1::a2::a3::a4::a5::a6::a7::a8::a9::b0::b1::b2::b3::b4::b5::b6::b7::b8::b9::d0::d1::d2::d3::d4::d5::[]), h) = (a_mov (.v (.bool false)) h (.c (fun t4 h1 => Q .normal ((a0::a1::a2::a3::t4::a5::a6::a7::a8::a9::b0::b1::b2::b3::b4::b5::b6::b7::b8::b9::d0::d1::d2::d3::d4::d5::[]), h1)) ())) := by rw [awp_eq]; kernel_rfl
noncomputable def c7_2 : Code := cr c7_0
noncomputable def c7_3 : Code := cl c7_2
noncomputable def c7_4 : Code := cl c7_3
theorem w7_4 : awp X n c7_4 Q ((a0::a1::a2::a3::a4::a5::a6::a7::a8::a9::b0::b1::b2::b3::b4::b5::b6::b7::b8::b9::d0::d1::d2::d3::d4::d5::[]), h) = (a_mov a0 h (.c (fun t6 h1 => a_len t6 h1 (.c (fun t7 h2 => a_mov a1 h2 (.c (fun t8 h3 => a_len t8 h3 (.c (fun t9 h4 => a_bin .neq t7 t9 h4 (.c (fun t10 h5 => Q .normal ((a0::a1::a2::a3::a4::a5::t6::t7::t8::t9::t10::b1::b2::b3::b4::b5::b6::b7::b8::b9::d0::d1::d2::d3::d4::d5::[]), h5)) ())) ())) ())) ())) ())) := by rw [awp_eq]; kernel_rfl
noncomputable def c7_5 : Code := cr c7_3
noncomputable def c7_6 : Code := cl c7_5
noncomputable def c7_7 : Code := cl c7_6
theorem w7_7 : awp X n c7_7 Q ((a0::a1::a2::a3::a4::a5::a6::a7::a8::a9::b0::b1::b2::b3::b4::b5::b6::b7::b8::b9::d0::d1::d2::d3::d4::d5::[]), h) = (a_mov (.v (.bool false)) h (.c (fun t4 h1 => Q .normal ((a0::a1::a2::a3::t4::a5::a6::a7::a8::a9::b0::b1::b2::b3::b4::b5::b6::b7::b8::b9::d0::d1::d2::d3::d4::d5::[]), h1)) ())) := by rw [awp_eq]; kernel_rfl
noncomputable def c7_8 : Code := cr c7_6
theorem w7_8 : awp X n c7_8 Q st = Q .ret st := by rw [awp_eq]; kernel_rfl
theorem w7_6 : awp X n c7_6 Q st = awp X n c7_7 (thenQ (awp X n c7_8 Q) Q) st := by rw [awp_eq]; kernel_rfl
noncomputable def c7_9 : Code := cr c7_5
theorem w7_9 : awp X n c7_9 Q st = Q .normal st := by rw [awp_eq]; kernel_rfl
theorem w7_5 : awp X n c7_5 Q ((a0::a1::a2::a3::a4::a5::a6::a7::a8::a9::b0::b1::b2::b3::b4::b5::b6::b7::b8::b9::d0::d1::d2::d3::d4::d5::[]), h) = a_cond b0 (awp X n c7_6 Q ((a0::a1::a2::a3::a4::a5::a6::a7::a8::a9::b0::b1::b2::b3::b4::b5::b6::b7::b8::b9::d0::d1::d2::d3::d4::d5::[]), h)) (awp X n c7_9 Q ((a0::a1::a2::a3::a4::a5::a6::a7::a8::a9::b0::b1::b2::b3::b4::b5::b6::b7::b8::b9::d0::d1::d2::d3::d4::d5::[]), h)) := by rw [awp_eq]; kernel_rfl
theorem w7_3 : awp X n c7_3 Q st = awp X n c7_4 (thenQ (awp X n c7_5 Q) Q) st := by rw [awp_eq]; kernel_rfl
noncomputable def c7_10 : Code := cr c7_2
noncomputable def c7_11 : Code := cl c7_10
noncomputable def c7_12 : Code := cl c7_11
theorem w7_12 : awp X n c7_12 Q ((a0::a1::a2::a3::a4::a5::a6::a7::a8::a9::b0::b1::b2::b3::b4::b5::b6::b7::b8::b9::d0::d1::d2::d3::d4::d5::[]), h) = (a_mov (.v (.int .i64 0)) h (.c (fun t5 h1 => Q .normal ((a0::a1::a2::a3::a4::t5::a6::a7::a8::a9::b0::b1::b2::b3::b4::b5::b6::b7::b8::b9::d0::d1::d2::d3::d4::d5::[]), h1)) ())) := by rw [awp_eq]; kernel_rfl
noncomputable def c7_13 : Code := cr c7_11
noncomputable def c7_14 : Code := cl c7_13
noncomputable def c7_15 : Code := cl c7_14
noncomputable def c7_16 : Code := cl c7_15
noncomputable def c7_17 : Code := cl c7_16
theorem w7_17 : awp X n c7_17 Q ((a0::a1::a2::a3::a4::a5::a6::a7::a8::a9::b0::b1::b2::b3::b4::b5::b6::b7::b8::b9::d0::d1::d2::d3::d4::d5::[]), h) = (a_mov a5 h (.c (fun t11 h1 => a_mov a0 h1 (.c (fun t12 h2 => a_len t12 h2 (.c (fun t13 h3 => a_bin .lss t11 t13 h3 (.c (fun t14 h4 => Q .normal ((a0::a1::a2::a3::a4::a5::a6::a7::a8::a9::b0::t11::t12::t13::t14::b5::b6::b7::b8::b9::d0::d1::d2::d3::d4::d5::[]), h4)) ())) ())) ())) ())) := by rw [awp_eq]; kernel_rfl
noncomputable def c7_18 : Code := cr c7_16
noncomputable def c7_19 : Code := cl c7_18
theorem w7_19 : awp X n c7_19 Q st = Q .normal st := by rw [awp_eq]; kernel_rfl
noncomputable def c7_20 : Code := cr c7_18
theorem w7_20 : awp X n c7_20 Q st = Q (.exit 0) st := by rw [awp_eq]; kernel_rfl
theorem w7_18 : awp X n c7_18 Q ((a0::a1::a2::a3::a4::a5::a6::a7::a8::a9::b0::b1::b2::b3::b4::b5::b6::b7::b8::b9::d0::d1::d2::d3::d4::d5::[]), h) = a_cond b4 (awp X n c7_19 Q ((a0::a1::a2::a3::a4::a5::a6::a7::a8::a9::b0::b1::b2::b3::b4::b5::b6::b7::b8::b9::d0::d1::d2::d3::d4::d5::[]), h)) (awp X n c7_20 Q ((a0::a1::a2::a3::a4::a5::a6::a7::a8::a9::b0::b1::b2::b3::b4::b5::b6::b7::b8::b9::d0::d1::d2::d3::d4::d5::[]), h)) := by rw [awp_eq]; kernel_rfl
theorem w7_16 : awp X n c7_16 Q st = awp X n c7_17 (thenQ (awp X n c7_18 Q) Q) st := by rw [awp_eq]; kernel_rfl
noncomputable def c7_21 : Code := cr c7_15
noncomputable def c7_22 : Code := cl c7_21
noncomputable def c7_23 : Code := cl c7_22
noncomputable def c7_24 : Code := cl c7_23
theorem w7_24 : awp X n c7_24 Q ((a0::a1::a2::a3::a4::a5::a6::a7::a8::a9::b0::b1::b2::b3::b4::b5::b6::b7::b8::b9::d0::d1::d2::d3::d4::d5::[]), h) = (a_mov a0 h (.c (fun t17 h1 => a_mov a5 h1 (.c (fun t18 h2 => a_ia 9 t17 t18 h2 (.c (fun t19 h3 => a_load 9 true t19 h3 (.c (fun t20 h4 => a_mov a1 h4 (.c (fun t21 h5 => a_mov a5 h5 (.c (fun t22 h6 => a_ia 9 t21 t22 h6 (.c (fun t23 h7 => a_load 9 true t23 h7 (.c (fun t24 h8 => a_eqs true [.str, .int .i64, .int .i64, .bool, .bool, .bool, .bool, .int .u64, .int .u64] t20 t24 h8 (.c (fun t25 h9 => Q .normal ((a0::a1::a2::a3::a4::a5::a6::a7::a8::a9::b0::b1::b2::b3::b4::b5::b6::t17::t18::t19::t20::t21::t22::t23::t24::t25::[]), h9)) ())) ())) ())) ())) ())) ())) ())) ())) ())) := by rw [awp_eq]; kernel_rfl
noncomputable def c7_25 : Code := cr c7_23
noncomputable def c7_26 : Code := cl c7_25
noncomputable def c7_27 : Code := cl c7_26
theorem w7_27 : awp X n c7_27 Q ((a0::a1::a2::a3::a4::a5::a6::a7::a8::a9::b0::b1::b2::b3::b4::b5::b6::b7::b8::b9::d0::d1::d2::d3::d4::d5::[]), h) = (a_mov (.v (.bool false)) h (.c (fun t4 h1 => Q .normal ((a0::a1::a2::a3::t4::a5::a6::a7::a8::a9::b0::b1::b2::b3::b4::b5::b6::b7::b8::b9::d0::d1::d2::d3::d4::d5::[]), h1)) ())) := by rw [awp_eq]; kernel_rfl
noncomputable def c7_28 : Code := cr c7_26
theorem w7_28 : awp X n c7_28 Q st = Q .ret st := by rw [awp_eq]; kernel_rfl
theorem w7_26 : awp X n c7_26 Q st = awp X n c7_27 (thenQ (awp X n c7_28 Q) Q) st := by rw [awp_eq]; kernel_rfl
noncomputable def c7_29 : Code := cr c7_25
theorem w7_29 : awp X n c7_29 Q st = Q .normal st := by rw [awp_eq]; kernel_rfl
theorem w7_25 : awp X n c7_25 Q ((a0::a1::a2::a3::a4::a5::a6::a7::a8::a9::b0::b1::b2::b3::b4::b5::b6::b7::b8::b9::d0::d1::d2::d3::d4::d5::[]), h) = a_cond d5 (awp X n c7_26 Q ((a0::a1::a2::a3::a4::a5::a6::a7::a8::a9::b0::b1::b2::b3::b4::b5::b6::b7::b8::b9::d0::d1::d2::d3::d4::d5::[]), h)) (awp X n c7_29 Q ((a0::a1::a2::a3::a4::a5::a6::a7::a8::a9::b0::b1::b2::b3::b4::b5::b6::b7::b8::b9::d0::d1::d2::d3::d4::d5::[]), h)) := by rw [awp_eq]; kernel_rfl
theorem w7_23 : awp X n c7_23 Q st = awp X n c7_24 (thenQ (awp X n c7_25 Q) Q) st := by rw [awp_eq]; kernel_rfl
theorem w7_22 : awp X n c7_22 Q st = awp X n c7_23 (blockQ 1 Q) st := by rw [awp_eq]; kernel_rfl
noncomputable def c7_30 : Code := cr c7_21
theorem w7_30 : awp X n c7_30 Q ((a0::a1::a2::a3::a4::a5::a6::a7::a8::a9::b0::b1::b2::b3::b4::b5::b6::b7::b8::b9::d0::d1::d2::d3::d4::d5::[]), h) = (a_mov a5 h (.c (fun t15 h1 => a_bin .add t15 (.v (.int .i64 1)) h1 (.c (fun t16 h2 => a_mov t16 h2 (.c (fun t5 h3 => Q .normal ((a0::a1::a2::a3::a4::t5::a6::a7::a8::a9::b0::b1::b2::b3::b4::t15::t16::b7::b8::b9::d0::d1::d2::d3::d4::d5::[]), h3)) ())) ())) ())) := by rw [awp_eq]; kernel_rfl
theorem w7_21 : awp X n c7_21 Q st = awp X n c7_22 (thenQ (awp X n c7_30 Q) Q) st := by rw [awp_eq]; kernel_rfl
theorem w7_15 : awp X n c7_15 Q st = awp X n c7_16 (thenQ (awp X n c7_21 Q) Q) st := by rw [awp_eq]; kernel_rfl
theorem w7_14 : awp X n c7_14 Q st = ALoop X n c7_15 Q st := by rw [awp_eq]; kernel_rfl
theorem w7_13 : awp X n c7_13 Q st = awp X n c7_14 (blockQ 0 Q) st := by rw [awp_eq]; kernel_rfl
theorem w7_11 : awp X n c7_11 Q st = awp X n c7_12 (thenQ (awp X n c7_13 Q) Q) st := by rw [awp_eq]; kernel_rfl
noncomputable def c7_31 : Code := cr c7_10
noncomputable def c7_32 : Code := cl c7_31
theorem w7_32 : awp X n c7_32 Q ((a0::a1::a2::a3::a4::a5::a6::a7::a8::a9::b0::b1::b2::b3::b4::b5::b6::b7::b8::b9::d0::d1::d2::d3::d4::d5::[]), h) = (a_mov (.v (.bool true)) h (.c (fun t4 h1 => Q .normal ((a0::a1::a2::a3::t4::a5::a6::a7::a8::a9::b0::b1::b2::b3::b4::b5::b6::b7::b8::b9::d0::d1::d2::d3::d4::d5::[]), h1)) ())) := by rw [awp_eq]; kernel_rfl
noncomputable def c7_33 : Code := cr c7_31
theorem w7_33 : awp X n c7_33 Q st = Q .ret st := by rw [awp_eq]; kernel_rfl
theorem w7_31 : awp X n c7_31 Q st = awp X n c7_32 (thenQ (awp X n c7_33 Q) Q) st := by rw [awp_eq]; kernel_rfl
theorem w7_10 : awp X n c7_10 Q st = awp X n c7_11 (thenQ (awp X n c7_31 Q) Q) st := by rw [awp_eq]; kernel_rfl
theorem w7_2 : awp X n c7_2 Q st = awp X n c7_3 (thenQ (awp X n c7_10 Q) Q) st := by rw [awp_eq]; kernel_rfl
theorem w7_0 : awp X n c7_0 Q st = awp X n c7_1 (thenQ (awp X n c7_2 Q) Q) st := by rw [awp_eq]; kernel_rfl
theorem q7_ret : retQ X Try.f7 K .ret ((a0::a1::a2::a3::a4::a5::a6::a7::a8::a9::b0::b1::b2::b3::b4::b5::b6::b7::b8::b9::d0::d1::d2::d3::d4::d5::[]), h) = (K.K a4 h) := by kernel_rfl
theorem q7_normal : retQ X Try.f7 K .normal ((a0::a1::a2::a3::a4::a5::a6::a7::a8::a9::b0::b1::b2::b3::b4::b5::b6::b7::b8::b9::d0::d1::d2::d3::d4::d5::[]), h) = (K.K a4 h) := by kernel_rfl
theorem i7 (H : awp X h.length c7_0 (retQ X Try.f7 K) ((a0::a1::.bad::.bad::.bad::.bad::.bad::.bad::.bad::.bad::.bad::.bad::.bad::.bad::.bad::.bad::.bad::.bad::.bad::.bad::.bad::.bad::.bad::.bad::.bad::.bad::[]), h)) : ACall X 7 [a0, a1] h K := acall_intro (fn := Try.f7) (by kernel_rfl) (by kernel_rfl) (by kernel_rfl) H
noncomputable def R7 := And.intro (And.intro (And.intro (And.intro (And.intro w7_1 w7_4) (And.intro w7_7 w7_8)) (And.intro (And.intro w7_6 w7_9) (And.intro (w7_5) (And.intro w7_3 w7_12)))) (And.intro (And.intro (And.intro w7_17 w7_19) (And.intro w7_20 w7_18)) (And.intro (And.intro w7_16 w7_24) (And.intro (w7_27) (And.intro w7_28 w7_26))))) (And.intro (And.intro (And.intro (And.intro w7_29 w7_25) (And.intro w7_23 w7_22)) (And.intro (And.intro w7_30 w7_21) (And.intro (w7_15) (And.intro w7_14 w7_13)))) (And.intro (And.intro (And.intro w7_11 w7_32) (And.intro w7_33 w7_31)) (And.intro (And.intro w7_10 w7_2) (And.intro (w7_0) (And.intro q7_ret q7_normal)))))
/-! function 8: sindri/sindrilaw24.told -/
noncomputable def c8_0 : Code := bodyOf Try.f8
noncomputable def c8_1 : Code := cl c8_0
theorem w8_1 : awp X n c8_1 Q ((a0::a1::a2::a3::a4::a5::a6::a7::a8::a9::b0::b1::b2::b3::b4::b5::b6::b7::[]), h) = (a_mov (.v (.slice none 0 0)) h (.c (fun t2 h1 => Q .normal ((a0::a1::t2::a3::a4::a5::a6::a7::a8::a9::b0::b1::b2::b3::b4::b5::b6::b7::[]), h1)) ())) := by rw [awp_eq]; kernel_rfl
noncomputable def c8_2 : Code := cr c8_0
noncomputable def c8_3 : Code := cl c8_2
theorem w8_3 : awp X n c8_3 Q ((a0::a1::a2::a3::a4::a5::a6::a7::a8::a9::b0::b1::b2::b3::b4::b5::b6::b7::[]), h) = (a_mov (.v (.slice none 0 0)) h (.c (fun t3 h1 => Q .normal ((a0::a1::a2::t3::a4::a5::a6::a7::a8::a9::b0::b1::b2::b3::b4::b5::b6::b7::[]), h1)) ())) := by rw [awp_eq]; kernel_rfl
noncomputable def c8_4 : Code := cr c8_2
noncomputable def c8_5 : Code := cl c8_4
noncomputable def c8_6 : Code := cl c8_5
theorem w8_6 : awp X n c8_6 Q ((a0::a1::a2::a3::a4::a5::a6::a7::a8::a9::b0::b1::b2::b3::b4::b5::b6::b7::[]), h) = (a_mov a0 h (.c (fun t6 h1 => a_len t6 h1 (.c (fun t7 h2 => a_mov (.v (.int .i64 0)) h2 (.c (fun t8 h3 => Q .normal ((a0::a1::a2::a3::a4::a5::t6::t7::t8::a9::b0::b1::b2::b3::b4::b5::b6::b7::[]), h3)) ())) ())) ())) := by rw [awp_eq]; kernel_rfl
noncomputable def c8_7 : Code := cr c8_5
noncomputable def c8_8 : Code := cl c8_7
noncomputable def c8_9 : Code := cl c8_8
noncomputable def c8_10 : Code := cl c8_9
theorem w8_10 : awp X n c8_10 Q ((a0::a1::a2::a3::a4::a5::a6::a7::a8::a9::b0::b1::b2::b3::b4::b5::b6::b7::[]), h) = (a_bin .lss a8 a7 h (.c (fun t9 h1 => Q .normal ((a0::a1::a2::a3::a4::a5::a6::a7::a8::t9::b0::b1::b2::b3::b4::b5::b6::b7::[]), h1)) ())) := by rw [awp_eq]; kernel_rfl
noncomputable def c8_11 : Code := cr c8_9
noncomputable def c8_12 : Code := cl c8_11
noncomputable def c8_13 : Code := cl c8_12
theorem w8_13 : awp X n c8_13 Q st = Q .normal st := by rw [awp_eq]; kernel_rfl
noncomputable def c8_14 : Code := cr c8_12
theorem w8_14 : awp X n c8_14 Q st = Q (.exit 0) st := by rw [awp_eq]; kernel_rfl
theorem w8_12 : awp X n c8_12 Q ((a0::a1::a2::a3::a4::a5::a6::a7::a8::a9::b0::b1::b2::b3::b4::b5::b6::b7::[]), h) = a_cond a9 (awp X n c8_13 Q ((a0::a1::a2::a3::a4::a5::a6::a7::a8::a9::b0::b1::b2::b3::b4::b5::b6::b7::[]), h)) (awp X n c8_14 Q ((a0::a1::a2::a3::a4::a5::a6::a7::a8::a9::b0::b1::b2::b3::b4::b5::b6::b7::[]), h)) := by rw [awp_eq]; kernel_rfl
noncomputable def c8_15 : Code := cr c8_11
noncomputable def c8_16 : Code := cl c8_15
noncomputable def c8_17 : Code := cl c8_16
noncomputable def c8_18 : Code := cl c8_17
theorem w8_18 : awp X n c8_18 Q ((a0::a1::a2::a3::a4::a5::a6::a7::a8::a9::b0::b1::b2::b3::b4::b5::b6::b7::[]), h) = (a_ia 9 a6 a8 h (.c (fun t10 h1 => a_load 9 true t10 h1 (.c (fun t11 h2 => a_alloc [.v (.string ⟨#[]⟩), .v (.int .i64 0), .v (.int .i64 0), .v (.bool false), .v (.bool false), .v (.bool false), .v (.bool false), .v (.int .u64 0), .v (.int .u64 0)] h2 (.c (fun t5 h3 => a_store 9 t5 t11 h3 (.c (fun _v3 h4 => Q .normal ((a0::a1::a2::a3::a4::t5::a6::a7::a8::a9::t10::t11::b2::b3::b4::b5::b6::b7::[]), h4)) ())) ())) ())) ())) := by rw [awp_eq]; kernel_rfl
noncomputable def c8_19 : Code := cr c8_17
theorem w8_19 : awp X n c8_19 Q ((a0::a1::a2::a3::a4::a5::a6::a7::a8::a9::b0::b1::b2::b3::b4::b5::b6::b7::[]), h) = (a_mov a3 h (.c (fun t12 h1 => a_load 9 true a5 h1 (.c (fun t13 h2 => a_lit 9 1 [.v (.string ⟨#[]⟩), .v (.int .i64 0), .v (.int .i64 0), .v (.bool false), .v (.bool false), .v (.bool false), .v (.bool false), .v (.int .u64 0), .v (.int .u64 0)] [(0, 9, t13)] h2 (.c (fun t14 h3 => a_app 9 56 t12 t14 h3 (.c (fun t15 h4 => a_mov t15 h4 (.c (fun t3 h5 => Q .normal ((a0::a1::a2::t3::a4::a5::a6::a7::a8::a9::b0::b1::t12::t13::t14::t15::b6::b7::[]), h5)) ())) ())) ())) ())) ())) := by rw [awp_eq]; kernel_rfl
theorem w8_17 : awp X n c8_17 Q st = awp X n c8_18 (thenQ (awp X n c8_19 Q) Q) st := by rw [awp_eq]; kernel_rfl
theorem w8_16 : awp X n c8_16 Q st = awp X n c8_17 (blockQ 1 Q) st := by rw [awp_eq]; kernel_rfl
noncomputable def c8_20 : Code := cr c8_15
theorem w8_20 : awp X n c8_20 Q ((a0::a1::a2::a3::a4::a5::a6::a7::a8::a9::b0::b1::b2::b3::b4::b5::b6::b7::[]), h) = (a_bin .add a8 (.v (.int .i64 1)) h (.c (fun t16 h1 => a_mov t16 h1 (.c (fun t8 h2 => Q .normal ((a0::a1::a2::a3::a4::a5::a6::a7::t8::a9::b0::b1::b2::b3::b4::b5::t16::b7::[]), h2)) ())) ())) := by rw [awp_eq]; kernel_rfl
theorem w8_15 : awp X n c8_15 Q st = awp X n c8_16 (thenQ (awp X n c8_20 Q) Q) st := by rw [awp_eq]; kernel_rfl
theorem w8_11 : awp X n c8_11 Q st = awp X n c8_12 (thenQ (awp X n c8_15 Q) Q) st := by rw [awp_eq]; kernel_rfl
theorem w8_9 : awp X n c8_9 Q st = awp X n c8_10 (thenQ (awp X n c8_11 Q) Q) st := by rw [awp_eq]; kernel_rfl
theorem w8_8 : awp X n c8_8 Q st = ALoop X n c8_9 Q st := by rw [awp_eq]; kernel_rfl
theorem w8_7 : awp X n c8_7 Q st = awp X n c8_8 (blockQ 0 Q) st := by rw [awp_eq]; kernel_rfl
theorem w8_5 : awp X n c8_5 Q st = awp X n c8_6 (thenQ (awp X n c8_7 Q) Q) st := by rw [awp_eq]; kernel_rfl
noncomputable def c8_21 : Code := cr c8_4
noncomputable def c8_22 : Code := cl c8_21
theorem w8_22 : awp X n c8_22 Q ((a0::a1::a2::a3::a4::a5::a6::a7::a8::a9::b0::b1::b2::b3::b4::b5::b6::b7::[]), h) = (a_mov a3 h (.c (fun t17 h1 => a_mov t17 h1 (.c (fun t2 h2 => Q .normal ((a0::a1::t2::a3::a4::a5::a6::a7::a8::a9::b0::b1::b2::b3::b4::b5::b6::t17::[]), h2)) ())) ())) := by rw [awp_eq]; kernel_rfl
noncomputable def c8_23 : Code := cr c8_21
theorem w8_23 : awp X n c8_23 Q st = Q .ret st := by rw [awp_eq]; kernel_rfl
theorem w8_21 : awp X n c8_21 Q st = awp X n c8_22 (thenQ (awp X n c8_23 Q) Q) st := by rw [awp_eq]; kernel_rfl
theorem w8_4 : awp X n c8_4 Q st = awp X n c8_5 (thenQ (awp X n c8_21 Q) Q) st := by rw [awp_eq]; kernel_rfl
theorem w8_2 : awp X n c8_2 Q st = awp X n c8_3 (thenQ (awp X n c8_4 Q) Q) st := by rw [awp_eq]; kernel_rfl
theorem w8_0 : awp X n c8_0 Q st = awp X n c8_1 (thenQ (awp X n c8_2 Q) Q) st := by rw [awp_eq]; kernel_rfl
theorem q8_ret : retQ X Try.f8 K .ret ((a0::a1::a2::a3::a4::a5::a6::a7::a8::a9::b0::b1::b2::b3::b4::b5::b6::b7::[]), h) = (K.K a2 h) := by kernel_rfl
theorem q8_normal : retQ X Try.f8 K .normal ((a0::a1::a2::a3::a4::a5::a6::a7::a8::a9::b0::b1::b2::b3::b4::b5::b6::b7::[]), h) = (K.K a2 h) := by kernel_rfl
theorem i8 (H : awp X h.length c8_0 (retQ X Try.f8 K) ((a0::.bad::.bad::.bad::.bad::.bad::.bad::.bad::.bad::.bad::.bad::.bad::.bad::.bad::.bad::.bad::.bad::.bad::[]), h)) : ACall X 8 [a0] h K := acall_intro (fn := Try.f8) (by kernel_rfl) (by kernel_rfl) (by kernel_rfl) H
noncomputable def R8 := And.intro (And.intro (And.intro (And.intro (w8_1) (And.intro w8_3 w8_6)) (And.intro (w8_10) (And.intro w8_13 w8_14))) (And.intro (And.intro (w8_12) (And.intro w8_18 w8_19)) (And.intro (And.intro w8_17 w8_16) (And.intro w8_20 w8_15)))) (And.intro (And.intro (And.intro (w8_11) (And.intro w8_9 w8_8)) (And.intro (w8_7) (And.intro w8_5 w8_22))) (And.intro (And.intro (w8_23) (And.intro w8_21 w8_4)) (And.intro (And.intro w8_2 w8_0) (And.intro q8_ret q8_normal))))
/-! function 9: sindri/linerows.At -/
noncomputable def c9_0 : Code := bodyOf Try.f9
noncomputable def c9_1 : Code := cl c9_0
theorem w9_1 : awp X n c9_1 Q ((a0::a1::a2::a3::a4::a5::a6::a7::a8::a9::b0::b1::b2::b3::b4::b5::b6::b7::b8::b9::d0::d1::d2::d3::d4::d5::d6::d7::d8::d9::e0::e1::e2::e3::e4::e5::e6::e7::e8::e9::f0::f1::f2::f3::f4::f5::f6::f7::f8::f9::g0::[]), h) = (a_mov (.v (.slice none 0 0)) h (.c (fun t6 h1 => Q .normal ((a0::a1::a2::a3::a4::a5::t6::a7::a8::a9::b0::b1::b2::b3::b4::b5::b6::b7::b8::b9::d0::d1::d2::d3::d4::d5::d6::d7::d8::d9::e0::e1::e2::e3::e4::e5::e6::e7::e8::e9::f0::f1::f2::f3::f4::f5::f6::f7::f8::f9::g0::[]), h1)) ())) := by rw [awp_eq]; kernel_rfl
noncomputable def c9_2 : Code := cr c9_0
noncomputable def c9_3 : Code := cl c9_2
theorem w9_3 : awp X n c9_3 Q ((a0::a1::a2::a3::a4::a5::a6::a7::a8::a9::b0::b1::b2::b3::b4::b5::b6::b7::b8::b9::d0::d1::d2::d3::d4::d5::d6::d7::d8::d9::e0::e1::e2::e3::e4::e5::e6::e7::e8::e9::f0::f1::f2::f3::f4::f5::f6::f7::f8::f9::g0::[]), h) = (a_mov (.v (.slice none 0 0)) h (.c (fun t7 h1 => Q .normal ((a0::a1::a2::a3::a4::a5::a6::t7::a8::a9::b0::b1::b2::b3::b4::b5::b6::b7::b8::b9::d0::d1::d2::d3::d4::d5::d6::d7::d8::d9::e0::e1::e2::e3::e4::e5::e6::e7::e8::e9::f0::f1::f2::f3::f4::f5::f6::f7::f8::f9::g0::[]), h1)) ())) := by rw [awp_eq]; kernel_rfl
noncomputable def c9_4 : Code := cr c9_2
noncomputable def c9_5 : Code := cl c9_4
noncomputable def c9_6 : Code := cl c9_5
theorem w9_6 : awp X n c9_6 Q ((a0::a1::a2::a3::a4::a5::a6::a7::a8::a9::b0::b1::b2::b3::b4::b5::b6::b7::b8::b9::d0::d1::d2::d3::d4::d5::d6::d7::d8::d9::e0::e1::e2::e3::e4::e5::e6::e7::e8::e9::f0::f1::f2::f3::f4::f5::f6::f7::f8::f9::g0::[]), h) = (a_mov a0 h (.c (fun t10 h1 => a_len t10 h1 (.c (fun t11 h2 => a_mov (.v (.int .i64 0)) h2 (.c (fun t12 h3 => Q .normal ((a0::a1::a2::a3::a4::a5::a6::a7::a8::a9::t10::t11::t12::b3::b4::b5::b6::b7::b8::b9::d0::d1::d2::d3::d4::d5::d6::d7::d8::d9::e0::e1::e2::e3::e4::e5::e6::e7::e8::e9::f0::f1::f2::f3::f4::f5::f6::f7::f8::f9::g0::[]), h3)) ())) ())) ())) := by rw [awp_eq]; kernel_rfl
noncomputable def c9_7 : Code := cr c9_5
noncomputable def c9_8 : Code := cl c9_7
noncomputable def c9_9 : Code := cl c9_8
noncomputable def c9_10 : Code := cl c9_9
theorem w9_10 : awp X n c9_10 Q ((a0::a1::a2::a3::a4::a5::a6::a7::a8::a9::b0::b1::b2::b3::b4::b5::b6::b7::b8::b9::d0::d1::d2::d3::d4::d5::d6::d7::d8::d9::e0::e1::e2::e3::e4::e5::e6::e7::e8::e9::f0::f1::f2::f3::f4::f5::f6::f7::f8::f9::g0::[]), h) = (a_bin .lss b2 b1 h (.c (fun t13 h1 => Q .normal ((a0::a1::a2::a3::a4::a5::a6::a7::a8::a9::b0::b1::b2::t13::b4::b5::b6::b7::b8::b9::d0::d1::d2::d3::d4::d5::d6::d7::d8::d9::e0::e1::e2::e3::e4::e5::e6::e7::e8::e9::f0::f1::f2::f3::f4::f5::f6::f7::f8::f9::g0::[]), h1)) ())) := by rw [awp_eq]; kernel_rfl
noncomputable def c9_11 : Code := cr c9_9
noncomputable def c9_12 : Code := cl c9_11
noncomputable def c9_13 : Code := cl c9_12
theorem w9_13 : awp X n c9_13 Q st = Q .normal st := by rw [awp_eq]; kernel_rfl
noncomputable def c9_14 : Code := cr c9_12
theorem w9_14 : awp X n c9_14 Q st = Q (.exit 0) st := by rw [awp_eq]; kernel_rfl
theorem w9_12 : awp X n c9_12 Q ((a0::a1::a2::a3::a4::a5::a6::a7::a8::a9::b0::b1::b2::b3::b4::b5::b6::b7::b8::b9::d0::d1::d2::d3::d4::d5::d6::d7::d8::d9::e0::e1::e2::e3::e4::e5::e6::e7::e8::e9::f0::f1::f2::f3::f4::f5::f6::f7::f8::f9::g0::[]), h) = a_cond b3 (awp X n c9_13 Q ((a0::a1::a2::a3::a4::a5::a6::a7::a8::a9::b0::b1::b2::b3::b4::b5::b6::b7::b8::b9::d0::d1::d2::d3::d4::d5::d6::d7::d8::d9::e0::e1::e2::e3::e4::e5::e6::e7::e8::e9::f0::f1::f2::f3::f4::f5::f6::f7::f8::f9::g0::[]), h)) (awp X n c9_14 Q ((a0::a1::a2::a3::a4::a5::a6::a7::a8::a9::b0::b1::b2::b3::b4::b5::b6::b7::b8::b9::d0::d1::d2::d3::d4::d5::d6::d7::d8::d9::e0::e1::e2::e3::e4::e5::e6::e7::e8::e9::f0::f1::f2::f3::f4::f5::f6::f7::f8::f9::g0::[]), h)) := by rw [awp_eq]; kernel_rfl
noncomputable def c9_15 : Code := cr c9_11
noncomputable def c9_16 : Code := cl c9_15
noncomputable def c9_17 : Code := cl c9_16
noncomputable def c9_18 : Code := cl c9_17
theorem w9_18 : awp X n c9_18 Q ((a0::a1::a2::a3::a4::a5::a6::a7::a8::a9::b0::b1::b2::b3::b4::b5::b6::b7::b8::b9::d0::d1::d2::d3::d4::d5::d6::d7::d8::d9::e0::e1::e2::e3::e4::e5::e6::e7::e8::e9::f0::f1::f2::f3::f4::f5::f6::f7::f8::f9::g0::[]), h) = (a_mov b2 h (.c (fun t14 h1 => a_ia 11 b0 b2 h1 (.c (fun t15 h2 => a_load 11 true t15 h2 (.c (fun t16 h3 => a_alloc [.v (.int .u64 0), .v (.int .i64 0), .v (.int .i64 0), .v (.int .i64 0), .v (.bool false), .v (.bool false), .v (.bool false), .v (.bool false), .v (.bool false), .v (.int .u64 0), .v (.int .u64 0)] h3 (.c (fun t9 h4 => a_mov t14 h4 (.c (fun t8 h5 => a_store 11 t9 t16 h5 (.c (fun _v5 h6 => Q .normal ((a0::a1::a2::a3::a4::a5::a6::a7::t8::t9::b0::b1::b2::b3::t14::t15::t16::b7::b8::b9::d0::d1::d2::d3::d4::d5::d6::d7::d8::d9::e0::e1::e2::e3::e4::e5::e6::e7::e8::e9::f0::f1::f2::f3::f4::f5::f6::f7::f8::f9::g0::[]), h6)) ())) ())) ())) ())) ())) ())) := by rw [awp_eq]; kernel_rfl
noncomputable def c9_19 : Code := cr c9_17
noncomputable def c9_20 : Code := cl c9_19
theorem w9_20 : awp X n c9_20 Q ((a0::a1::a2::a3::a4::a5::a6::a7::a8::a9::b0::b1::b2::b3::b4::b5::b6::b7::b8::b9::d0::d1::d2::d3::d4::d5::d6::d7::d8::d9::e0::e1::e2::e3::e4::e5::e6::e7::e8::e9::f0::f1::f2::f3::f4::f5::f6::f7::f8::f9::g0::[]), h) = (a_fa 8 a9 h (.c (fun t17 h1 => a_load 1 false t17 h1 (.c (fun t18 h2 => a_un .not t18 h2 (.c (fun t19 h3 => a_mov t19 h3 (.c (fun t20 h4 => a_on t20 true (fun k => a_mov a8 h4 k) h4 (.c (fun t21 h5 => a_on t20 true (fun k => a_bin .add t21 (.v (.int .i64 1)) h5 k) h5 (.c (fun t22 h6 => a_on t20 true (fun k => a_mov a0 h6 k) h6 (.c (fun t23 h7 => a_on t20 true (fun k => a_len t23 h7 k) h7 (.c (fun t24 h8 => a_on t20 true (fun k => a_bin .lss t22 t24 h8 k) h8 (.c (fun t25 h9 => a_pick t20 t25 (.v (.bool false)) h9 (.c (fun t26 h10 => a_mov t26 h10 (.c (fun t27 h11 => a_on t27 true (fun k => a_fa 0 a9 h11 k) h11 (.c (fun t28 h12 => a_on t27 true (fun k => a_load 1 false t28 h12 k) h12 (.c (fun t29 h13 => a_on t27 true (fun k => a_mov a2 h13 k) h13 (.c (fun t30 h14 => a_on t27 true (fun k => a_bin .leq t29 t30 h14 k) h14 (.c (fun t31 h15 => a_pick t27 t31 (.v (.bool false)) h15 (.c (fun t32 h16 => a_mov t32 h16 (.c (fun t33 h17 => a_on t33 true (fun k => a_mov a2 h17 k) h17 (.c (fun t34 h18 => a_on t33 true (fun k => a_mov a0 h18 k) h18 (.c (fun t35 h19 => a_on t33 true (fun k => a_mov a8 h19 k) h19 (.c (fun t36 h20 => a_on t33 true (fun k => a_bin .add t36 (.v (.int .i64 1)) h20 k) h20 (.c (fun t37 h21 => a_on t33 true (fun k => a_ia 11 t35 t37 h21 k) h21 (.c (fun t38 h22 => a_on t33 true (fun k => a_fa 0 t38 h22 k) h22 (.c (fun t39 h23 => a_on t33 true (fun k => a_load 1 false t39 h23 k) h23 (.c (fun t40 h24 => a_on t33 true (fun k => a_bin .lss t34 t40 h24 k) h24 (.c (fun t41 h25 => a_pick t33 t41 (.v (.bool false)) h25 (.c (fun t42 h26 => Q .normal ((a0::a1::a2::a3::a4::a5::a6::a7::a8::a9::b0::b1::b2::b3::b4::b5::b6::t17::t18::t19::t20::t21::t22::t23::t24::t25::t26::t27::t28::t29::t30::t31::t32::t33::t34::t35::t36::t37::t38::t39::t40::t41::t42::f3::f4::f5::f6::f7::f8::f9::g0::[]), h26)) ())) ())) ())) ())) ())) ())) ())) ())) ())) ())) ())) ())) ())) ())) ())) ())) ())) ())) ())) ())) ())) ())) ())) ())) ())) ())) := by rw [awp_eq]; kernel_rfl
noncomputable def c9_21 : Code := cr c9_19
noncomputable def c9_22 : Code := cl c9_21
theorem w9_22 : awp X n c9_22 Q ((a0::a1::a2::a3::a4::a5::a6::a7::a8::a9::b0::b1::b2::b3::b4::b5::b6::b7::b8::b9::d0::d1::d2::d3::d4::d5::d6::d7::d8::d9::e0::e1::e2::e3::e4::e5::e6::e7::e8::e9::f0::f1::f2::f3::f4::f5::f6::f7::f8::f9::g0::[]), h) = (a_mov a7 h (.c (fun t43 h1 => a_load 11 true a9 h1 (.c (fun t44 h2 => a_mov a1 h2 (.c (fun t45 h3 => ACall X 27 [t44, t45] h3 (.c (fun t46 h4 => a_lit 9 1 [.v (.string ⟨#[]⟩), .v (.int .i64 0), .v (.int .i64 0), .v (.bool false), .v (.bool false), .v (.bool false), .v (.bool false), .v (.int .u64 0), .v (.int .u64 0)] [(0, 9, t46)] h4 (.c (fun t47 h5 => a_app 9 56 t43 t47 h5 (.c (fun t48 h6 => a_mov t48 h6 (.c (fun t7 h7 => Q .normal ((a0::a1::a2::a3::a4::a5::a6::t7::a8::a9::b0::b1::b2::b3::b4::b5::b6::b7::b8::b9::d0::d1::d2::d3::d4::d5::d6::d7::d8::d9::e0::e1::e2::e3::e4::e5::e6::e7::e8::e9::f0::f1::f2::t43::t44::t45::t46::t47::t48::f9::g0::[]), h7)) ())) ())) ())) ())) ())) ())) ())) := by rw [awp_eq]; kernel_rfl
noncomputable def c9_23 : Code := cr c9_21
theorem w9_23 : awp X n c9_23 Q st = Q .normal st := by rw [awp_eq]; kernel_rfl
theorem w9_21 : awp X n c9_21 Q ((a0::a1::a2::a3::a4::a5::a6::a7::a8::a9::b0::b1::b2::b3::b4::b5::b6::b7::b8::b9::d0::d1::d2::d3::d4::d5::d6::d7::d8::d9::e0::e1::e2::e3::e4::e5::e6::e7::e8::e9::f0::f1::f2::f3::f4::f5::f6::f7::f8::f9::g0::[]), h) = a_cond f2 (awp X n c9_22 Q ((a0::a1::a2::a3::a4::a5::a6::a7::a8::a9::b0::b1::b2::b3::b4::b5::b6::b7::b8::b9::d0::d1::d2::d3::d4::d5::d6::d7::d8::d9::e0::e1::e2::e3::e4::e5::e6::e7::e8::e9::f0::f1::f2::f3::f4::f5::f6::f7::f8::f9::g0::[]), h)) (awp X n c9_23 Q ((a0::a1::a2::a3::a4::a5::a6::a7::a8::a9::b0::b1::b2::b3::b4::b5::b6::b7::b8::b9::d0::d1::d2::d3::d4::d5::d6::d7::d8::d9::e0::e1::e2::e3::e4::e5::e6::e7::e8::e9::f0::f1::f2::f3::f4::f5::f6::f7::f8::f9::g0::[]), h)) := by rw [awp_eq]; kernel_rfl
theorem w9_19 : awp X n c9_19 Q st = awp X n c9_20 (thenQ (awp X n c9_21 Q) Q) st := by rw [awp_eq]; kernel_rfl
theorem w9_17 : awp X n c9_17 Q st = awp X n c9_18 (thenQ (awp X n c9_19 Q) Q) st := by rw [awp_eq]; kernel_rfl
theorem w9_16 : awp X n c9_16 Q st = awp X n c9_17 (blockQ 1 Q) st := by rw [awp_eq]; kernel_rfl
noncomputable def c9_24 : Code := cr c9_15
theorem w9_24 : awp X n c9_24 Q ((a0::a1::a2::a3::a4::a5::a6::a7::a8::a9::b0::b1::b2::b3::b4::b5::b6::b7::b8::b9::d0::d1::d2::d3::d4::d5::d6::d7::d8::d9::e0::e1::e2::e3::e4::e5::e6::e7::e8::e9::f0::f1::f2::f3::f4::f5::f6::f7::f8::f9::g0::[]), h) = (a_bin .add b2 (.v (.int .i64 1)) h (.c (fun t49 h1 => a_mov t49 h1 (.c (fun t12 h2 => Q .normal ((a0::a1::a2::a3::a4::a5::a6::a7::a8::a9::b0::b1::t12::b3::b4::b5::b6::b7::b8::b9::d0::d1::d2::d3::d4::d5::d6::d7::d8::d9::e0::e1::e2::e3::e4::e5::e6::e7::e8::e9::f0::f1::f2::f3::f4::f5::f6::f7::f8::t49::g0::[]), h2)) ())) ())) := by rw [awp_eq]; kernel_rfl
theorem w9_15 : awp X n c9_15 Q st = awp X n c9_16 (thenQ (awp X n c9_24 Q) Q) st := by rw [awp_eq]; kernel_rfl
theorem w9_11 : awp X n c9_11 Q st = awp X n c9_12 (thenQ (awp X n c9_15 Q) Q) st := by rw [awp_eq]; kernel_rfl
theorem w9_9 : awp X n c9_9 Q st = awp X n c9_10 (thenQ (awp X n c9_11 Q) Q) st := by rw [awp_eq]; kernel_rfl
theorem w9_8 : awp X n c9_8 Q st = ALoop X n c9_9 Q st := by rw [awp_eq]; kernel_rfl
theorem w9_7 : awp X n c9_7 Q st = awp X n c9_8 (blockQ 0 Q) st := by rw [awp_eq]; kernel_rfl
theorem w9_5 : awp X n c9_5 Q st = awp X n c9_6 (thenQ (awp X n c9_7 Q) Q) st := by rw [awp_eq]; kernel_rfl
noncomputable def c9_25 : Code := cr c9_4
noncomputable def c9_26 : Code := cl c9_25
theorem w9_26 : awp X n c9_26 Q ((a0::a1::a2::a3::a4::a5::a6::a7::a8::a9::b0::b1::b2::b3::b4::b5::b6::b7::b8::b9::d0::d1::d2::d3::d4::d5::d6::d7::d8::d9::e0::e1::e2::e3::e4::e5::e6::e7::e8::e9::f0::f1::f2::f3::f4::f5::f6::f7::f8::f9::g0::[]), h) = (a_mov a7 h (.c (fun t50 h1 => a_mov t50 h1 (.c (fun t6 h2 => Q .normal ((a0::a1::a2::a3::a4::a5::t6::a7::a8::a9::b0::b1::b2::b3::b4::b5::b6::b7::b8::b9::d0::d1::d2::d3::d4::d5::d6::d7::d8::d9::e0::e1::e2::e3::e4::e5::e6::e7::e8::e9::f0::f1::f2::f3::f4::f5::f6::f7::f8::f9::t50::[]), h2)) ())) ())) := by rw [awp_eq]; kernel_rfl
noncomputable def c9_27 : Code := cr c9_25
theorem w9_27 : awp X n c9_27 Q st = Q .ret st := by rw [awp_eq]; kernel_rfl
theorem w9_25 : awp X n c9_25 Q st = awp X n c9_26 (thenQ (awp X n c9_27 Q) Q) st := by rw [awp_eq]; kernel_rfl
theorem w9_4 : awp X n c9_4 Q st = awp X n c9_5 (thenQ (awp X n c9_25 Q) Q) st := by rw [awp_eq]; kernel_rfl
theorem w9_2 : awp X n c9_2 Q st = awp X n c9_3 (thenQ (awp X n c9_4 Q) Q) st := by rw [awp_eq]; kernel_rfl
theorem w9_0 : awp X n c9_0 Q st = awp X n c9_1 (thenQ (awp X n c9_2 Q) Q) st := by rw [awp_eq]; kernel_rfl
theorem q9_ret : retQ X Try.f9 K .ret ((a0::a1::a2::a3::a4::a5::a6::a7::a8::a9::b0::b1::b2::b3::b4::b5::b6::b7::b8::b9::d0::d1::d2::d3::d4::d5::d6::d7::d8::d9::e0::e1::e2::e3::e4::e5::e6::e7::e8::e9::f0::f1::f2::f3::f4::f5::f6::f7::f8::f9::g0::[]), h) = (K.K a6 h) := by kernel_rfl
theorem q9_normal : retQ X Try.f9 K .normal ((a0::a1::a2::a3::a4::a5::a6::a7::a8::a9::b0::b1::b2::b3::b4::b5::b6::b7::b8::b9::d0::d1::d2::d3::d4::d5::d6::d7::d8::d9::e0::e1::e2::e3::e4::e5::e6::e7::e8::e9::f0::f1::f2::f3::f4::f5::f6::f7::f8::f9::g0::[]), h) = (K.K a6 h) := by kernel_rfl
theorem i9 (H : awp X h.length c9_0 (retQ X Try.f9 K) ((a0::a1::a2::.bad::.bad::.bad::.bad::.bad::.bad::.bad::.bad::.bad::.bad::.bad::.bad::.bad::.bad::.bad::.bad::.bad::.bad::.bad::.bad::.bad::.bad::.bad::.bad::.bad::.bad::.bad::.bad::.bad::.bad::.bad::.bad::.bad::.bad::.bad::.bad::.bad::.bad::.bad::.bad::.bad::.bad::.bad::.bad::.bad::.bad::.bad::.bad::[]), h)) : ACall X 9 [a0, a1, a2] h K := acall_intro (fn := Try.f9) (by kernel_rfl) (by kernel_rfl) (by kernel_rfl) H
noncomputable def R9 := And.intro (And.intro (And.intro (And.intro (w9_1) (And.intro w9_3 w9_6)) (And.intro (And.intro w9_10 w9_13) (And.intro w9_14 w9_12))) (And.intro (And.intro (And.intro w9_18 w9_20) (And.intro w9_22 w9_23)) (And.intro (And.intro w9_21 w9_19) (And.intro w9_17 w9_16)))) (And.intro (And.intro (And.intro (w9_24) (And.intro w9_15 w9_11)) (And.intro (And.intro w9_9 w9_8) (And.intro w9_7 w9_5))) (And.intro (And.intro (And.intro w9_26 w9_27) (And.intro w9_25 w9_4)) (And.intro (And.intro w9_2 w9_0) (And.intro q9_ret q9_normal))))
/-! function 10: sindri/sindriref24.At -/
noncomputable def c10_0 : Code := bodyOf Try.f10
noncomputable def c10_1 : Code := cl c10_0
theorem w10_1 : awp X n c10_1 Q ((a0::a1::a2::a3::a4::a5::a6::a7::a8::a9::b0::b1::b2::b3::b4::b5::b6::b7::b8::b9::d0::d1::d2::d3::d4::d5::d6::d7::d8::d9::e0::e1::e2::e3::e4::e5::e6::e7::e8::e9::f0::f1::f2::f3::f4::f5::f6::f7::f8::f9::g0::g1::g2::g3::g4::g5::g6::g7::g8::g9::j0::j1::j2::j3::j4::j5::j6::j7::j8::j9::k0::k1::k2::k3::k4::[]), h) = (a_mov (.v (.slice none 0 0)) h (.c (fun t6 h1 => Q .normal ((a0::a1::a2::a3::a4::a5::t6::a7::a8::a9::b0::b1::b2::b3::b4::b5::b6::b7::b8::b9::d0::d1::d2::d3::d4::d5::d6::d7::d8::d9::e0::e1::e2::e3::e4::e5::e6::e7::e8::e9::f0::f1::f2::f3::f4::f5::f6::f7::f8::f9::g0::g1::g2::g3::g4::g5::g6::g7::g8::g9::j0::j1::j2::j3::j4::j5::j6::j7::j8::j9::k0::k1::k2::k3::k4::[]), h1)) ())) := by rw [awp_eq]; kernel_rfl
noncomputable def c10_2 : Code := cr c10_0
noncomputable def c10_3 : Code := cl c10_2
theorem w10_3 : awp X n c10_3 Q ((a0::a1::a2::a3::a4::a5::a6::a7::a8::a9::b0::b1::b2::b3::b4::b5::b6::b7::b8::b9::d0::d1::d2::d3::d4::d5::d6::d7::d8::d9::e0::e1::e2::e3::e4::e5::e6::e7::e8::e9::f0::f1::f2::f3::f4::f5::f6::f7::f8::f9::g0::g1::g2::g3::g4::g5::g6::g7::g8::g9::j0::j1::j2::j3::j4::j5::j6::j7::j8::j9::k0::k1::k2::k3::k4::[]), h) = (a_mov (.v (.slice none 0 0)) h (.c (fun t7 h1 => Q .normal ((a0::a1::a2::a3::a4::a5::a6::t7::a8::a9::b0::b1::b2::b3::b4::b5::b6::b7::b8::b9::d0::d1::d2::d3::d4::d5::d6::d7::d8::d9::e0::e1::e2::e3::e4::e5::e6::e7::e8::e9::f0::f1::f2::f3::f4::f5::f6::f7::f8::f9::g0::g1::g2::g3::g4::g5::g6::g7::g8::g9::j0::j1::j2::j3::j4::j5::j6::j7::j8::j9::k0::k1::k2::k3::k4::[]), h1)) ())) := by rw [awp_eq]; kernel_rfl
noncomputable def c10_4 : Code := cr c10_2
noncomputable def c10_5 : Code := cl c10_4
theorem w10_5 : awp X n c10_5 Q ((a0::a1::a2::a3::a4::a5::a6::a7::a8::a9::b0::b1::b2::b3::b4::b5::b6::b7::b8::b9::d0::d1::d2::d3::d4::d5::d6::d7::d8::d9::e0::e1::e2::e3::e4::e5::e6::e7::e8::e9::f0::f1::f2::f3::f4::f5::f6::f7::f8::f9::g0::g1::g2::g3::g4::g5::g6::g7::g8::g9::j0::j1::j2::j3::j4::j5::j6::j7::j8::j9::k0::k1::k2::k3::k4::[]), h) = (a_mov a0 h (.c (fun t13 h1 => ACall X 28 [t13] h1 (.c (fun t14 h2 => a_mov t14 h2 (.c (fun t8 h3 => Q .normal ((a0::a1::a2::a3::a4::a5::a6::a7::t8::a9::b0::b1::b2::t13::t14::b5::b6::b7::b8::b9::d0::d1::d2::d3::d4::d5::d6::d7::d8::d9::e0::e1::e2::e3::e4::e5::e6::e7::e8::e9::f0::f1::f2::f3::f4::f5::f6::f7::f8::f9::g0::g1::g2::g3::g4::g5::g6::g7::g8::g9::j0::j1::j2::j3::j4::j5::j6::j7::j8::j9::k0::k1::k2::k3::k4::[]), h3)) ())) ())) ())) := by rw [awp_eq]; kernel_rfl
noncomputable def c10_6 : Code := cr c10_4
noncomputable def c10_7 : Code := cl c10_6
noncomputable def c10_8 : Code := cl c10_7
theorem w10_8 : awp X n c10_8 Q ((a0::a1::a2::a3::a4::a5::a6::a7::a8::a9::b0::b1::b2::b3::b4::b5::b6::b7::b8::b9::d0::d1::d2::d3::d4::d5::d6::d7::d8::d9::e0::e1::e2::e3::e4::e5::e6::e7::e8::e9::f0::f1::f2::f3::f4::f5::f6::f7::f8::f9::g0::g1::g2::g3::g4::g5::g6::g7::g8::g9::j0::j1::j2::j3::j4::j5::j6::j7::j8::j9::k0::k1::k2::k3::k4::[]), h) = (a_mov (.v (.int .i64 0)) h (.c (fun t9 h1 => Q .normal ((a0::a1::a2::a3::a4::a5::a6::a7::a8::t9::b0::b1::b2::b3::b4::b5::b6::b7::b8::b9::d0::d1::d2::d3::d4::d5::d6::d7::d8::d9::e0::e1::e2::e3::e4::e5::e6::e7::e8::e9::f0::f1::f2::f3::f4::f5::f6::f7::f8::f9::g0::g1::g2::g3::g4::g5::g6::g7::g8::g9::j0::j1::j2::j3::j4::j5::j6::j7::j8::j9::k0::k1::k2::k3::k4::[]), h1)) ())) := by rw [awp_eq]; kernel_rfl
noncomputable def c10_9 : Code := cr c10_7
noncomputable def c10_10 : Code := cl c10_9
noncomputable def c10_11 : Code := cl c10_10
noncomputable def c10_12 : Code := cl c10_11
noncomputable def c10_13 : Code := cl c10_12
theorem w10_13 : awp X n c10_13 Q ((a0::a1::a2::a3::a4::a5::a6::a7::a8::a9::b0::b1::b2::b3::b4::b5::b6::b7::b8::b9::d0::d1::d2::d3::d4::d5::d6::d7::d8::d9::e0::e1::e2::e3::e4::e5::e6::e7::e8::e9::f0::f1::f2::f3::f4::f5::f6::f7::f8::f9::g0::g1::g2::g3::g4::g5::g6::g7::g8::g9::j0::j1::j2::j3::j4::j5::j6::j7::j8::j9::k0::k1::k2::k3::k4::[]), h) = (a_mov a9 h (.c (fun t15 h1 => a_mov a8 h1 (.c (fun t16 h2 => a_len t16 h2 (.c (fun t17 h3 => a_bin .lss t15 t17 h3 (.c (fun t18 h4 => Q .normal ((a0::a1::a2::a3::a4::a5::a6::a7::a8::a9::b0::b1::b2::b3::b4::t15::t16::t17::t18::b9::d0::d1::d2::d3::d4::d5::d6::d7::d8::d9::e0::e1::e2::e3::e4::e5::e6::e7::e8::e9::f0::f1::f2::f3::f4::f5::f6::f7::f8::f9::g0::g1::g2::g3::g4::g5::g6::g7::g8::g9::j0::j1::j2::j3::j4::j5::j6::j7::j8::j9::k0::k1::k2::k3::k4::[]), h4)) ())) ())) ())) ())) := by rw [awp_eq]; kernel_rfl
noncomputable def c10_14 : Code := cr c10_12
noncomputable def c10_15 : Code := cl c10_14
theorem w10_15 : awp X n c10_15 Q st = Q .normal st := by rw [awp_eq]; kernel_rfl
noncomputable def c10_16 : Code := cr c10_14
theorem w10_16 : awp X n c10_16 Q st = Q (.exit 0) st := by rw [awp_eq]; kernel_rfl
theorem w10_14 : awp X n c10_14 Q ((a0::a1::a2::a3::a4::a5::a6::a7::a8::a9::b0::b1::b2::b3::b4::b5::b6::b7::b8::b9::d0::d1::d2::d3::d4::d5::d6::d7::d8::d9::e0::e1::e2::e3::e4::e5::e6::e7::e8::e9::f0::f1::f2::f3::f4::f5::f6::f7::f8::f9::g0::g1::g2::g3::g4::g5::g6::g7::g8::g9::j0::j1::j2::j3::j4::j5::j6::j7::j8::j9::k0::k1::k2::k3::k4::[]), h) = a_cond b8 (awp X n c10_15 Q ((a0::a1::a2::a3::a4::a5::a6::a7::a8::a9::b0::b1::b2::b3::b4::b5::b6::b7::b8::b9::d0::d1::d2::d3::d4::d5::d6::d7::d8::d9::e0::e1::e2::e3::e4::e5::e6::e7::e8::e9::f0::f1::f2::f3::f4::f5::f6::f7::f8::f9::g0::g1::g2::g3::g4::g5::g6::g7::g8::g9::j0::j1::j2::j3::j4::j5::j6::j7::j8::j9::k0::k1::k2::k3::k4::[]), h)) (awp X n c10_16 Q ((a0::a1::a2::a3::a4::a5::a6::a7::a8::a9::b0::b1::b2::b3::b4::b5::b6::b7::b8::b9::d0::d1::d2::d3::d4::d5::d6::d7::d8::d9::e0::e1::e2::e3::e4::e5::e6::e7::e8::e9::f0::f1::f2::f3::f4::f5::f6::f7::f8::f9::g0::g1::g2::g3::g4::g5::g6::g7::g8::g9::j0::j1::j2::j3::j4::j5::j6::j7::j8::j9::k0::k1::k2::k3::k4::[]), h)) := by rw [awp_eq]; kernel_rfl
theorem w10_12 : awp X n c10_12 Q st = awp X n c10_13 (thenQ (awp X n c10_14 Q) Q) st := by rw [awp_eq]; kernel_rfl
noncomputable def c10_17 : Code := cr c10_11
noncomputable def c10_18 : Code := cl c10_17
noncomputable def c10_19 : Code := cl c10_18
noncomputable def c10_20 : Code := cl c10_19
theorem w10_20 : awp X n c10_20 Q ((a0::a1::a2::a3::a4::a5::a6::a7::a8::a9::b0::b1::b2::b3::b4::b5::b6::b7::b8::b9::d0::d1::d2::d3::d4::d5::d6::d7::d8::d9::e0::e1::e2::e3::e4::e5::e6::e7::e8::e9::f0::f1::f2::f3::f4::f5::f6::f7::f8::f9::g0::g1::g2::g3::g4::g5::g6::g7::g8::g9::j0::j1::j2::j3::j4::j5::j6::j7::j8::j9::k0::k1::k2::k3::k4::[]), h) = (a_mov a8 h (.c (fun t21 h1 => a_mov a9 h1 (.c (fun t22 h2 => a_ia 1 t21 t22 h2 (.c (fun t23 h3 => a_load 1 false t23 h3 (.c (fun t24 h4 => a_mov t24 h4 (.c (fun t10 h5 => Q .normal ((a0::a1::a2::a3::a4::a5::a6::a7::a8::a9::t10::b1::b2::b3::b4::b5::b6::b7::b8::b9::d0::t21::t22::t23::t24::d5::d6::d7::d8::d9::e0::e1::e2::e3::e4::e5::e6::e7::e8::e9::f0::f1::f2::f3::f4::f5::f6::f7::f8::f9::g0::g1::g2::g3::g4::g5::g6::g7::g8::g9::j0::j1::j2::j3::j4::j5::j6::j7::j8::j9::k0::k1::k2::k3::k4::[]), h5)) ())) ())) ())) ())) ())) := by rw [awp_eq]; kernel_rfl
noncomputable def c10_21 : Code := cr c10_19
noncomputable def c10_22 : Code := cl c10_21
theorem w10_22 : awp X n c10_22 Q ((a0::a1::a2::a3::a4::a5::a6::a7::a8::a9::b0::b1::b2::b3::b4::b5::b6::b7::b8::b9::d0::d1::d2::d3::d4::d5::d6::d7::d8::d9::e0::e1::e2::e3::e4::e5::e6::e7::e8::e9::f0::f1::f2::f3::f4::f5::f6::f7::f8::f9::g0::g1::g2::g3::g4::g5::g6::g7::g8::g9::j0::j1::j2::j3::j4::j5::j6::j7::j8::j9::k0::k1::k2::k3::k4::[]), h) = (a_mov (.v (.int .i64 0)) h (.c (fun t11 h1 => Q .normal ((a0::a1::a2::a3::a4::a5::a6::a7::a8::a9::b0::t11::b2::b3::b4::b5::b6::b7::b8::b9::d0::d1::d2::d3::d4::d5::d6::d7::d8::d9::e0::e1::e2::e3::e4::e5::e6::e7::e8::e9::f0::f1::f2::f3::f4::f5::f6::f7::f8::f9::g0::g1::g2::g3::g4::g5::g6::g7::g8::g9::j0::j1::j2::j3::j4::j5::j6::j7::j8::j9::k0::k1::k2::k3::k4::[]), h1)) ())) := by rw [awp_eq]; kernel_rfl
noncomputable def c10_23 : Code := cr c10_21
noncomputable def c10_24 : Code := cl c10_23
noncomputable def c10_25 : Code := cl c10_24
noncomputable def c10_26 : Code := cl c10_25
noncomputable def c10_27 : Code := cl c10_26
theorem w10_27 : awp X n c10_27 Q ((a0::a1::a2::a3::a4::a5::a6::a7::a8::a9::b0::b1::b2::b3::b4::b5::b6::b7::b8::b9::d0::d1::d2::d3::d4::d5::d6::d7::d8::d9::e0::e1::e2::e3::e4::e5::e6::e7::e8::e9::f0::f1::f2::f3::f4::f5::f6::f7::f8::f9::g0::g1::g2::g3::g4::g5::g6::g7::g8::g9::j0::j1::j2::j3::j4::j5::j6::j7::j8::j9::k0::k1::k2::k3::k4::[]), h) = (a_mov b1 h (.c (fun t25 h1 => a_bin .add t25 (.v (.int .i64 1)) h1 (.c (fun t26 h2 => a_mov b0 h2 (.c (fun t27 h3 => a_len t27 h3 (.c (fun t28 h4 => a_bin .lss t26 t28 h4 (.c (fun t29 h5 => Q .normal ((a0::a1::a2::a3::a4::a5::a6::a7::a8::a9::b0::b1::b2::b3::b4::b5::b6::b7::b8::b9::d0::d1::d2::d3::d4::t25::t26::t27::t28::t29::e0::e1::e2::e3::e4::e5::e6::e7::e8::e9::f0::f1::f2::f3::f4::f5::f6::f7::f8::f9::g0::g1::g2::g3::g4::g5::g6::g7::g8::g9::j0::j1::j2::j3::j4::j5::j6::j7::j8::j9::k0::k1::k2::k3::k4::[]), h5)) ())) ())) ())) ())) ())) := by rw [awp_eq]; kernel_rfl
noncomputable def c10_28 : Code := cr c10_26
noncomputable def c10_29 : Code := cl c10_28
theorem w10_29 : awp X n c10_29 Q st = Q .normal st := by rw [awp_eq]; kernel_rfl
noncomputable def c10_30 : Code := cr c10_28
theorem w10_30 : awp X n c10_30 Q st = Q (.exit 2) st := by rw [awp_eq]; kernel_rfl
theorem w10_28 : awp X n c10_28 Q ((a0::a1::a2::a3::a4::a5::a6::a7::a8::a9::b0::b1::b2::b3::b4::b5::b6::b7::b8::b9::d0::d1::d2::d3::d4::d5::d6::d7::d8::d9::e0::e1::e2::e3::e4::e5::e6::e7::e8::e9::f0::f1::f2::f3::f4::f5::f6::f7::f8::f9::g0::g1::g2::g3::g4::g5::g6::g7::g8::g9::j0::j1::j2::j3::j4::j5::j6::j7::j8::j9::k0::k1::k2::k3::k4::[]), h) = a_cond d9 (awp X n c10_29 Q ((a0::a1::a2::a3::a4::a5::a6::a7::a8::a9::b0::b1::b2::b3::b4::b5::b6::b7::b8::b9::d0::d1::d2::d3::d4::d5::d6::d7::d8::d9::e0::e1::e2::e3::e4::e5::e6::e7::e8::e9::f0::f1::f2::f3::f4::f5::f6::f7::f8::f9::g0::g1::g2::g3::g4::g5::g6::g7::g8::g9::j0::j1::j2::j3::j4::j5::j6::j7::j8::j9::k0::k1::k2::k3::k4::[]), h)) (awp X n c10_30 Q ((a0::a1::a2::a3::a4::a5::a6::a7::a8::a9::b0::b1::b2::b3::b4::b5::b6::b7::b8::b9::d0::d1::d2::d3::d4::d5::d6::d7::d8::d9::e0::e1::e2::e3::e4::e5::e6::e7::e8::e9::f0::f1::f2::f3::f4::f5::f6::f7::f8::f9::g0::g1::g2::g3::g4::g5::g6::g7::g8::g9::j0::j1::j2::j3::j4::j5::j6::j7::j8::j9::k0::k1::k2::k3::k4::[]), h)) := by rw [awp_eq]; kernel_rfl
theorem w10_26 : awp X n c10_26 Q st = awp X n c10_27 (thenQ (awp X n c10_28 Q) Q) st := by rw [awp_eq]; kernel_rfl
noncomputable def c10_31 : Code := cr c10_25
noncomputable def c10_32 : Code := cl c10_31
noncomputable def c10_33 : Code := cl c10_32
noncomputable def c10_34 : Code := cl c10_33
theorem w10_34 : awp X n c10_34 Q ((a0::a1::a2::a3::a4::a5::a6::a7::a8::a9::b0::b1::b2::b3::b4::b5::b6::b7::b8::b9::d0::d1::d2::d3::d4::d5::d6::d7::d8::d9::e0::e1::e2::e3::e4::e5::e6::e7::e8::e9::f0::f1::f2::f3::f4::f5::f6::f7::f8::f9::g0::g1::g2::g3::g4::g5::g6::g7::g8::g9::j0::j1::j2::j3::j4::j5::j6::j7::j8::j9::k0::k1::k2::k3::k4::[]), h) = (a_mov b0 h (.c (fun t32 h1 => a_mov b1 h1 (.c (fun t33 h2 => a_ia 11 t32 t33 h2 (.c (fun t34 h3 => a_load 11 true t34 h3 (.c (fun t35 h4 => a_alloc [.v (.int .u64 0), .v (.int .i64 0), .v (.int .i64 0), .v (.int .i64 0), .v (.bool false), .v (.bool false), .v (.bool false), .v (.bool false), .v (.bool false), .v (.int .u64 0), .v (.int .u64 0)] h4 (.c (fun t12 h5 => a_store 11 t12 t35 h5 (.c (fun _v5 h6 => Q .normal ((a0::a1::a2::a3::a4::a5::a6::a7::a8::a9::b0::b1::t12::b3::b4::b5::b6::b7::b8::b9::d0::d1::d2::d3::d4::d5::d6::d7::d8::d9::e0::e1::t32::t33::t34::t35::e6::e7::e8::e9::f0::f1::f2::f3::f4::f5::f6::f7::f8::f9::g0::g1::g2::g3::g4::g5::g6::g7::g8::g9::j0::j1::j2::j3::j4::j5::j6::j7::j8::j9::k0::k1::k2::k3::k4::[]), h6)) ())) ())) ())) ())) ())) ())) := by rw [awp_eq]; kernel_rfl
noncomputable def c10_35 : Code := cr c10_33
noncomputable def c10_36 : Code := cl c10_35
theorem w10_36 : awp X n c10_36 Q ((a0::a1::a2::a3::a4::a5::a6::a7::a8::a9::b0::b1::b2::b3::b4::b5::b6::b7::b8::b9::d0::d1::d2::d3::d4::d5::d6::d7::d8::d9::e0::e1::e2::e3::e4::e5::e6::e7::e8::e9::f0::f1::f2::f3::f4::f5::f6::f7::f8::f9::g0::g1::g2::g3::g4::g5::g6::g7::g8::g9::j0::j1::j2::j3::j4::j5::j6::j7::j8::j9::k0::k1::k2::k3::k4::[]), h) = (a_mov a2 h (.c (fun t36 h1 => a_fa 0 b2 h1 (.c (fun t37 h2 => a_load 1 false t37 h2 (.c (fun t38 h3 => a_bin .geq t36 t38 h3 (.c (fun t39 h4 => a_mov t39 h4 (.c (fun t40 h5 => a_on t40 true (fun k => a_mov a2 h5 k) h5 (.c (fun t41 h6 => a_on t40 true (fun k => a_mov b0 h6 k) h6 (.c (fun t42 h7 => a_on t40 true (fun k => a_mov b1 h7 k) h7 (.c (fun t43 h8 => a_on t40 true (fun k => a_bin .add t43 (.v (.int .i64 1)) h8 k) h8 (.c (fun t44 h9 => a_on t40 true (fun k => a_ia 11 t42 t44 h9 k) h9 (.c (fun t45 h10 => a_on t40 true (fun k => a_fa 0 t45 h10 k) h10 (.c (fun t46 h11 => a_on t40 true (fun k => a_load 1 false t46 h11 k) h11 (.c (fun t47 h12 => a_on t40 true (fun k => a_bin .lss t41 t47 h12 k) h12 (.c (fun t48 h13 => a_pick t40 t48 (.v (.bool false)) h13 (.c (fun t49 h14 => Q .normal ((a0::a1::a2::a3::a4::a5::a6::a7::a8::a9::b0::b1::b2::b3::b4::b5::b6::b7::b8::b9::d0::d1::d2::d3::d4::d5::d6::d7::d8::d9::e0::e1::e2::e3::e4::e5::t36::t37::t38::t39::t40::t41::t42::t43::t44::t45::t46::t47::t48::t49::g0::g1::g2::g3::g4::g5::g6::g7::g8::g9::j0::j1::j2::j3::j4::j5::j6::j7::j8::j9::k0::k1::k2::k3::k4::[]), h14)) ())) ())) ())) ())) ())) ())) ())) ())) ())) ())) ())) ())) ())) ())) := by rw [awp_eq]; kernel_rfl
noncomputable def c10_37 : Code := cr c10_35
noncomputable def c10_38 : Code := cl c10_37
theorem w10_38 : awp X n c10_38 Q ((a0::a1::a2::a3::a4::a5::a6::a7::a8::a9::b0::b1::b2::b3::b4::b5::b6::b7::b8::b9::d0::d1::d2::d3::d4::d5::d6::d7::d8::d9::e0::e1::e2::e3::e4::e5::e6::e7::e8::e9::f0::f1::f2::f3::f4::f5::f6::f7::f8::f9::g0::g1::g2::g3::g4::g5::g6::g7::g8::g9::j0::j1::j2::j3::j4::j5::j6::j7::j8::j9::k0::k1::k2::k3::k4::[]), h) = (a_mov a7 h (.c (fun t50 h1 => a_mov a1 h1 (.c (fun t51 h2 => a_fa 1 b2 h2 (.c (fun t52 h3 => a_load 1 false t52 h3 (.c (fun t53 h4 => a_fa 2 b2 h4 (.c (fun t55 h5 => a_load 1 false t55 h5 (.c (fun t56 h6 => a_fa 3 b2 h6 (.c (fun t57 h7 => a_load 1 false t57 h7 (.c (fun t58 h8 => a_fa 4 b2 h8 (.c (fun t59 h9 => a_load 1 false t59 h9 (.c (fun t60 h10 => a_fa 5 b2 h10 (.c (fun t61 h11 => a_load 1 false t61 h11 (.c (fun t62 h12 => a_fa 6 b2 h12 (.c (fun t63 h13 => a_load 1 false t63 h13 (.c (fun t64 h14 => a_fa 7 b2 h14 (.c (fun t65 h15 => a_load 1 false t65 h15 (.c (fun t66 h16 => a_fa 9 b2 h16 (.c (fun t67 h17 => a_load 1 false t67 h17 (.c (fun t68 h18 => a_fa 10 b2 h18 (.c (fun t69 h19 => a_load 1 false t69 h19 (.c (fun t70 h20 => ACall X 15 [t51, t53] h20 (.c (fun t54 h21 => conj [a_load 1 false t69 h21 (.c (fun v_ _ => v_ = t70) ()), a_load 1 false t67 h21 (.c (fun v_ _ => v_ = t68) ()), a_load 1 false t65 h21 (.c (fun v_ _ => v_ = t66) ()), a_load 1 false t63 h21 (.c (fun v_ _ => v_ = t64) ()), a_load 1 false t61 h21 (.c (fun v_ _ => v_ = t62) ()), a_load 1 false t59 h21 (.c (fun v_ _ => v_ = t60) ()), a_load 1 false t57 h21 (.c (fun v_ _ => v_ = t58) ()), a_load 1 false t55 h21 (.c (fun v_ _ => v_ = t56) ())] ∧ (a_build [.v (.string ⟨#[]⟩), .v (.int .i64 0), .v (.int .i64 0), .v (.bool false), .v (.bool false), .v (.bool false), .v (.bool false), .v (.int .u64 0), .v (.int .u64 0)] [(0, 1, t54), (1, 1, t56), (2, 1, t58), (3, 1, t60), (4, 1, t62), (5, 1, t64), (6, 1, t66), (7, 1, t68), (8, 1, t70)] h21 (.c (fun t71 h22 => a_lit 9 1 [.v (.string ⟨#[]⟩), .v (.int .i64 0), .v (.int .i64 0), .v (.bool false), .v (.bool false), .v (.bool false), .v (.bool false), .v (.int .u64 0), .v (.int .u64 0)] [(0, 9, t71)] h22 (.c (fun t72 h23 => conj [] ∧ (a_app 9 56 t50 t72 h23 (.c (fun t73 h24 => conj [] ∧ (a_mov t73 h24 (.c (fun t7 h25 => Q .normal ((a0::a1::a2::a3::a4::a5::a6::t7::a8::a9::b0::b1::b2::b3::b4::b5::b6::b7::b8::b9::d0::d1::d2::d3::d4::d5::d6::d7::d8::d9::e0::e1::e2::e3::e4::e5::e6::e7::e8::e9::f0::f1::f2::f3::f4::f5::f6::f7::f8::f9::t50::t51::t52::t53::t54::t55::t56::t57::t58::t59::t60::t61::t62::t63::t64::t65::t66::t67::t68::t69::t70::t71::t72::t73::k4::[]), h25)) ()))) ()))) ())) ()))) ())) ())) ())) ())) ())) ())) ())) ())) ())) ())) ())) ())) ())) ())) ())) ())) ())) ())) ())) ())) ())) := by rw [awp_eq]; kernel_rfl
noncomputable def c10_39 : Code := cr c10_37
theorem w10_39 : awp X n c10_39 Q st = Q .normal st := by rw [awp_eq]; kernel_rfl
theorem w10_37 : awp X n c10_37 Q ((a0::a1::a2::a3::a4::a5::a6::a7::a8::a9::b0::b1::b2::b3::b4::b5::b6::b7::b8::b9::d0::d1::d2::d3::d4::d5::d6::d7::d8::d9::e0::e1::e2::e3::e4::e5::e6::e7::e8::e9::f0::f1::f2::f3::f4::f5::f6::f7::f8::f9::g0::g1::g2::g3::g4::g5::g6::g7::g8::g9::j0::j1::j2::j3::j4::j5::j6::j7::j8::j9::k0::k1::k2::k3::k4::[]), h) = a_cond f9 (awp X n c10_38 Q ((a0::a1::a2::a3::a4::a5::a6::a7::a8::a9::b0::b1::b2::b3::b4::b5::b6::b7::b8::b9::d0::d1::d2::d3::d4::d5::d6::d7::d8::d9::e0::e1::e2::e3::e4::e5::e6::e7::e8::e9::f0::f1::f2::f3::f4::f5::f6::f7::f8::f9::g0::g1::g2::g3::g4::g5::g6::g7::g8::g9::j0::j1::j2::j3::j4::j5::j6::j7::j8::j9::k0::k1::k2::k3::k4::[]), h)) (awp X n c10_39 Q ((a0::a1::a2::a3::a4::a5::a6::a7::a8::a9::b0::b1::b2::b3::b4::b5::b6::b7::b8::b9::d0::d1::d2::d3::d4::d5::d6::d7::d8::d9::e0::e1::e2::e3::e4::e5::e6::e7::e8::e9::f0::f1::f2::f3::f4::f5::f6::f7::f8::f9::g0::g1::g2::g3::g4::g5::g6::g7::g8::g9::j0::j1::j2::j3::j4::j5::j6::j7::j8::j9::k0::k1::k2::k3::k4::[]), h)) := by rw [awp_eq]; kernel_rfl
theorem w10_35 : awp X n c10_35 Q st = awp X n c10_36 (thenQ (awp X n c10_37 Q) Q) st := by rw [awp_eq]; kernel_rfl
theorem w10_33 : awp X n c10_33 Q st = awp X n c10_34 (thenQ (awp X n c10_35 Q) Q) st := by rw [awp_eq]; kernel_rfl
theorem w10_32 : awp X n c10_32 Q st = awp X n c10_33 (blockQ 3 Q) st := by rw [awp_eq]; kernel_rfl
noncomputable def c10_40 : Code := cr c10_31
theorem w10_40 : awp X n c10_40 Q ((a0::a1::a2::a3::a4::a5::a6::a7::a8::a9::b0::b1::b2::b3::b4::b5::b6::b7::b8::b9::d0::d1::d2::d3::d4::d5::d6::d7::d8::d9::e0::e1::e2::e3::e4::e5::e6::e7::e8::e9::f0::f1::f2::f3::f4::f5::f6::f7::f8::f9::g0::g1::g2::g3::g4::g5::g6::g7::g8::g9::j0::j1::j2::j3::j4::j5::j6::j7::j8::j9::k0::k1::k2::k3::k4::[]), h) = (a_mov b1 h (.c (fun t30 h1 => a_bin .add t30 (.v (.int .i64 1)) h1 (.c (fun t31 h2 => a_mov t31 h2 (.c (fun t11 h3 => Q .normal ((a0::a1::a2::a3::a4::a5::a6::a7::a8::a9::b0::t11::b2::b3::b4::b5::b6::b7::b8::b9::d0::d1::d2::d3::d4::d5::d6::d7::d8::d9::t30::t31::e2::e3::e4::e5::e6::e7::e8::e9::f0::f1::f2::f3::f4::f5::f6::f7::f8::f9::g0::g1::g2::g3::g4::g5::g6::g7::g8::g9::j0::j1::j2::j3::j4::j5::j6::j7::j8::j9::k0::k1::k2::k3::k4::[]), h3)) ())) ())) ())) := by rw [awp_eq]; kernel_rfl
theorem w10_31 : awp X n c10_31 Q st = awp X n c10_32 (thenQ (awp X n c10_40 Q) Q) st := by rw [awp_eq]; kernel_rfl
theorem w10_25 : awp X n c10_25 Q st = awp X n c10_26 (thenQ (awp X n c10_31 Q) Q) st := by rw [awp_eq]; kernel_rfl
theorem w10_24 : awp X n c10_24 Q st = ALoop X n c10_25 Q st := by rw [awp_eq]; kernel_rfl
theorem w10_23 : awp X n c10_23 Q st = awp X n c10_24 (blockQ 2 Q) st := by rw [awp_eq]; kernel_rfl
theorem w10_21 : awp X n c10_21 Q st = awp X n c10_22 (thenQ (awp X n c10_23 Q) Q) st := by rw [awp_eq]; kernel_rfl
theorem w10_19 : awp X n c10_19 Q st = awp X n c10_20 (thenQ (awp X n c10_21 Q) Q) st := by rw [awp_eq]; kernel_rfl
theorem w10_18 : awp X n c10_18 Q st = awp X n c10_19 (blockQ 1 Q) st := by rw [awp_eq]; kernel_rfl
noncomputable def c10_41 : Code := cr c10_17
theorem w10_41 : awp X n c10_41 Q ((a0::a1::a2::a3::a4::a5::a6::a7::a8::a9::b0::b1::b2::b3::b4::b5::b6::b7::b8::b9::d0::d1::d2::d3::d4::d5::d6::d7::d8::d9::e0::e1::e2::e3::e4::e5::e6::e7::e8::e9::f0::f1::f2::f3::f4::f5::f6::f7::f8::f9::g0::g1::g2::g3::g4::g5::g6::g7::g8::g9::j0::j1::j2::j3::j4::j5::j6::j7::j8::j9::k0::k1::k2::k3::k4::[]), h) = (a_mov a9 h (.c (fun t19 h1 => a_bin .add t19 (.v (.int .i64 1)) h1 (.c (fun t20 h2 => a_mov t20 h2 (.c (fun t9 h3 => Q .normal ((a0::a1::a2::a3::a4::a5::a6::a7::a8::t9::b0::b1::b2::b3::b4::b5::b6::b7::b8::t19::t20::d1::d2::d3::d4::d5::d6::d7::d8::d9::e0::e1::e2::e3::e4::e5::e6::e7::e8::e9::f0::f1::f2::f3::f4::f5::f6::f7::f8::f9::g0::g1::g2::g3::g4::g5::g6::g7::g8::g9::j0::j1::j2::j3::j4::j5::j6::j7::j8::j9::k0::k1::k2::k3::k4::[]), h3)) ())) ())) ())) := by rw [awp_eq]; kernel_rfl
theorem w10_17 : awp X n c10_17 Q st = awp X n c10_18 (thenQ (awp X n c10_41 Q) Q) st := by rw [awp_eq]; kernel_rfl
theorem w10_11 : awp X n c10_11 Q st = awp X n c10_12 (thenQ (awp X n c10_17 Q) Q) st := by rw [awp_eq]; kernel_rfl
theorem w10_10 : awp X n c10_10 Q st = ALoop X n c10_11 Q st := by rw [awp_eq]; kernel_rfl
theorem w10_9 : awp X n c10_9 Q st = awp X n c10_10 (blockQ 0 Q) st := by rw [awp_eq]; kernel_rfl
theorem w10_7 : awp X n c10_7 Q st = awp X n c10_8 (thenQ (awp X n c10_9 Q) Q) st := by rw [awp_eq]; kernel_rfl
noncomputable def c10_42 : Code := cr c10_6
noncomputable def c10_43 : Code := cl c10_42
theorem w10_43 : awp X n c10_43 Q ((a0::a1::a2::a3::a4::a5::a6::a7::a8::a9::b0::b1::b2::b3::b4::b5::b6::b7::b8::b9::d0::d1::d2::d3::d4::d5::d6::d7::d8::d9::e0::e1::e2::e3::e4::e5::e6::e7::e8::e9::f0::f1::f2::f3::f4::f5::f6::f7::f8::f9::g0::g1::g2::g3::g4::g5::g6::g7::g8::g9::j0::j1::j2::j3::j4::j5::j6::j7::j8::j9::k0::k1::k2::k3::k4::[]), h) = (a_mov a7 h (.c (fun t74 h1 => a_mov t74 h1 (.c (fun t6 h2 => Q .normal ((a0::a1::a2::a3::a4::a5::t6::a7::a8::a9::b0::b1::b2::b3::b4::b5::b6::b7::b8::b9::d0::d1::d2::d3::d4::d5::d6::d7::d8::d9::e0::e1::e2::e3::e4::e5::e6::e7::e8::e9::f0::f1::f2::f3::f4::f5::f6::f7::f8::f9::g0::g1::g2::g3::g4::g5::g6::g7::g8::g9::j0::j1::j2::j3::j4::j5::j6::j7::j8::j9::k0::k1::k2::k3::t74::[]), h2)) ())) ())) := by rw [awp_eq]; kernel_rfl
noncomputable def c10_44 : Code := cr c10_42
theorem w10_44 : awp X n c10_44 Q st = Q .ret st := by rw [awp_eq]; kernel_rfl
theorem w10_42 : awp X n c10_42 Q st = awp X n c10_43 (thenQ (awp X n c10_44 Q) Q) st := by rw [awp_eq]; kernel_rfl
theorem w10_6 : awp X n c10_6 Q st = awp X n c10_7 (thenQ (awp X n c10_42 Q) Q) st := by rw [awp_eq]; kernel_rfl
theorem w10_4 : awp X n c10_4 Q st = awp X n c10_5 (thenQ (awp X n c10_6 Q) Q) st := by rw [awp_eq]; kernel_rfl
theorem w10_2 : awp X n c10_2 Q st = awp X n c10_3 (thenQ (awp X n c10_4 Q) Q) st := by rw [awp_eq]; kernel_rfl
theorem w10_0 : awp X n c10_0 Q st = awp X n c10_1 (thenQ (awp X n c10_2 Q) Q) st := by rw [awp_eq]; kernel_rfl
theorem q10_ret : retQ X Try.f10 K .ret ((a0::a1::a2::a3::a4::a5::a6::a7::a8::a9::b0::b1::b2::b3::b4::b5::b6::b7::b8::b9::d0::d1::d2::d3::d4::d5::d6::d7::d8::d9::e0::e1::e2::e3::e4::e5::e6::e7::e8::e9::f0::f1::f2::f3::f4::f5::f6::f7::f8::f9::g0::g1::g2::g3::g4::g5::g6::g7::g8::g9::j0::j1::j2::j3::j4::j5::j6::j7::j8::j9::k0::k1::k2::k3::k4::[]), h) = (K.K a6 h) := by kernel_rfl
theorem q10_normal : retQ X Try.f10 K .normal ((a0::a1::a2::a3::a4::a5::a6::a7::a8::a9::b0::b1::b2::b3::b4::b5::b6::b7::b8::b9::d0::d1::d2::d3::d4::d5::d6::d7::d8::d9::e0::e1::e2::e3::e4::e5::e6::e7::e8::e9::f0::f1::f2::f3::f4::f5::f6::f7::f8::f9::g0::g1::g2::g3::g4::g5::g6::g7::g8::g9::j0::j1::j2::j3::j4::j5::j6::j7::j8::j9::k0::k1::k2::k3::k4::[]), h) = (K.K a6 h) := by kernel_rfl
theorem i10 (H : awp X h.length c10_0 (retQ X Try.f10 K) ((a0::a1::a2::.bad::.bad::.bad::.bad::.bad::.bad::.bad::.bad::.bad::.bad::.bad::.bad::.bad::.bad::.bad::.bad::.bad::.bad::.bad::.bad::.bad::.bad::.bad::.bad::.bad::.bad::.bad::.bad::.bad::.bad::.bad::.bad::.bad::.bad::.bad::.bad::.bad::.bad::.bad::.bad::.bad::.bad::.bad::.bad::.bad::.bad::.bad::.bad::.bad::.bad::.bad::.bad::.bad::.bad::.bad::.bad::.bad::.bad::.bad::.bad::.bad::.bad::.bad::.bad::.bad::.bad::.bad::.bad::.bad::.bad::.bad::.bad::[]), h)) : ACall X 10 [a0, a1, a2] h K := acall_intro (fn := Try.f10) (by kernel_rfl) (by kernel_rfl) (by kernel_rfl) H
noncomputable def R10 := And.intro (And.intro (And.intro (And.intro (And.intro w10_1 w10_3) (And.intro (w10_5) (And.intro w10_8 w10_13))) (And.intro (And.intro (w10_15) (And.intro w10_16 w10_14)) (And.intro (w10_12) (And.intro w10_20 w10_22)))) (And.intro (And.intro (And.intro (w10_27) (And.intro w10_29 w10_30)) (And.intro (w10_28) (And.intro w10_26 w10_34))) (And.intro (And.intro (w10_36) (And.intro w10_38 w10_39)) (And.intro (w10_37) (And.intro w10_35 w10_33))))) (And.intro (And.intro (And.intro (And.intro (w10_32) (And.intro w10_40 w10_31)) (And.intro (w10_25) (And.intro w10_24 w10_23))) (And.intro (And.intro (w10_21) (And.intro w10_19 w10_18)) (And.intro (w10_41) (And.intro w10_17 w10_11)))) (And.intro (And.intro (And.intro (w10_10) (And.intro w10_9 w10_7)) (And.intro (w10_43) (And.intro w10_44 w10_42))) (And.intro (And.intro (w10_6) (And.intro w10_4 w10_2)) (And.intro (w10_0) (And.intro q10_ret q10_normal)))))
/-! function 11: sindri/sindriref19.Ranges -/
noncomputable def c11_0 : Code := bodyOf Try.f11
noncomputable def c11_1 : Code := cl c11_0
theorem w11_1 : awp X n c11_1 Q ((a0::a1::a2::a3::a4::a5::a6::a7::a8::a9::b0::b1::b2::b3::b4::b5::b6::b7::b8::b9::d0::d1::d2::d3::d4::d5::[]), h) = (a_mov (.v (.bool false)) h (.c (fun t4 h1 => Q .normal ((a0::a1::a2::a3::t4::a5::a6::a7::a8::a9::b0::b1::b2::b3::b4::b5::b6::b7::b8::b9::d0::d1::d2::d3::d4::d5::[]), h1)) ())) := by rw [awp_eq]; kernel_rfl
noncomputable def c11_2 : Code := cr c11_0
noncomputable def c11_3 : Code := cl c11_2
noncomputable def c11_4 : Code := cl c11_3
theorem w11_4 : awp X n c11_4 Q ((a0::a1::a2::a3::a4::a5::a6::a7::a8::a9::b0::b1::b2::b3::b4::b5::b6::b7::b8::b9::d0::d1::d2::d3::d4::d5::[]), h) = (a_mov a0 h (.c (fun t6 h1 => a_len t6 h1 (.c (fun t7 h2 => a_mov a1 h2 (.c (fun t8 h3 => a_len t8 h3 (.c (fun t9 h4 => a_bin .neq t7 t9 h4 (.c (fun t10 h5 => Q .normal ((a0::a1::a2::a3::a4::a5::t6::t7::t8::t9::t10::b1::b2::b3::b4::b5::b6::b7::b8::b9::d0::d1::d2::d3::d4::d5::[]), h5)) ())) ())) ())) ())) ())) := by rw [awp_eq]; kernel_rfl
noncomputable def c11_5 : Code := cr c11_3
noncomputable def c11_6 : Code := cl c11_5
noncomputable def c11_7 : Code := cl c11_6
theorem w11_7 : awp X n c11_7 Q ((a0::a1::a2::a3::a4::a5::a6::a7::a8::a9::b0::b1::b2::b3::b4::b5::b6::b7::b8::b9::d0::d1::d2::d3::d4::d5::[]), h) = (a_mov (.v (.bool false)) h (.c (fun t4 h1 => Q .normal ((a0::a1::a2::a3::t4::a5::a6::a7::a8::a9::b0::b1::b2::b3::b4::b5::b6::b7::b8::b9::d0::d1::d2::d3::d4::d5::[]), h1)) ())) := by rw [awp_eq]; kernel_rfl
noncomputable def c11_8 : Code := cr c11_6
theorem w11_8 : awp X n c11_8 Q st = Q .ret st := by rw [awp_eq]; kernel_rfl
theorem w11_6 : awp X n c11_6 Q st = awp X n c11_7 (thenQ (awp X n c11_8 Q) Q) st := by rw [awp_eq]; kernel_rfl
noncomputable def c11_9 : Code := cr c11_5
theorem w11_9 : awp X n c11_9 Q st = Q .normal st := by rw [awp_eq]; kernel_rfl
theorem w11_5 : awp X n c11_5 Q ((a0::a1::a2::a3::a4::a5::a6::a7::a8::a9::b0::b1::b2::b3::b4::b5::b6::b7::b8::b9::d0::d1::d2::d3::d4::d5::[]), h) = a_cond b0 (awp X n c11_6 Q ((a0::a1::a2::a3::a4::a5::a6::a7::a8::a9::b0::b1::b2::b3::b4::b5::b6::b7::b8::b9::d0::d1::d2::d3::d4::d5::[]), h)) (awp X n c11_9 Q ((a0::a1::a2::a3::a4::a5::a6::a7::a8::a9::b0::b1::b2::b3::b4::b5::b6::b7::b8::b9::d0::d1::d2::d3::d4::d5::[]), h)) := by rw [awp_eq]; kernel_rfl
theorem w11_3 : awp X n c11_3 Q st = awp X n c11_4 (thenQ (awp X n c11_5 Q) Q) st := by rw [awp_eq]; kernel_rfl
noncomputable def c11_10 : Code := cr c11_2
noncomputable def c11_11 : Code := cl c11_10
noncomputable def c11_12 : Code := cl c11_11
theorem w11_12 : awp X n c11_12 Q ((a0::a1::a2::a3::a4::a5::a6::a7::a8::a9::b0::b1::b2::b3::b4::b5::b6::b7::b8::b9::d0::d1::d2::d3::d4::d5::[]), h) = (a_mov (.v (.int .i64 0)) h (.c (fun t5 h1 => Q .normal ((a0::a1::a2::a3::a4::t5::a6::a7::a8::a9::b0::b1::b2::b3::b4::b5::b6::b7::b8::b9::d0::d1::d2::d3::d4::d5::[]), h1)) ())) := by rw [awp_eq]; kernel_rfl
noncomputable def c11_13 : Code := cr c11_11
noncomputable def c11_14 : Code := cl c11_13
noncomputable def c11_15 : Code := cl c11_14
noncomputable def c11_16 : Code := cl c11_15
noncomputable def c11_17 : Code := cl c11_16
theorem w11_17 : awp X n c11_17 Q ((a0::a1::a2::a3::a4::a5::a6::a7::a8::a9::b0::b1::b2::b3::b4::b5::b6::b7::b8::b9::d0::d1::d2::d3::d4::d5::[]), h) = (a_mov a5 h (.c (fun t11 h1 => a_mov a0 h1 (.c (fun t12 h2 => a_len t12 h2 (.c (fun t13 h3 => a_bin .lss t11 t13 h3 (.c (fun t14 h4 => Q .normal ((a0::a1::a2::a3::a4::a5::a6::a7::a8::a9::b0::t11::t12::t13::t14::b5::b6::b7::b8::b9::d0::d1::d2::d3::d4::d5::[]), h4)) ())) ())) ())) ())) := by rw [awp_eq]; kernel_rfl
noncomputable def c11_18 : Code := cr c11_16
noncomputable def c11_19 : Code := cl c11_18
theorem w11_19 : awp X n c11_19 Q st = Q .normal st := by rw [awp_eq]; kernel_rfl
noncomputable def c11_20 : Code := cr c11_18
theorem w11_20 : awp X n c11_20 Q st = Q (.exit 0) st := by rw [awp_eq]; kernel_rfl
theorem w11_18 : awp X n c11_18 Q ((a0::a1::a2::a3::a4::a5::a6::a7::a8::a9::b0::b1::b2::b3::b4::b5::b6::b7::b8::b9::d0::d1::d2::d3::d4::d5::[]), h) = a_cond b4 (awp X n c11_19 Q ((a0::a1::a2::a3::a4::a5::a6::a7::a8::a9::b0::b1::b2::b3::b4::b5::b6::b7::b8::b9::d0::d1::d2::d3::d4::d5::[]), h)) (awp X n c11_20 Q ((a0::a1::a2::a3::a4::a5::a6::a7::a8::a9::b0::b1::b2::b3::b4::b5::b6::b7::b8::b9::d0::d1::d2::d3::d4::d5::[]), h)) := by rw [awp_eq]; kernel_rfl
theorem w11_16 : awp X n c11_16 Q st = awp X n c11_17 (thenQ (awp X n c11_18 Q) Q) st := by rw [awp_eq]; kernel_rfl
noncomputable def c11_21 : Code := cr c11_15
noncomputable def c11_22 : Code := cl c11_21
noncomputable def c11_23 : Code := cl c11_22
noncomputable def c11_24 : Code := cl c11_23
theorem w11_24 : awp X n c11_24 Q ((a0::a1::a2::a3::a4::a5::a6::a7::a8::a9::b0::b1::b2::b3::b4::b5::b6::b7::b8::b9::d0::d1::d2::d3::d4::d5::[]), h) = (a_mov a0 h (.c (fun t17 h1 => a_mov a5 h1 (.c (fun t18 h2 => a_ia 2 t17 t18 h2 (.c (fun t19 h3 => a_load 2 true t19 h3 (.c (fun t20 h4 => a_mov a1 h4 (.c (fun t21 h5 => a_mov a5 h5 (.c (fun t22 h6 => a_ia 2 t21 t22 h6 (.c (fun t23 h7 => a_load 2 true t23 h7 (.c (fun t24 h8 => a_eqs true [.int .u64, .int .u64] t20 t24 h8 (.c (fun t25 h9 => Q .normal ((a0::a1::a2::a3::a4::a5::a6::a7::a8::a9::b0::b1::b2::b3::b4::b5::b6::t17::t18::t19::t20::t21::t22::t23::t24::t25::[]), h9)) ())) ())) ())) ())) ())) ())) ())) ())) ())) := by rw [awp_eq]; kernel_rfl
noncomputable def c11_25 : Code := cr c11_23
noncomputable def c11_26 : Code := cl c11_25
noncomputable def c11_27 : Code := cl c11_26
theorem w11_27 : awp X n c11_27 Q ((a0::a1::a2::a3::a4::a5::a6::a7::a8::a9::b0::b1::b2::b3::b4::b5::b6::b7::b8::b9::d0::d1::d2::d3::d4::d5::[]), h) = (a_mov (.v (.bool false)) h (.c (fun t4 h1 => Q .normal ((a0::a1::a2::a3::t4::a5::a6::a7::a8::a9::b0::b1::b2::b3::b4::b5::b6::b7::b8::b9::d0::d1::d2::d3::d4::d5::[]), h1)) ())) := by rw [awp_eq]; kernel_rfl
noncomputable def c11_28 : Code := cr c11_26
theorem w11_28 : awp X n c11_28 Q st = Q .ret st := by rw [awp_eq]; kernel_rfl
theorem w11_26 : awp X n c11_26 Q st = awp X n c11_27 (thenQ (awp X n c11_28 Q) Q) st := by rw [awp_eq]; kernel_rfl
noncomputable def c11_29 : Code := cr c11_25
theorem w11_29 : awp X n c11_29 Q st = Q .normal st := by rw [awp_eq]; kernel_rfl
theorem w11_25 : awp X n c11_25 Q ((a0::a1::a2::a3::a4::a5::a6::a7::a8::a9::b0::b1::b2::b3::b4::b5::b6::b7::b8::b9::d0::d1::d2::d3::d4::d5::[]), h) = a_cond d5 (awp X n c11_26 Q ((a0::a1::a2::a3::a4::a5::a6::a7::a8::a9::b0::b1::b2::b3::b4::b5::b6::b7::b8::b9::d0::d1::d2::d3::d4::d5::[]), h)) (awp X n c11_29 Q ((a0::a1::a2::a3::a4::a5::a6::a7::a8::a9::b0::b1::b2::b3::b4::b5::b6::b7::b8::b9::d0::d1::d2::d3::d4::d5::[]), h)) := by rw [awp_eq]; kernel_rfl
theorem w11_23 : awp X n c11_23 Q st = awp X n c11_24 (thenQ (awp X n c11_25 Q) Q) st := by rw [awp_eq]; kernel_rfl
theorem w11_22 : awp X n c11_22 Q st = awp X n c11_23 (blockQ 1 Q) st := by rw [awp_eq]; kernel_rfl
noncomputable def c11_30 : Code := cr c11_21
theorem w11_30 : awp X n c11_30 Q ((a0::a1::a2::a3::a4::a5::a6::a7::a8::a9::b0::b1::b2::b3::b4::b5::b6::b7::b8::b9::d0::d1::d2::d3::d4::d5::[]), h) = (a_mov a5 h (.c (fun t15 h1 => a_bin .add t15 (.v (.int .i64 1)) h1 (.c (fun t16 h2 => a_mov t16 h2 (.c (fun t5 h3 => Q .normal ((a0::a1::a2::a3::a4::t5::a6::a7::a8::a9::b0::b1::b2::b3::b4::t15::t16::b7::b8::b9::d0::d1::d2::d3::d4::d5::[]), h3)) ())) ())) ())) := by rw [awp_eq]; kernel_rfl
theorem w11_21 : awp X n c11_21 Q st = awp X n c11_22 (thenQ (awp X n c11_30 Q) Q) st := by rw [awp_eq]; kernel_rfl
theorem w11_15 : awp X n c11_15 Q st = awp X n c11_16 (thenQ (awp X n c11_21 Q) Q) st := by rw [awp_eq]; kernel_rfl
theorem w11_14 : awp X n c11_14 Q st = ALoop X n c11_15 Q st := by rw [awp_eq]; kernel_rfl
theorem w11_13 : awp X n c11_13 Q st = awp X n c11_14 (blockQ 0 Q) st := by rw [awp_eq]; kernel_rfl
theorem w11_11 : awp X n c11_11 Q st = awp X n c11_12 (thenQ (awp X n c11_13 Q) Q) st := by rw [awp_eq]; kernel_rfl
noncomputable def c11_31 : Code := cr c11_10
noncomputable def c11_32 : Code := cl c11_31
theorem w11_32 : awp X n c11_32 Q ((a0::a1::a2::a3::a4::a5::a6::a7::a8::a9::b0::b1::b2::b3::b4::b5::b6::b7::b8::b9::d0::d1::d2::d3::d4::d5::[]), h) = (a_mov (.v (.bool true)) h (.c (fun t4 h1 => Q .normal ((a0::a1::a2::a3::t4::a5::a6::a7::a8::a9::b0::b1::b2::b3::b4::b5::b6::b7::b8::b9::d0::d1::d2::d3::d4::d5::[]), h1)) ())) := by rw [awp_eq]; kernel_rfl
noncomputable def c11_33 : Code := cr c11_31
theorem w11_33 : awp X n c11_33 Q st = Q .ret st := by rw [awp_eq]; kernel_rfl
theorem w11_31 : awp X n c11_31 Q st = awp X n c11_32 (thenQ (awp X n c11_33 Q) Q) st := by rw [awp_eq]; kernel_rfl
theorem w11_10 : awp X n c11_10 Q st = awp X n c11_11 (thenQ (awp X n c11_31 Q) Q) st := by rw [awp_eq]; kernel_rfl
theorem w11_2 : awp X n c11_2 Q st = awp X n c11_3 (thenQ (awp X n c11_10 Q) Q) st := by rw [awp_eq]; kernel_rfl
theorem w11_0 : awp X n c11_0 Q st = awp X n c11_1 (thenQ (awp X n c11_2 Q) Q) st := by rw [awp_eq]; kernel_rfl
theorem q11_ret : retQ X Try.f11 K .ret ((a0::a1::a2::a3::a4::a5::a6::a7::a8::a9::b0::b1::b2::b3::b4::b5::b6::b7::b8::b9::d0::d1::d2::d3::d4::d5::[]), h) = (K.K a4 h) := by kernel_rfl
theorem q11_normal : retQ X Try.f11 K .normal ((a0::a1::a2::a3::a4::a5::a6::a7::a8::a9::b0::b1::b2::b3::b4::b5::b6::b7::b8::b9::d0::d1::d2::d3::d4::d5::[]), h) = (K.K a4 h) := by kernel_rfl
theorem i11 (H : awp X h.length c11_0 (retQ X Try.f11 K) ((a0::a1::.bad::.bad::.bad::.bad::.bad::.bad::.bad::.bad::.bad::.bad::.bad::.bad::.bad::.bad::.bad::.bad::.bad::.bad::.bad::.bad::.bad::.bad::.bad::.bad::[]), h)) : ACall X 11 [a0, a1] h K := acall_intro (fn := Try.f11) (by kernel_rfl) (by kernel_rfl) (by kernel_rfl) H
noncomputable def R11 := And.intro (And.intro (And.intro (And.intro (And.intro w11_1 w11_4) (And.intro w11_7 w11_8)) (And.intro (And.intro w11_6 w11_9) (And.intro (w11_5) (And.intro w11_3 w11_12)))) (And.intro (And.intro (And.intro w11_17 w11_19) (And.intro w11_20 w11_18)) (And.intro (And.intro w11_16 w11_24) (And.intro (w11_27) (And.intro w11_28 w11_26))))) (And.intro (And.intro (And.intro (And.intro w11_29 w11_25) (And.intro w11_23 w11_22)) (And.intro (And.intro w11_30 w11_21) (And.intro (w11_15) (And.intro w11_14 w11_13)))) (And.intro (And.intro (And.intro w11_11 w11_32) (And.intro w11_33 w11_31)) (And.intro (And.intro w11_10 w11_2) (And.intro (w11_0) (And.intro q11_ret q11_normal)))))
/-! function 12: sindri/linerows.Covers -/
noncomputable def c12_0 : Code := bodyOf Try.f12
noncomputable def c12_1 : Code := cl c12_0
theorem w12_1 : awp X n c12_1 Q ((a0::a1::a2::a3::a4::a5::a6::a7::a8::a9::b0::b1::b2::b3::b4::b5::b6::b7::b8::b9::d0::d1::d2::d3::d4::d5::d6::[]), h) = (a_mov (.v (.slice none 0 0)) h (.c (fun t2 h1 => Q .normal ((a0::a1::t2::a3::a4::a5::a6::a7::a8::a9::b0::b1::b2::b3::b4::b5::b6::b7::b8::b9::d0::d1::d2::d3::d4::d5::d6::[]), h1)) ())) := by rw [awp_eq]; kernel_rfl
noncomputable def c12_2 : Code := cr c12_0
noncomputable def c12_3 : Code := cl c12_2
theorem w12_3 : awp X n c12_3 Q ((a0::a1::a2::a3::a4::a5::a6::a7::a8::a9::b0::b1::b2::b3::b4::b5::b6::b7::b8::b9::d0::d1::d2::d3::d4::d5::d6::[]), h) = (a_mov (.v (.slice none 0 0)) h (.c (fun t3 h1 => Q .normal ((a0::a1::a2::t3::a4::a5::a6::a7::a8::a9::b0::b1::b2::b3::b4::b5::b6::b7::b8::b9::d0::d1::d2::d3::d4::d5::d6::[]), h1)) ())) := by rw [awp_eq]; kernel_rfl
noncomputable def c12_4 : Code := cr c12_2
noncomputable def c12_5 : Code := cl c12_4
noncomputable def c12_6 : Code := cl c12_5
theorem w12_6 : awp X n c12_6 Q ((a0::a1::a2::a3::a4::a5::a6::a7::a8::a9::b0::b1::b2::b3::b4::b5::b6::b7::b8::b9::d0::d1::d2::d3::d4::d5::d6::[]), h) = (a_mov a0 h (.c (fun t8 h1 => ACall X 25 [t8] h1 (.c (fun t9 h2 => a_len t9 h2 (.c (fun t10 h3 => a_mov (.v (.int .i64 0)) h3 (.c (fun t11 h4 => Q .normal ((a0::a1::a2::a3::a4::a5::a6::a7::t8::t9::t10::t11::b2::b3::b4::b5::b6::b7::b8::b9::d0::d1::d2::d3::d4::d5::d6::[]), h4)) ())) ())) ())) ())) := by rw [awp_eq]; kernel_rfl
noncomputable def c12_7 : Code := cr c12_5
noncomputable def c12_8 : Code := cl c12_7
noncomputable def c12_9 : Code := cl c12_8
noncomputable def c12_10 : Code := cl c12_9
theorem w12_10 : awp X n c12_10 Q ((a0::a1::a2::a3::a4::a5::a6::a7::a8::a9::b0::b1::b2::b3::b4::b5::b6::b7::b8::b9::d0::d1::d2::d3::d4::d5::d6::[]), h) = (a_bin .lss b1 b0 h (.c (fun t12 h1 => Q .normal ((a0::a1::a2::a3::a4::a5::a6::a7::a8::a9::b0::b1::t12::b3::b4::b5::b6::b7::b8::b9::d0::d1::d2::d3::d4::d5::d6::[]), h1)) ())) := by rw [awp_eq]; kernel_rfl
noncomputable def c12_11 : Code := cr c12_9
noncomputable def c12_12 : Code := cl c12_11
noncomputable def c12_13 : Code := cl c12_12
theorem w12_13 : awp X n c12_13 Q st = Q .normal st := by rw [awp_eq]; kernel_rfl
noncomputable def c12_14 : Code := cr c12_12
theorem w12_14 : awp X n c12_14 Q st = Q (.exit 0) st := by rw [awp_eq]; kernel_rfl
theorem w12_12 : awp X n c12_12 Q ((a0::a1::a2::a3::a4::a5::a6::a7::a8::a9::b0::b1::b2::b3::b4::b5::b6::b7::b8::b9::d0::d1::d2::d3::d4::d5::d6::[]), h) = a_cond b2 (awp X n c12_13 Q ((a0::a1::a2::a3::a4::a5::a6::a7::a8::a9::b0::b1::b2::b3::b4::b5::b6::b7::b8::b9::d0::d1::d2::d3::d4::d5::d6::[]), h)) (awp X n c12_14 Q ((a0::a1::a2::a3::a4::a5::a6::a7::a8::a9::b0::b1::b2::b3::b4::b5::b6::b7::b8::b9::d0::d1::d2::d3::d4::d5::d6::[]), h)) := by rw [awp_eq]; kernel_rfl
noncomputable def c12_15 : Code := cr c12_11
noncomputable def c12_16 : Code := cl c12_15
noncomputable def c12_17 : Code := cl c12_16
noncomputable def c12_18 : Code := cl c12_17
theorem w12_18 : awp X n c12_18 Q ((a0::a1::a2::a3::a4::a5::a6::a7::a8::a9::b0::b1::b2::b3::b4::b5::b6::b7::b8::b9::d0::d1::d2::d3::d4::d5::d6::[]), h) = (a_ia 1 a9 b1 h (.c (fun t13 h1 => a_load 1 false t13 h1 (.c (fun t14 h2 => a_mov t14 h2 (.c (fun t5 h3 => Q .normal ((a0::a1::a2::a3::a4::t5::a6::a7::a8::a9::b0::b1::b2::t13::t14::b5::b6::b7::b8::b9::d0::d1::d2::d3::d4::d5::d6::[]), h3)) ())) ())) ())) := by rw [awp_eq]; kernel_rfl
noncomputable def c12_19 : Code := cr c12_17
noncomputable def c12_20 : Code := cl c12_19
theorem w12_20 : awp X n c12_20 Q ((a0::a1::a2::a3::a4::a5::a6::a7::a8::a9::b0::b1::b2::b3::b4::b5::b6::b7::b8::b9::d0::d1::d2::d3::d4::d5::d6::[]), h) = (a_mov a5 h (.c (fun t16 h1 => ACall X 29 [t16] h1 (.c (fun t17 h2 => a_mov t17 h2 (.c (fun t15 h3 => a_ext 0 t15 h3 (.c (fun t18 h4 => a_ext 1 t15 h4 (.c (fun t19 h5 => a_alloc [.v (.int .u64 0), .v (.int .u64 0)] h5 (.c (fun t6 h6 => a_store 2 t6 t18 h6 (.c (fun _v6 h7 => a_mov t19 h7 (.c (fun t7 h8 => Q .normal ((a0::a1::a2::a3::a4::a5::t6::t7::a8::a9::b0::b1::b2::b3::b4::t15::t16::t17::t18::t19::d0::d1::d2::d3::d4::d5::d6::[]), h8)) ())) ())) ())) ())) ())) ())) ())) ())) := by rw [awp_eq]; kernel_rfl
noncomputable def c12_21 : Code := cr c12_19
noncomputable def c12_22 : Code := cl c12_21
theorem w12_22 : awp X n c12_22 Q ((a0::a1::a2::a3::a4::a5::a6::a7::a8::a9::b0::b1::b2::b3::b4::b5::b6::b7::b8::b9::d0::d1::d2::d3::d4::d5::d6::[]), h) = (a_mov a7 h (.c (fun t20 h1 => Q .normal ((a0::a1::a2::a3::a4::a5::a6::a7::a8::a9::b0::b1::b2::b3::b4::b5::b6::b7::b8::b9::t20::d1::d2::d3::d4::d5::d6::[]), h1)) ())) := by rw [awp_eq]; kernel_rfl
noncomputable def c12_23 : Code := cr c12_21
noncomputable def c12_24 : Code := cl c12_23
theorem w12_24 : awp X n c12_24 Q ((a0::a1::a2::a3::a4::a5::a6::a7::a8::a9::b0::b1::b2::b3::b4::b5::b6::b7::b8::b9::d0::d1::d2::d3::d4::d5::d6::[]), h) = (a_mov a3 h (.c (fun t21 h1 => a_load 2 true a6 h1 (.c (fun t22 h2 => a_lit 2 1 [.v (.int .u64 0), .v (.int .u64 0)] [(0, 2, t22)] h2 (.c (fun t23 h3 => a_app 2 16 t21 t23 h3 (.c (fun t24 h4 => a_mov t24 h4 (.c (fun t3 h5 => Q .normal ((a0::a1::a2::t3::a4::a5::a6::a7::a8::a9::b0::b1::b2::b3::b4::b5::b6::b7::b8::b9::d0::t21::t22::t23::t24::d5::d6::[]), h5)) ())) ())) ())) ())) ())) := by rw [awp_eq]; kernel_rfl
noncomputable def c12_25 : Code := cr c12_23
theorem w12_25 : awp X n c12_25 Q st = Q .normal st := by rw [awp_eq]; kernel_rfl
theorem w12_23 : awp X n c12_23 Q ((a0::a1::a2::a3::a4::a5::a6::a7::a8::a9::b0::b1::b2::b3::b4::b5::b6::b7::b8::b9::d0::d1::d2::d3::d4::d5::d6::[]), h) = a_cond d0 (awp X n c12_24 Q ((a0::a1::a2::a3::a4::a5::a6::a7::a8::a9::b0::b1::b2::b3::b4::b5::b6::b7::b8::b9::d0::d1::d2::d3::d4::d5::d6::[]), h)) (awp X n c12_25 Q ((a0::a1::a2::a3::a4::a5::a6::a7::a8::a9::b0::b1::b2::b3::b4::b5::b6::b7::b8::b9::d0::d1::d2::d3::d4::d5::d6::[]), h)) := by rw [awp_eq]; kernel_rfl
theorem w12_21 : awp X n c12_21 Q st = awp X n c12_22 (thenQ (awp X n c12_23 Q) Q) st := by rw [awp_eq]; kernel_rfl
theorem w12_19 : awp X n c12_19 Q st = awp X n c12_20 (thenQ (awp X n c12_21 Q) Q) st := by rw [awp_eq]; kernel_rfl
theorem w12_17 : awp X n c12_17 Q st = awp X n c12_18 (thenQ (awp X n c12_19 Q) Q) st := by rw [awp_eq]; kernel_rfl
theorem w12_16 : awp X n c12_16 Q st = awp X n c12_17 (blockQ 1 Q) st := by rw [awp_eq]; kernel_rfl
noncomputable def c12_26 : Code := cr c12_15
theorem w12_26 : awp X n c12_26 Q ((a0::a1::a2::a3::a4::a5::a6::a7::a8::a9::b0::b1::b2::b3::b4::b5::b6::b7::b8::b9::d0::d1::d2::d3::d4::d5::d6::[]), h) = (a_bin .add b1 (.v (.int .i64 1)) h (.c (fun t25 h1 => a_mov t25 h1 (.c (fun t11 h2 => Q .normal ((a0::a1::a2::a3::a4::a5::a6::a7::a8::a9::b0::t11::b2::b3::b4::b5::b6::b7::b8::b9::d0::d1::d2::d3::d4::t25::d6::[]), h2)) ())) ())) := by rw [awp_eq]; kernel_rfl
theorem w12_15 : awp X n c12_15 Q st = awp X n c12_16 (thenQ (awp X n c12_26 Q) Q) st := by rw [awp_eq]; kernel_rfl
theorem w12_11 : awp X n c12_11 Q st = awp X n c12_12 (thenQ (awp X n c12_15 Q) Q) st := by rw [awp_eq]; kernel_rfl
theorem w12_9 : awp X n c12_9 Q st = awp X n c12_10 (thenQ (awp X n c12_11 Q) Q) st := by rw [awp_eq]; kernel_rfl
theorem w12_8 : awp X n c12_8 Q st = ALoop X n c12_9 Q st := by rw [awp_eq]; kernel_rfl
theorem w12_7 : awp X n c12_7 Q st = awp X n c12_8 (blockQ 0 Q) st := by rw [awp_eq]; kernel_rfl
theorem w12_5 : awp X n c12_5 Q st = awp X n c12_6 (thenQ (awp X n c12_7 Q) Q) st := by rw [awp_eq]; kernel_rfl
noncomputable def c12_27 : Code := cr c12_4
noncomputable def c12_28 : Code := cl c12_27
theorem w12_28 : awp X n c12_28 Q ((a0::a1::a2::a3::a4::a5::a6::a7::a8::a9::b0::b1::b2::b3::b4::b5::b6::b7::b8::b9::d0::d1::d2::d3::d4::d5::d6::[]), h) = (a_mov a3 h (.c (fun t26 h1 => a_mov t26 h1 (.c (fun t2 h2 => Q .normal ((a0::a1::t2::a3::a4::a5::a6::a7::a8::a9::b0::b1::b2::b3::b4::b5::b6::b7::b8::b9::d0::d1::d2::d3::d4::d5::t26::[]), h2)) ())) ())) := by rw [awp_eq]; kernel_rfl
noncomputable def c12_29 : Code := cr c12_27
theorem w12_29 : awp X n c12_29 Q st = Q .ret st := by rw [awp_eq]; kernel_rfl
theorem w12_27 : awp X n c12_27 Q st = awp X n c12_28 (thenQ (awp X n c12_29 Q) Q) st := by rw [awp_eq]; kernel_rfl
theorem w12_4 : awp X n c12_4 Q st = awp X n c12_5 (thenQ (awp X n c12_27 Q) Q) st := by rw [awp_eq]; kernel_rfl
theorem w12_2 : awp X n c12_2 Q st = awp X n c12_3 (thenQ (awp X n c12_4 Q) Q) st := by rw [awp_eq]; kernel_rfl
theorem w12_0 : awp X n c12_0 Q st = awp X n c12_1 (thenQ (awp X n c12_2 Q) Q) st := by rw [awp_eq]; kernel_rfl
theorem q12_ret : retQ X Try.f12 K .ret ((a0::a1::a2::a3::a4::a5::a6::a7::a8::a9::b0::b1::b2::b3::b4::b5::b6::b7::b8::b9::d0::d1::d2::d3::d4::d5::d6::[]), h) = (K.K a2 h) := by kernel_rfl
theorem q12_normal : retQ X Try.f12 K .normal ((a0::a1::a2::a3::a4::a5::a6::a7::a8::a9::b0::b1::b2::b3::b4::b5::b6::b7::b8::b9::d0::d1::d2::d3::d4::d5::d6::[]), h) = (K.K a2 h) := by kernel_rfl
theorem i12 (H : awp X h.length c12_0 (retQ X Try.f12 K) ((a0::.bad::.bad::.bad::.bad::.bad::.bad::.bad::.bad::.bad::.bad::.bad::.bad::.bad::.bad::.bad::.bad::.bad::.bad::.bad::.bad::.bad::.bad::.bad::.bad::.bad::.bad::[]), h)) : ACall X 12 [a0] h K := acall_intro (fn := Try.f12) (by kernel_rfl) (by kernel_rfl) (by kernel_rfl) H
noncomputable def R12 := And.intro (And.intro (And.intro (And.intro (And.intro w12_1 w12_3) (And.intro w12_6 w12_10)) (And.intro (And.intro w12_13 w12_14) (And.intro w12_12 w12_18))) (And.intro (And.intro (And.intro w12_20 w12_22) (And.intro w12_24 w12_25)) (And.intro (And.intro w12_23 w12_21) (And.intro w12_19 w12_17)))) (And.intro (And.intro (And.intro (And.intro w12_16 w12_26) (And.intro w12_15 w12_11)) (And.intro (And.intro w12_9 w12_8) (And.intro w12_7 w12_5))) (And.intro (And.intro (And.intro w12_28 w12_29) (And.intro w12_27 w12_4)) (And.intro (And.intro w12_2 w12_0) (And.intro q12_ret q12_normal))))
/-! function 13: sindri/sindriref24.Covers -/
noncomputable def c13_0 : Code := bodyOf Try.f13
noncomputable def c13_1 : Code := cl c13_0
theorem w13_1 : awp X n c13_1 Q ((a0::a1::a2::a3::a4::a5::a6::a7::a8::a9::b0::b1::b2::b3::b4::b5::b6::b7::b8::b9::d0::d1::d2::d3::d4::d5::d6::d7::d8::d9::e0::e1::e2::e3::e4::e5::e6::e7::e8::e9::f0::f1::f2::f3::f4::f5::f6::f7::[]), h) = (a_mov (.v (.slice none 0 0)) h (.c (fun t2 h1 => Q .normal ((a0::a1::t2::a3::a4::a5::a6::a7::a8::a9::b0::b1::b2::b3::b4::b5::b6::b7::b8::b9::d0::d1::d2::d3::d4::d5::d6::d7::d8::d9::e0::e1::e2::e3::e4::e5::e6::e7::e8::e9::f0::f1::f2::f3::f4::f5::f6::f7::[]), h1)) ())) := by rw [awp_eq]; kernel_rfl
noncomputable def c13_2 : Code := cr c13_0
noncomputable def c13_3 : Code := cl c13_2
theorem w13_3 : awp X n c13_3 Q ((a0::a1::a2::a3::a4::a5::a6::a7::a8::a9::b0::b1::b2::b3::b4::b5::b6::b7::b8::b9::d0::d1::d2::d3::d4::d5::d6::d7::d8::d9::e0::e1::e2::e3::e4::e5::e6::e7::e8::e9::f0::f1::f2::f3::f4::f5::f6::f7::[]), h) = (a_mov (.v (.slice none 0 0)) h (.c (fun t3 h1 => Q .normal ((a0::a1::a2::t3::a4::a5::a6::a7::a8::a9::b0::b1::b2::b3::b4::b5::b6::b7::b8::b9::d0::d1::d2::d3::d4::d5::d6::d7::d8::d9::e0::e1::e2::e3::e4::e5::e6::e7::e8::e9::f0::f1::f2::f3::f4::f5::f6::f7::[]), h1)) ())) := by rw [awp_eq]; kernel_rfl
noncomputable def c13_4 : Code := cr c13_2
noncomputable def c13_5 : Code := cl c13_4
theorem w13_5 : awp X n c13_5 Q ((a0::a1::a2::a3::a4::a5::a6::a7::a8::a9::b0::b1::b2::b3::b4::b5::b6::b7::b8::b9::d0::d1::d2::d3::d4::d5::d6::d7::d8::d9::e0::e1::e2::e3::e4::e5::e6::e7::e8::e9::f0::f1::f2::f3::f4::f5::f6::f7::[]), h) = (a_mov a0 h (.c (fun t8 h1 => ACall X 28 [t8] h1 (.c (fun t9 h2 => a_mov t9 h2 (.c (fun t4 h3 => Q .normal ((a0::a1::a2::a3::t4::a5::a6::a7::t8::t9::b0::b1::b2::b3::b4::b5::b6::b7::b8::b9::d0::d1::d2::d3::d4::d5::d6::d7::d8::d9::e0::e1::e2::e3::e4::e5::e6::e7::e8::e9::f0::f1::f2::f3::f4::f5::f6::f7::[]), h3)) ())) ())) ())) := by rw [awp_eq]; kernel_rfl
noncomputable def c13_6 : Code := cr c13_4
noncomputable def c13_7 : Code := cl c13_6
noncomputable def c13_8 : Code := cl c13_7
theorem w13_8 : awp X n c13_8 Q ((a0::a1::a2::a3::a4::a5::a6::a7::a8::a9::b0::b1::b2::b3::b4::b5::b6::b7::b8::b9::d0::d1::d2::d3::d4::d5::d6::d7::d8::d9::e0::e1::e2::e3::e4::e5::e6::e7::e8::e9::f0::f1::f2::f3::f4::f5::f6::f7::[]), h) = (a_mov (.v (.int .i64 0)) h (.c (fun t5 h1 => Q .normal ((a0::a1::a2::a3::a4::t5::a6::a7::a8::a9::b0::b1::b2::b3::b4::b5::b6::b7::b8::b9::d0::d1::d2::d3::d4::d5::d6::d7::d8::d9::e0::e1::e2::e3::e4::e5::e6::e7::e8::e9::f0::f1::f2::f3::f4::f5::f6::f7::[]), h1)) ())) := by rw [awp_eq]; kernel_rfl
noncomputable def c13_9 : Code := cr c13_7
noncomputable def c13_10 : Code := cl c13_9
noncomputable def c13_11 : Code := cl c13_10
noncomputable def c13_12 : Code := cl c13_11
noncomputable def c13_13 : Code := cl c13_12
theorem w13_13 : awp X n c13_13 Q ((a0::a1::a2::a3::a4::a5::a6::a7::a8::a9::b0::b1::b2::b3::b4::b5::b6::b7::b8::b9::d0::d1::d2::d3::d4::d5::d6::d7::d8::d9::e0::e1::e2::e3::e4::e5::e6::e7::e8::e9::f0::f1::f2::f3::f4::f5::f6::f7::[]), h) = (a_mov a5 h (.c (fun t10 h1 => a_mov a4 h1 (.c (fun t11 h2 => a_len t11 h2 (.c (fun t12 h3 => a_bin .lss t10 t12 h3 (.c (fun t13 h4 => Q .normal ((a0::a1::a2::a3::a4::a5::a6::a7::a8::a9::t10::t11::t12::t13::b4::b5::b6::b7::b8::b9::d0::d1::d2::d3::d4::d5::d6::d7::d8::d9::e0::e1::e2::e3::e4::e5::e6::e7::e8::e9::f0::f1::f2::f3::f4::f5::f6::f7::[]), h4)) ())) ())) ())) ())) := by rw [awp_eq]; kernel_rfl
noncomputable def c13_14 : Code := cr c13_12
noncomputable def c13_15 : Code := cl c13_14
theorem w13_15 : awp X n c13_15 Q st = Q .normal st := by rw [awp_eq]; kernel_rfl
noncomputable def c13_16 : Code := cr c13_14
theorem w13_16 : awp X n c13_16 Q st = Q (.exit 0) st := by rw [awp_eq]; kernel_rfl
theorem w13_14 : awp X n c13_14 Q ((a0::a1::a2::a3::a4::a5::a6::a7::a8::a9::b0::b1::b2::b3::b4::b5::b6::b7::b8::b9::d0::d1::d2::d3::d4::d5::d6::d7::d8::d9::e0::e1::e2::e3::e4::e5::e6::e7::e8::e9::f0::f1::f2::f3::f4::f5::f6::f7::[]), h) = a_cond b3 (awp X n c13_15 Q ((a0::a1::a2::a3::a4::a5::a6::a7::a8::a9::b0::b1::b2::b3::b4::b5::b6::b7::b8::b9::d0::d1::d2::d3::d4::d5::d6::d7::d8::d9::e0::e1::e2::e3::e4::e5::e6::e7::e8::e9::f0::f1::f2::f3::f4::f5::f6::f7::[]), h)) (awp X n c13_16 Q ((a0::a1::a2::a3::a4::a5::a6::a7::a8::a9::b0::b1::b2::b3::b4::b5::b6::b7::b8::b9::d0::d1::d2::d3::d4::d5::d6::d7::d8::d9::e0::e1::e2::e3::e4::e5::e6::e7::e8::e9::f0::f1::f2::f3::f4::f5::f6::f7::[]), h)) := by rw [awp_eq]; kernel_rfl
theorem w13_12 : awp X n c13_12 Q st = awp X n c13_13 (thenQ (awp X n c13_14 Q) Q) st := by rw [awp_eq]; kernel_rfl
noncomputable def c13_17 : Code := cr c13_11
noncomputable def c13_18 : Code := cl c13_17
noncomputable def c13_19 : Code := cl c13_18
noncomputable def c13_20 : Code := cl c13_19
theorem w13_20 : awp X n c13_20 Q ((a0::a1::a2::a3::a4::a5::a6::a7::a8::a9::b0::b1::b2::b3::b4::b5::b6::b7::b8::b9::d0::d1::d2::d3::d4::d5::d6::d7::d8::d9::e0::e1::e2::e3::e4::e5::e6::e7::e8::e9::f0::f1::f2::f3::f4::f5::f6::f7::[]), h) = (a_mov a4 h (.c (fun t16 h1 => a_mov a5 h1 (.c (fun t17 h2 => a_ia 1 t16 t17 h2 (.c (fun t18 h3 => a_load 1 false t18 h3 (.c (fun t19 h4 => a_mov t19 h4 (.c (fun t6 h5 => Q .normal ((a0::a1::a2::a3::a4::a5::t6::a7::a8::a9::b0::b1::b2::b3::b4::b5::t16::t17::t18::t19::d0::d1::d2::d3::d4::d5::d6::d7::d8::d9::e0::e1::e2::e3::e4::e5::e6::e7::e8::e9::f0::f1::f2::f3::f4::f5::f6::f7::[]), h5)) ())) ())) ())) ())) ())) := by rw [awp_eq]; kernel_rfl
noncomputable def c13_21 : Code := cr c13_19
noncomputable def c13_22 : Code := cl c13_21
theorem w13_22 : awp X n c13_22 Q ((a0::a1::a2::a3::a4::a5::a6::a7::a8::a9::b0::b1::b2::b3::b4::b5::b6::b7::b8::b9::d0::d1::d2::d3::d4::d5::d6::d7::d8::d9::e0::e1::e2::e3::e4::e5::e6::e7::e8::e9::f0::f1::f2::f3::f4::f5::f6::f7::[]), h) = (a_mov a6 h (.c (fun t20 h1 => a_mov a6 h1 (.c (fun t21 h2 => a_len t21 h2 (.c (fun t22 h3 => a_bin .sub t22 (.v (.int .i64 1)) h3 (.c (fun t23 h4 => a_ia 11 t20 t23 h4 (.c (fun t24 h5 => a_load 11 true t24 h5 (.c (fun t25 h6 => a_alloc [.v (.int .u64 0), .v (.int .i64 0), .v (.int .i64 0), .v (.int .i64 0), .v (.bool false), .v (.bool false), .v (.bool false), .v (.bool false), .v (.bool false), .v (.int .u64 0), .v (.int .u64 0)] h6 (.c (fun t7 h7 => a_store 11 t7 t25 h7 (.c (fun _v7 h8 => Q .normal ((a0::a1::a2::a3::a4::a5::a6::t7::a8::a9::b0::b1::b2::b3::b4::b5::b6::b7::b8::b9::t20::t21::t22::t23::t24::t25::d6::d7::d8::d9::e0::e1::e2::e3::e4::e5::e6::e7::e8::e9::f0::f1::f2::f3::f4::f5::f6::f7::[]), h8)) ())) ())) ())) ())) ())) ())) ())) ())) := by rw [awp_eq]; kernel_rfl
noncomputable def c13_23 : Code := cr c13_21
noncomputable def c13_24 : Code := cl c13_23
theorem w13_24 : awp X n c13_24 Q ((a0::a1::a2::a3::a4::a5::a6::a7::a8::a9::b0::b1::b2::b3::b4::b5::b6::b7::b8::b9::d0::d1::d2::d3::d4::d5::d6::d7::d8::d9::e0::e1::e2::e3::e4::e5::e6::e7::e8::e9::f0::f1::f2::f3::f4::f5::f6::f7::[]), h) = (a_fa 8 a7 h (.c (fun t26 h1 => a_load 1 false t26 h1 (.c (fun t27 h2 => a_mov t27 h2 (.c (fun t28 h3 => a_on t28 true (fun k => a_mov a6 h3 k) h3 (.c (fun t29 h4 => a_on t28 true (fun k => a_ia 11 t29 (.v (.int .i64 0)) h4 k) h4 (.c (fun t30 h5 => a_on t28 true (fun k => a_fa 0 t30 h5 k) h5 (.c (fun t31 h6 => a_on t28 true (fun k => a_load 1 false t31 h6 k) h6 (.c (fun t32 h7 => a_on t28 true (fun k => a_fa 0 a7 h7 k) h7 (.c (fun t33 h8 => a_on t28 true (fun k => a_load 1 false t33 h8 k) h8 (.c (fun t34 h9 => a_on t28 true (fun k => a_bin .lss t32 t34 h9 k) h9 (.c (fun t35 h10 => a_pick t28 t35 (.v (.bool false)) h10 (.c (fun t36 h11 => Q .normal ((a0::a1::a2::a3::a4::a5::a6::a7::a8::a9::b0::b1::b2::b3::b4::b5::b6::b7::b8::b9::d0::d1::d2::d3::d4::d5::t26::t27::t28::t29::t30::t31::t32::t33::t34::t35::t36::e7::e8::e9::f0::f1::f2::f3::f4::f5::f6::f7::[]), h11)) ())) ())) ())) ())) ())) ())) ())) ())) ())) ())) ())) := by rw [awp_eq]; kernel_rfl
noncomputable def c13_25 : Code := cr c13_23
noncomputable def c13_26 : Code := cl c13_25
theorem w13_26 : awp X n c13_26 Q ((a0::a1::a2::a3::a4::a5::a6::a7::a8::a9::b0::b1::b2::b3::b4::b5::b6::b7::b8::b9::d0::d1::d2::d3::d4::d5::d6::d7::d8::d9::e0::e1::e2::e3::e4::e5::e6::e7::e8::e9::f0::f1::f2::f3::f4::f5::f6::f7::[]), h) = (a_mov a3 h (.c (fun t37 h1 => a_mov a6 h1 (.c (fun t38 h2 => a_ia 11 t38 (.v (.int .i64 0)) h2 (.c (fun t39 h3 => a_fa 0 t39 h3 (.c (fun t40 h4 => a_load 1 false t40 h4 (.c (fun t41 h5 => a_fa 0 a7 h5 (.c (fun t42 h6 => a_load 1 false t42 h6 (.c (fun t43 h7 => a_build [.v (.int .u64 0), .v (.int .u64 0)] [(0, 1, t41), (1, 1, t43)] h7 (.c (fun t44 h8 => a_lit 2 1 [.v (.int .u64 0), .v (.int .u64 0)] [(0, 2, t44)] h8 (.c (fun t45 h9 => conj [] ∧ (a_app 2 16 t37 t45 h9 (.c (fun t46 h10 => conj [] ∧ (a_mov t46 h10 (.c (fun t3 h11 => Q .normal ((a0::a1::a2::t3::a4::a5::a6::a7::a8::a9::b0::b1::b2::b3::b4::b5::b6::b7::b8::b9::d0::d1::d2::d3::d4::d5::d6::d7::d8::d9::e0::e1::e2::e3::e4::e5::e6::t37::t38::t39::t40::t41::t42::t43::t44::t45::t46::f7::[]), h11)) ()))) ()))) ())) ())) ())) ())) ())) ())) ())) ())) ())) := by rw [awp_eq]; kernel_rfl
noncomputable def c13_27 : Code := cr c13_25
theorem w13_27 : awp X n c13_27 Q st = Q .normal st := by rw [awp_eq]; kernel_rfl
theorem w13_25 : awp X n c13_25 Q ((a0::a1::a2::a3::a4::a5::a6::a7::a8::a9::b0::b1::b2::b3::b4::b5::b6::b7::b8::b9::d0::d1::d2::d3::d4::d5::d6::d7::d8::d9::e0::e1::e2::e3::e4::e5::e6::e7::e8::e9::f0::f1::f2::f3::f4::f5::f6::f7::[]), h) = a_cond e6 (awp X n c13_26 Q ((a0::a1::a2::a3::a4::a5::a6::a7::a8::a9::b0::b1::b2::b3::b4::b5::b6::b7::b8::b9::d0::d1::d2::d3::d4::d5::d6::d7::d8::d9::e0::e1::e2::e3::e4::e5::e6::e7::e8::e9::f0::f1::f2::f3::f4::f5::f6::f7::[]), h)) (awp X n c13_27 Q ((a0::a1::a2::a3::a4::a5::a6::a7::a8::a9::b0::b1::b2::b3::b4::b5::b6::b7::b8::b9::d0::d1::d2::d3::d4::d5::d6::d7::d8::d9::e0::e1::e2::e3::e4::e5::e6::e7::e8::e9::f0::f1::f2::f3::f4::f5::f6::f7::[]), h)) := by rw [awp_eq]; kernel_rfl
theorem w13_23 : awp X n c13_23 Q st = awp X n c13_24 (thenQ (awp X n c13_25 Q) Q) st := by rw [awp_eq]; kernel_rfl
theorem w13_21 : awp X n c13_21 Q st = awp X n c13_22 (thenQ (awp X n c13_23 Q) Q) st := by rw [awp_eq]; kernel_rfl
theorem w13_19 : awp X n c13_19 Q st = awp X n c13_20 (thenQ (awp X n c13_21 Q) Q) st := by rw [awp_eq]; kernel_rfl
theorem w13_18 : awp X n c13_18 Q st = awp X n c13_19 (blockQ 1 Q) st := by rw [awp_eq]; kernel_rfl
noncomputable def c13_28 : Code := cr c13_17
theorem w13_28 : awp X n c13_28 Q ((a0::a1::a2::a3::a4::a5::a6::a7::a8::a9::b0::b1::b2::b3::b4::b5::b6::b7::b8::b9::d0::d1::d2::d3::d4::d5::d6::d7::d8::d9::e0::e1::e2::e3::e4::e5::e6::e7::e8::e9::f0::f1::f2::f3::f4::f5::f6::f7::[]), h) = (a_mov a5 h (.c (fun t14 h1 => a_bin .add t14 (.v (.int .i64 1)) h1 (.c (fun t15 h2 => a_mov t15 h2 (.c (fun t5 h3 => Q .normal ((a0::a1::a2::a3::a4::t5::a6::a7::a8::a9::b0::b1::b2::b3::t14::t15::b6::b7::b8::b9::d0::d1::d2::d3::d4::d5::d6::d7::d8::d9::e0::e1::e2::e3::e4::e5::e6::e7::e8::e9::f0::f1::f2::f3::f4::f5::f6::f7::[]), h3)) ())) ())) ())) := by rw [awp_eq]; kernel_rfl
theorem w13_17 : awp X n c13_17 Q st = awp X n c13_18 (thenQ (awp X n c13_28 Q) Q) st := by rw [awp_eq]; kernel_rfl
theorem w13_11 : awp X n c13_11 Q st = awp X n c13_12 (thenQ (awp X n c13_17 Q) Q) st := by rw [awp_eq]; kernel_rfl
theorem w13_10 : awp X n c13_10 Q st = ALoop X n c13_11 Q st := by rw [awp_eq]; kernel_rfl
theorem w13_9 : awp X n c13_9 Q st = awp X n c13_10 (blockQ 0 Q) st := by rw [awp_eq]; kernel_rfl
theorem w13_7 : awp X n c13_7 Q st = awp X n c13_8 (thenQ (awp X n c13_9 Q) Q) st := by rw [awp_eq]; kernel_rfl
noncomputable def c13_29 : Code := cr c13_6
noncomputable def c13_30 : Code := cl c13_29
theorem w13_30 : awp X n c13_30 Q ((a0::a1::a2::a3::a4::a5::a6::a7::a8::a9::b0::b1::b2::b3::b4::b5::b6::b7::b8::b9::d0::d1::d2::d3::d4::d5::d6::d7::d8::d9::e0::e1::e2::e3::e4::e5::e6::e7::e8::e9::f0::f1::f2::f3::f4::f5::f6::f7::[]), h) = (a_mov a3 h (.c (fun t47 h1 => a_mov t47 h1 (.c (fun t2 h2 => Q .normal ((a0::a1::t2::a3::a4::a5::a6::a7::a8::a9::b0::b1::b2::b3::b4::b5::b6::b7::b8::b9::d0::d1::d2::d3::d4::d5::d6::d7::d8::d9::e0::e1::e2::e3::e4::e5::e6::e7::e8::e9::f0::f1::f2::f3::f4::f5::f6::t47::[]), h2)) ())) ())) := by rw [awp_eq]; kernel_rfl
noncomputable def c13_31 : Code := cr c13_29
theorem w13_31 : awp X n c13_31 Q st = Q .ret st := by rw [awp_eq]; kernel_rfl
theorem w13_29 : awp X n c13_29 Q st = awp X n c13_30 (thenQ (awp X n c13_31 Q) Q) st := by rw [awp_eq]; kernel_rfl
theorem w13_6 : awp X n c13_6 Q st = awp X n c13_7 (thenQ (awp X n c13_29 Q) Q) st := by rw [awp_eq]; kernel_rfl
theorem w13_4 : awp X n c13_4 Q st = awp X n c13_5 (thenQ (awp X n c13_6 Q) Q) st := by rw [awp_eq]; kernel_rfl
theorem w13_2 : awp X n c13_2 Q st = awp X n c13_3 (thenQ (awp X n c13_4 Q) Q) st := by rw [awp_eq]; kernel_rfl
theorem w13_0 : awp X n c13_0 Q st = awp X n c13_1 (thenQ (awp X n c13_2 Q) Q) st := by rw [awp_eq]; kernel_rfl
theorem q13_ret : retQ X Try.f13 K .ret ((a0::a1::a2::a3::a4::a5::a6::a7::a8::a9::b0::b1::b2::b3::b4::b5::b6::b7::b8::b9::d0::d1::d2::d3::d4::d5::d6::d7::d8::d9::e0::e1::e2::e3::e4::e5::e6::e7::e8::e9::f0::f1::f2::f3::f4::f5::f6::f7::[]), h) = (K.K a2 h) := by kernel_rfl
theorem q13_normal : retQ X Try.f13 K .normal ((a0::a1::a2::a3::a4::a5::a6::a7::a8::a9::b0::b1::b2::b3::b4::b5::b6::b7::b8::b9::d0::d1::d2::d3::d4::d5::d6::d7::d8::d9::e0::e1::e2::e3::e4::e5::e6::e7::e8::e9::f0::f1::f2::f3::f4::f5::f6::f7::[]), h) = (K.K a2 h) := by kernel_rfl
theorem i13 (H : awp X h.length c13_0 (retQ X Try.f13 K) ((a0::.bad::.bad::.bad::.bad::.bad::.bad::.bad::.bad::.bad::.bad::.bad::.bad::.bad::.bad::.bad::.bad::.bad::.bad::.bad::.bad::.bad::.bad::.bad::.bad::.bad::.bad::.bad::.bad::.bad::.bad::.bad::.bad::.bad::.bad::.bad::.bad::.bad::.bad::.bad::.bad::.bad::.bad::.bad::.bad::.bad::.bad::.bad::[]), h)) : ACall X 13 [a0] h K := acall_intro (fn := Try.f13) (by kernel_rfl) (by kernel_rfl) (by kernel_rfl) H
noncomputable def R13 := And.intro (And.intro (And.intro (And.intro (And.intro w13_1 w13_3) (And.intro w13_5 w13_8)) (And.intro (And.intro w13_13 w13_15) (And.intro w13_16 w13_14))) (And.intro (And.intro (And.intro w13_12 w13_20) (And.intro w13_22 w13_24)) (And.intro (And.intro w13_26 w13_27) (And.intro (w13_25) (And.intro w13_23 w13_21))))) (And.intro (And.intro (And.intro (And.intro w13_19 w13_18) (And.intro w13_28 w13_17)) (And.intro (And.intro w13_11 w13_10) (And.intro w13_9 w13_7))) (And.intro (And.intro (And.intro w13_30 w13_31) (And.intro w13_29 w13_6)) (And.intro (And.intro w13_4 w13_2) (And.intro (w13_0) (And.intro q13_ret q13_normal)))))
end Go.Proofs.Ytaejegndbaahnaa
