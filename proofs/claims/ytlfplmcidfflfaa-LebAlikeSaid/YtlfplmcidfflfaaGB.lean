import Derived.Test.YtlfplmcidfflfaaEnv
set_option linter.unusedVariables false
set_option linter.defProp false
set_option maxRecDepth 100000
namespace Go.Proofs.Ytlfplmcidfflfaa
open Go.Ab
variable (n : Nat) (h : Heap) (Q : Qt) (st : St) (K : Kt) (a0 a1 a2 a3 a4 a5 a6 a7 a8 a9 b0 b1 b2 b3 b4 b5 b6 b7 b8 b9 d0 d1 d2 d3 d4 d5 d6 d7 d8 d9 e0 e1 e2 e3 e4 e5 e6 e7 e8 e9 f0 f1 f2 f3 f4 f5 f6 f7 : AV)
/-! function 10: sindri/leb.PutWide -/
noncomputable def c10_0 : Code := bodyOf Try.f10
noncomputable def c10_1 : Code := cl c10_0
theorem w10_1 : awp X n c10_1 Q ((a0::a1::a2::a3::a4::a5::a6::a7::a8::a9::b0::b1::b2::b3::b4::b5::b6::b7::b8::b9::d0::d1::d2::d3::d4::d5::d6::d7::d8::d9::[]), h) = (a_mov (.v (.slice none 0 0)) h (.c (fun t6 h1 => Q .normal ((a0::a1::a2::a3::a4::a5::t6::a7::a8::a9::b0::b1::b2::b3::b4::b5::b6::b7::b8::b9::d0::d1::d2::d3::d4::d5::d6::d7::d8::d9::[]), h1)) ())) := by rw [awp_eq]; kernel_rfl
noncomputable def c10_2 : Code := cr c10_0
noncomputable def c10_3 : Code := cl c10_2
theorem w10_3 : awp X n c10_3 Q ((a0::a1::a2::a3::a4::a5::a6::a7::a8::a9::b0::b1::b2::b3::b4::b5::b6::b7::b8::b9::d0::d1::d2::d3::d4::d5::d6::d7::d8::d9::[]), h) = (a_mov a2 h (.c (fun t7 h1 => a_mov a1 h1 (.c (fun t8 h2 => ACall X 20 [t8] h2 (.c (fun t9 h3 => a_max [t7, t9] h3 (.c (fun t10 h4 => a_min [t10, (.v (.int .i64 10))] h4 (.c (fun t11 h5 => a_mov t11 h5 (.c (fun t2 h6 => Q .normal ((a0::a1::t2::a3::a4::a5::a6::t7::t8::t9::t10::t11::b2::b3::b4::b5::b6::b7::b8::b9::d0::d1::d2::d3::d4::d5::d6::d7::d8::d9::[]), h6)) ())) ())) ())) ())) ())) ())) := by rw [awp_eq]; kernel_rfl
noncomputable def c10_4 : Code := cr c10_2
noncomputable def c10_5 : Code := cl c10_4
noncomputable def c10_6 : Code := cl c10_5
theorem w10_6 : awp X n c10_6 Q ((a0::a1::a2::a3::a4::a5::a6::a7::a8::a9::b0::b1::b2::b3::b4::b5::b6::b7::b8::b9::d0::d1::d2::d3::d4::d5::d6::d7::d8::d9::[]), h) = (a_mov a2 h (.c (fun t12 h1 => a_bin .sub t12 (.v (.int .i64 1)) h1 (.c (fun t13 h2 => a_mov (.v (.int .i64 0)) h2 (.c (fun t14 h3 => Q .normal ((a0::a1::a2::a3::a4::a5::a6::a7::a8::a9::b0::b1::t12::t13::t14::b5::b6::b7::b8::b9::d0::d1::d2::d3::d4::d5::d6::d7::d8::d9::[]), h3)) ())) ())) ())) := by rw [awp_eq]; kernel_rfl
noncomputable def c10_7 : Code := cr c10_5
noncomputable def c10_8 : Code := cl c10_7
noncomputable def c10_9 : Code := cl c10_8
noncomputable def c10_10 : Code := cl c10_9
theorem w10_10 : awp X n c10_10 Q ((a0::a1::a2::a3::a4::a5::a6::a7::a8::a9::b0::b1::b2::b3::b4::b5::b6::b7::b8::b9::d0::d1::d2::d3::d4::d5::d6::d7::d8::d9::[]), h) = (a_bin .lss b4 b3 h (.c (fun t15 h1 => Q .normal ((a0::a1::a2::a3::a4::a5::a6::a7::a8::a9::b0::b1::b2::b3::b4::t15::b6::b7::b8::b9::d0::d1::d2::d3::d4::d5::d6::d7::d8::d9::[]), h1)) ())) := by rw [awp_eq]; kernel_rfl
noncomputable def c10_11 : Code := cr c10_9
noncomputable def c10_12 : Code := cl c10_11
noncomputable def c10_13 : Code := cl c10_12
theorem w10_13 : awp X n c10_13 Q st = Q .normal st := by rw [awp_eq]; kernel_rfl
noncomputable def c10_14 : Code := cr c10_12
theorem w10_14 : awp X n c10_14 Q st = Q (.exit 0) st := by rw [awp_eq]; kernel_rfl
theorem w10_12 : awp X n c10_12 Q ((a0::a1::a2::a3::a4::a5::a6::a7::a8::a9::b0::b1::b2::b3::b4::b5::b6::b7::b8::b9::d0::d1::d2::d3::d4::d5::d6::d7::d8::d9::[]), h) = a_cond b5 (awp X n c10_13 Q ((a0::a1::a2::a3::a4::a5::a6::a7::a8::a9::b0::b1::b2::b3::b4::b5::b6::b7::b8::b9::d0::d1::d2::d3::d4::d5::d6::d7::d8::d9::[]), h)) (awp X n c10_14 Q ((a0::a1::a2::a3::a4::a5::a6::a7::a8::a9::b0::b1::b2::b3::b4::b5::b6::b7::b8::b9::d0::d1::d2::d3::d4::d5::d6::d7::d8::d9::[]), h)) := by rw [awp_eq]; kernel_rfl
noncomputable def c10_15 : Code := cr c10_11
noncomputable def c10_16 : Code := cl c10_15
noncomputable def c10_17 : Code := cl c10_16
noncomputable def c10_18 : Code := cl c10_17
theorem w10_18 : awp X n c10_18 Q ((a0::a1::a2::a3::a4::a5::a6::a7::a8::a9::b0::b1::b2::b3::b4::b5::b6::b7::b8::b9::d0::d1::d2::d3::d4::d5::d6::d7::d8::d9::[]), h) = (a_mov a0 h (.c (fun t16 h1 => a_mov a1 h1 (.c (fun t17 h2 => a_cint .u8 t17 h2 (.c (fun t18 h3 => a_bin .or t18 (.v (.int .u8 128)) h3 (.c (fun t19 h4 => a_lit 1 1 [.v (.int .u8 0)] [(0, 1, t19)] h4 (.c (fun t20 h5 => a_app 1 1 t16 t20 h5 (.c (fun t21 h6 => a_mov t21 h6 (.c (fun t0 h7 => Q .normal ((t0::a1::a2::a3::a4::a5::a6::a7::a8::a9::b0::b1::b2::b3::b4::b5::t16::t17::t18::t19::t20::t21::d2::d3::d4::d5::d6::d7::d8::d9::[]), h7)) ())) ())) ())) ())) ())) ())) ())) := by rw [awp_eq]; kernel_rfl
noncomputable def c10_19 : Code := cr c10_17
theorem w10_19 : awp X n c10_19 Q ((a0::a1::a2::a3::a4::a5::a6::a7::a8::a9::b0::b1::b2::b3::b4::b5::b6::b7::b8::b9::d0::d1::d2::d3::d4::d5::d6::d7::d8::d9::[]), h) = (a_mov a1 h (.c (fun t22 h1 => a_bin .shr t22 (.v (.int .u64 7)) h1 (.c (fun t23 h2 => a_mov t23 h2 (.c (fun t1 h3 => Q .normal ((a0::t1::a2::a3::a4::a5::a6::a7::a8::a9::b0::b1::b2::b3::b4::b5::b6::b7::b8::b9::d0::d1::t22::t23::d4::d5::d6::d7::d8::d9::[]), h3)) ())) ())) ())) := by rw [awp_eq]; kernel_rfl
theorem w10_17 : awp X n c10_17 Q st = awp X n c10_18 (thenQ (awp X n c10_19 Q) Q) st := by rw [awp_eq]; kernel_rfl
theorem w10_16 : awp X n c10_16 Q st = awp X n c10_17 (blockQ 1 Q) st := by rw [awp_eq]; kernel_rfl
noncomputable def c10_20 : Code := cr c10_15
theorem w10_20 : awp X n c10_20 Q ((a0::a1::a2::a3::a4::a5::a6::a7::a8::a9::b0::b1::b2::b3::b4::b5::b6::b7::b8::b9::d0::d1::d2::d3::d4::d5::d6::d7::d8::d9::[]), h) = (a_bin .add b4 (.v (.int .i64 1)) h (.c (fun t24 h1 => a_mov t24 h1 (.c (fun t14 h2 => Q .normal ((a0::a1::a2::a3::a4::a5::a6::a7::a8::a9::b0::b1::b2::b3::t14::b5::b6::b7::b8::b9::d0::d1::d2::d3::t24::d5::d6::d7::d8::d9::[]), h2)) ())) ())) := by rw [awp_eq]; kernel_rfl
theorem w10_15 : awp X n c10_15 Q st = awp X n c10_16 (thenQ (awp X n c10_20 Q) Q) st := by rw [awp_eq]; kernel_rfl
theorem w10_11 : awp X n c10_11 Q st = awp X n c10_12 (thenQ (awp X n c10_15 Q) Q) st := by rw [awp_eq]; kernel_rfl
theorem w10_9 : awp X n c10_9 Q st = awp X n c10_10 (thenQ (awp X n c10_11 Q) Q) st := by rw [awp_eq]; kernel_rfl
theorem w10_8 : awp X n c10_8 Q st = ALoop X n c10_9 Q st := by rw [awp_eq]; kernel_rfl
theorem w10_7 : awp X n c10_7 Q st = awp X n c10_8 (blockQ 0 Q) st := by rw [awp_eq]; kernel_rfl
theorem w10_5 : awp X n c10_5 Q st = awp X n c10_6 (thenQ (awp X n c10_7 Q) Q) st := by rw [awp_eq]; kernel_rfl
noncomputable def c10_21 : Code := cr c10_4
noncomputable def c10_22 : Code := cl c10_21
theorem w10_22 : awp X n c10_22 Q ((a0::a1::a2::a3::a4::a5::a6::a7::a8::a9::b0::b1::b2::b3::b4::b5::b6::b7::b8::b9::d0::d1::d2::d3::d4::d5::d6::d7::d8::d9::[]), h) = (a_mov a0 h (.c (fun t25 h1 => a_mov a1 h1 (.c (fun t26 h2 => a_cint .u8 t26 h2 (.c (fun t27 h3 => a_lit 1 1 [.v (.int .u8 0)] [(0, 1, t27)] h3 (.c (fun t28 h4 => a_app 1 1 t25 t28 h4 (.c (fun t29 h5 => a_mov t29 h5 (.c (fun t6 h6 => Q .normal ((a0::a1::a2::a3::a4::a5::t6::a7::a8::a9::b0::b1::b2::b3::b4::b5::b6::b7::b8::b9::d0::d1::d2::d3::d4::t25::t26::t27::t28::t29::[]), h6)) ())) ())) ())) ())) ())) ())) := by rw [awp_eq]; kernel_rfl
noncomputable def c10_23 : Code := cr c10_21
theorem w10_23 : awp X n c10_23 Q st = Q .ret st := by rw [awp_eq]; kernel_rfl
theorem w10_21 : awp X n c10_21 Q st = awp X n c10_22 (thenQ (awp X n c10_23 Q) Q) st := by rw [awp_eq]; kernel_rfl
theorem w10_4 : awp X n c10_4 Q st = awp X n c10_5 (thenQ (awp X n c10_21 Q) Q) st := by rw [awp_eq]; kernel_rfl
theorem w10_2 : awp X n c10_2 Q st = awp X n c10_3 (thenQ (awp X n c10_4 Q) Q) st := by rw [awp_eq]; kernel_rfl
theorem w10_0 : awp X n c10_0 Q st = awp X n c10_1 (thenQ (awp X n c10_2 Q) Q) st := by rw [awp_eq]; kernel_rfl
theorem q10_ret : retQ X Try.f10 K .ret ((a0::a1::a2::a3::a4::a5::a6::a7::a8::a9::b0::b1::b2::b3::b4::b5::b6::b7::b8::b9::d0::d1::d2::d3::d4::d5::d6::d7::d8::d9::[]), h) = (K.K a6 h) := by kernel_rfl
theorem q10_normal : retQ X Try.f10 K .normal ((a0::a1::a2::a3::a4::a5::a6::a7::a8::a9::b0::b1::b2::b3::b4::b5::b6::b7::b8::b9::d0::d1::d2::d3::d4::d5::d6::d7::d8::d9::[]), h) = (K.K a6 h) := by kernel_rfl
theorem i10 (H : awp X h.length c10_0 (retQ X Try.f10 K) ((a0::a1::a2::.bad::.bad::.bad::.bad::.bad::.bad::.bad::.bad::.bad::.bad::.bad::.bad::.bad::.bad::.bad::.bad::.bad::.bad::.bad::.bad::.bad::.bad::.bad::.bad::.bad::.bad::.bad::[]), h)) : ACall X 10 [a0, a1, a2] h K := acall_intro (fn := Try.f10) (by kernel_rfl) (by kernel_rfl) (by kernel_rfl) H
noncomputable def R10 := And.intro (And.intro (And.intro (And.intro (w10_1) (And.intro w10_3 w10_6)) (And.intro (w10_10) (And.intro w10_13 w10_14))) (And.intro (And.intro (w10_12) (And.intro w10_18 w10_19)) (And.intro (And.intro w10_17 w10_16) (And.intro w10_20 w10_15)))) (And.intro (And.intro (And.intro (w10_11) (And.intro w10_9 w10_8)) (And.intro (w10_7) (And.intro w10_5 w10_22))) (And.intro (And.intro (w10_23) (And.intro w10_21 w10_4)) (And.intro (And.intro w10_2 w10_0) (And.intro q10_ret q10_normal))))
/-! function 11: sindri/leb.PutS -/
noncomputable def c11_0 : Code := bodyOf Try.f11
noncomputable def c11_1 : Code := cl c11_0
theorem w11_1 : awp X n c11_1 Q ((a0::a1::a2::a3::a4::a5::a6::a7::a8::[]), h) = (a_mov (.v (.slice none 0 0)) h (.c (fun t4 h1 => Q .normal ((a0::a1::a2::a3::t4::a5::a6::a7::a8::[]), h1)) ())) := by rw [awp_eq]; kernel_rfl
noncomputable def c11_2 : Code := cr c11_0
noncomputable def c11_3 : Code := cl c11_2
theorem w11_3 : awp X n c11_3 Q ((a0::a1::a2::a3::a4::a5::a6::a7::a8::[]), h) = (a_mov a0 h (.c (fun t5 h1 => a_mov a1 h1 (.c (fun t6 h2 => ACall X 27 [t6] h2 (.c (fun t7 h3 => ACall X 26 [t5, t7] h3 (.c (fun t8 h4 => a_mov t8 h4 (.c (fun t4 h5 => Q .normal ((a0::a1::a2::a3::t4::t5::t6::t7::t8::[]), h5)) ())) ())) ())) ())) ())) := by rw [awp_eq]; kernel_rfl
noncomputable def c11_4 : Code := cr c11_2
theorem w11_4 : awp X n c11_4 Q st = Q .ret st := by rw [awp_eq]; kernel_rfl
theorem w11_2 : awp X n c11_2 Q st = awp X n c11_3 (thenQ (awp X n c11_4 Q) Q) st := by rw [awp_eq]; kernel_rfl
theorem w11_0 : awp X n c11_0 Q st = awp X n c11_1 (thenQ (awp X n c11_2 Q) Q) st := by rw [awp_eq]; kernel_rfl
theorem q11_ret : retQ X Try.f11 K .ret ((a0::a1::a2::a3::a4::a5::a6::a7::a8::[]), h) = (K.K a4 h) := by kernel_rfl
theorem q11_normal : retQ X Try.f11 K .normal ((a0::a1::a2::a3::a4::a5::a6::a7::a8::[]), h) = (K.K a4 h) := by kernel_rfl
theorem i11 (H : awp X h.length c11_0 (retQ X Try.f11 K) ((a0::a1::.bad::.bad::.bad::.bad::.bad::.bad::.bad::[]), h)) : ACall X 11 [a0, a1] h K := acall_intro (fn := Try.f11) (by kernel_rfl) (by kernel_rfl) (by kernel_rfl) H
noncomputable def R11 := And.intro (And.intro (w11_1) (And.intro w11_3 w11_4)) (And.intro (And.intro w11_2 w11_0) (And.intro q11_ret q11_normal))
/-! function 12: sindri/leb.PutU -/
noncomputable def c12_0 : Code := bodyOf Try.f12
noncomputable def c12_1 : Code := cl c12_0
theorem w12_1 : awp X n c12_1 Q ((a0::a1::a2::a3::a4::a5::a6::a7::a8::[]), h) = (a_mov (.v (.slice none 0 0)) h (.c (fun t4 h1 => Q .normal ((a0::a1::a2::a3::t4::a5::a6::a7::a8::[]), h1)) ())) := by rw [awp_eq]; kernel_rfl
noncomputable def c12_2 : Code := cr c12_0
noncomputable def c12_3 : Code := cl c12_2
theorem w12_3 : awp X n c12_3 Q ((a0::a1::a2::a3::a4::a5::a6::a7::a8::[]), h) = (a_mov a0 h (.c (fun t5 h1 => a_mov a1 h1 (.c (fun t6 h2 => ACall X 28 [t6] h2 (.c (fun t7 h3 => ACall X 26 [t5, t7] h3 (.c (fun t8 h4 => a_mov t8 h4 (.c (fun t4 h5 => Q .normal ((a0::a1::a2::a3::t4::t5::t6::t7::t8::[]), h5)) ())) ())) ())) ())) ())) := by rw [awp_eq]; kernel_rfl
noncomputable def c12_4 : Code := cr c12_2
theorem w12_4 : awp X n c12_4 Q st = Q .ret st := by rw [awp_eq]; kernel_rfl
theorem w12_2 : awp X n c12_2 Q st = awp X n c12_3 (thenQ (awp X n c12_4 Q) Q) st := by rw [awp_eq]; kernel_rfl
theorem w12_0 : awp X n c12_0 Q st = awp X n c12_1 (thenQ (awp X n c12_2 Q) Q) st := by rw [awp_eq]; kernel_rfl
theorem q12_ret : retQ X Try.f12 K .ret ((a0::a1::a2::a3::a4::a5::a6::a7::a8::[]), h) = (K.K a4 h) := by kernel_rfl
theorem q12_normal : retQ X Try.f12 K .normal ((a0::a1::a2::a3::a4::a5::a6::a7::a8::[]), h) = (K.K a4 h) := by kernel_rfl
theorem i12 (H : awp X h.length c12_0 (retQ X Try.f12 K) ((a0::a1::.bad::.bad::.bad::.bad::.bad::.bad::.bad::[]), h)) : ACall X 12 [a0, a1] h K := acall_intro (fn := Try.f12) (by kernel_rfl) (by kernel_rfl) (by kernel_rfl) H
noncomputable def R12 := And.intro (And.intro (w12_1) (And.intro w12_3 w12_4)) (And.intro (And.intro w12_2 w12_0) (And.intro q12_ret q12_normal))
/-! function 13: sindri/leb.U -/
noncomputable def c13_0 : Code := bodyOf Try.f13
noncomputable def c13_1 : Code := cl c13_0
theorem w13_1 : awp X n c13_1 Q ((a0::a1::a2::a3::a4::a5::a6::a7::a8::a9::b0::b1::b2::b3::b4::b5::b6::b7::b8::b9::d0::[]), h) = (a_mov (.v (.int .u64 0)) h (.c (fun t2 h1 => Q .normal ((a0::a1::t2::a3::a4::a5::a6::a7::a8::a9::b0::b1::b2::b3::b4::b5::b6::b7::b8::b9::d0::[]), h1)) ())) := by rw [awp_eq]; kernel_rfl
noncomputable def c13_2 : Code := cr c13_0
noncomputable def c13_3 : Code := cl c13_2
theorem w13_3 : awp X n c13_3 Q ((a0::a1::a2::a3::a4::a5::a6::a7::a8::a9::b0::b1::b2::b3::b4::b5::b6::b7::b8::b9::d0::[]), h) = (a_mov a0 h (.c (fun t7 h1 => ACall X 29 [t7] h1 (.c (fun t8 h2 => a_mov t8 h2 (.c (fun t6 h3 => a_ext 0 t6 h3 (.c (fun t9 h4 => a_ext 1 t6 h4 (.c (fun t10 h5 => a_ext 2 t6 h5 (.c (fun t11 h6 => a_alloc [.v (.int .u8 0), .v (.int .u8 0), .v (.int .u8 0), .v (.int .u8 0), .v (.int .u8 0), .v (.int .u8 0), .v (.int .u8 0), .v (.int .u8 0), .v (.int .u8 0), .v (.int .u8 0)] h6 (.c (fun t3 h7 => a_store 10 t3 t9 h7 (.c (fun _v7 h8 => a_mov t10 h8 (.c (fun t4 h9 => a_mov t11 h9 (.c (fun t5 h10 => Q .normal ((a0::a1::a2::t3::t4::t5::t6::t7::t8::t9::t10::t11::b2::b3::b4::b5::b6::b7::b8::b9::d0::[]), h10)) ())) ())) ())) ())) ())) ())) ())) ())) ())) ())) := by rw [awp_eq]; kernel_rfl
noncomputable def c13_4 : Code := cr c13_2
noncomputable def c13_5 : Code := cl c13_4
noncomputable def c13_6 : Code := cl c13_5
theorem w13_6 : awp X n c13_6 Q ((a0::a1::a2::a3::a4::a5::a6::a7::a8::a9::b0::b1::b2::b3::b4::b5::b6::b7::b8::b9::d0::[]), h) = (a_mov a5 h (.c (fun t12 h1 => a_un .not t12 h1 (.c (fun t13 h2 => Q .normal ((a0::a1::a2::a3::a4::a5::a6::a7::a8::a9::b0::b1::t12::t13::b4::b5::b6::b7::b8::b9::d0::[]), h2)) ())) ())) := by rw [awp_eq]; kernel_rfl
noncomputable def c13_7 : Code := cr c13_5
noncomputable def c13_8 : Code := cl c13_7
noncomputable def c13_9 : Code := cl c13_8
theorem w13_9 : awp X n c13_9 Q ((a0::a1::a2::a3::a4::a5::a6::a7::a8::a9::b0::b1::b2::b3::b4::b5::b6::b7::b8::b9::d0::[]), h) = (a_mov (.v (.int .u64 0)) h (.c (fun t2 h1 => Q .normal ((a0::a1::t2::a3::a4::a5::a6::a7::a8::a9::b0::b1::b2::b3::b4::b5::b6::b7::b8::b9::d0::[]), h1)) ())) := by rw [awp_eq]; kernel_rfl
noncomputable def c13_10 : Code := cr c13_8
theorem w13_10 : awp X n c13_10 Q st = Q .ret st := by rw [awp_eq]; kernel_rfl
theorem w13_8 : awp X n c13_8 Q st = awp X n c13_9 (thenQ (awp X n c13_10 Q) Q) st := by rw [awp_eq]; kernel_rfl
noncomputable def c13_11 : Code := cr c13_7
theorem w13_11 : awp X n c13_11 Q st = Q .normal st := by rw [awp_eq]; kernel_rfl
theorem w13_7 : awp X n c13_7 Q ((a0::a1::a2::a3::a4::a5::a6::a7::a8::a9::b0::b1::b2::b3::b4::b5::b6::b7::b8::b9::d0::[]), h) = a_cond b3 (awp X n c13_8 Q ((a0::a1::a2::a3::a4::a5::a6::a7::a8::a9::b0::b1::b2::b3::b4::b5::b6::b7::b8::b9::d0::[]), h)) (awp X n c13_11 Q ((a0::a1::a2::a3::a4::a5::a6::a7::a8::a9::b0::b1::b2::b3::b4::b5::b6::b7::b8::b9::d0::[]), h)) := by rw [awp_eq]; kernel_rfl
theorem w13_5 : awp X n c13_5 Q st = awp X n c13_6 (thenQ (awp X n c13_7 Q) Q) st := by rw [awp_eq]; kernel_rfl
noncomputable def c13_12 : Code := cr c13_4
noncomputable def c13_13 : Code := cl c13_12
noncomputable def c13_14 : Code := cl c13_13
theorem w13_14 : awp X n c13_14 Q ((a0::a1::a2::a3::a4::a5::a6::a7::a8::a9::b0::b1::b2::b3::b4::b5::b6::b7::b8::b9::d0::[]), h) = (a_iarr 10 1 a3 (.v (.int .i64 9)) h (.c (fun t14 h1 => a_load 1 false t14 h1 (.c (fun t15 h2 => a_bin .gtr t15 (.v (.int .u8 1)) h2 (.c (fun t16 h3 => Q .normal ((a0::a1::a2::a3::a4::a5::a6::a7::a8::a9::b0::b1::b2::b3::t14::t15::t16::b7::b8::b9::d0::[]), h3)) ())) ())) ())) := by rw [awp_eq]; kernel_rfl
noncomputable def c13_15 : Code := cr c13_13
noncomputable def c13_16 : Code := cl c13_15
noncomputable def c13_17 : Code := cl c13_16
theorem w13_17 : awp X n c13_17 Q ((a0::a1::a2::a3::a4::a5::a6::a7::a8::a9::b0::b1::b2::b3::b4::b5::b6::b7::b8::b9::d0::[]), h) = (a_mov a0 h (.c (fun t17 h1 => ACall X 30 [t17, (.v (.int .i64 11))] h1 (.c (fun t18 h2 => Q .normal ((a0::a1::a2::a3::a4::a5::a6::a7::a8::a9::b0::b1::b2::b3::b4::b5::b6::t17::t18::b9::d0::[]), h2)) ())) ())) := by rw [awp_eq]; kernel_rfl
noncomputable def c13_18 : Code := cr c13_16
noncomputable def c13_19 : Code := cl c13_18
theorem w13_19 : awp X n c13_19 Q ((a0::a1::a2::a3::a4::a5::a6::a7::a8::a9::b0::b1::b2::b3::b4::b5::b6::b7::b8::b9::d0::[]), h) = (a_mov (.v (.int .u64 0)) h (.c (fun t2 h1 => Q .normal ((a0::a1::t2::a3::a4::a5::a6::a7::a8::a9::b0::b1::b2::b3::b4::b5::b6::b7::b8::b9::d0::[]), h1)) ())) := by rw [awp_eq]; kernel_rfl
noncomputable def c13_20 : Code := cr c13_18
theorem w13_20 : awp X n c13_20 Q st = Q .ret st := by rw [awp_eq]; kernel_rfl
theorem w13_18 : awp X n c13_18 Q st = awp X n c13_19 (thenQ (awp X n c13_20 Q) Q) st := by rw [awp_eq]; kernel_rfl
theorem w13_16 : awp X n c13_16 Q st = awp X n c13_17 (thenQ (awp X n c13_18 Q) Q) st := by rw [awp_eq]; kernel_rfl
noncomputable def c13_21 : Code := cr c13_15
theorem w13_21 : awp X n c13_21 Q st = Q .normal st := by rw [awp_eq]; kernel_rfl
theorem w13_15 : awp X n c13_15 Q ((a0::a1::a2::a3::a4::a5::a6::a7::a8::a9::b0::b1::b2::b3::b4::b5::b6::b7::b8::b9::d0::[]), h) = a_cond b6 (awp X n c13_16 Q ((a0::a1::a2::a3::a4::a5::a6::a7::a8::a9::b0::b1::b2::b3::b4::b5::b6::b7::b8::b9::d0::[]), h)) (awp X n c13_21 Q ((a0::a1::a2::a3::a4::a5::a6::a7::a8::a9::b0::b1::b2::b3::b4::b5::b6::b7::b8::b9::d0::[]), h)) := by rw [awp_eq]; kernel_rfl
theorem w13_13 : awp X n c13_13 Q st = awp X n c13_14 (thenQ (awp X n c13_15 Q) Q) st := by rw [awp_eq]; kernel_rfl
noncomputable def c13_22 : Code := cr c13_12
noncomputable def c13_23 : Code := cl c13_22
theorem w13_23 : awp X n c13_23 Q ((a0::a1::a2::a3::a4::a5::a6::a7::a8::a9::b0::b1::b2::b3::b4::b5::b6::b7::b8::b9::d0::[]), h) = (a_load 10 true a3 h (.c (fun t19 h1 => ACall X 31 [t19] h1 (.c (fun t20 h2 => a_mov t20 h2 (.c (fun t2 h3 => Q .normal ((a0::a1::t2::a3::a4::a5::a6::a7::a8::a9::b0::b1::b2::b3::b4::b5::b6::b7::b8::t19::t20::[]), h3)) ())) ())) ())) := by rw [awp_eq]; kernel_rfl
noncomputable def c13_24 : Code := cr c13_22
theorem w13_24 : awp X n c13_24 Q st = Q .ret st := by rw [awp_eq]; kernel_rfl
theorem w13_22 : awp X n c13_22 Q st = awp X n c13_23 (thenQ (awp X n c13_24 Q) Q) st := by rw [awp_eq]; kernel_rfl
theorem w13_12 : awp X n c13_12 Q st = awp X n c13_13 (thenQ (awp X n c13_22 Q) Q) st := by rw [awp_eq]; kernel_rfl
theorem w13_4 : awp X n c13_4 Q st = awp X n c13_5 (thenQ (awp X n c13_12 Q) Q) st := by rw [awp_eq]; kernel_rfl
theorem w13_2 : awp X n c13_2 Q st = awp X n c13_3 (thenQ (awp X n c13_4 Q) Q) st := by rw [awp_eq]; kernel_rfl
theorem w13_0 : awp X n c13_0 Q st = awp X n c13_1 (thenQ (awp X n c13_2 Q) Q) st := by rw [awp_eq]; kernel_rfl
theorem q13_ret : retQ X Try.f13 K .ret ((a0::a1::a2::a3::a4::a5::a6::a7::a8::a9::b0::b1::b2::b3::b4::b5::b6::b7::b8::b9::d0::[]), h) = (K.K a2 h) := by kernel_rfl
theorem q13_normal : retQ X Try.f13 K .normal ((a0::a1::a2::a3::a4::a5::a6::a7::a8::a9::b0::b1::b2::b3::b4::b5::b6::b7::b8::b9::d0::[]), h) = (K.K a2 h) := by kernel_rfl
theorem i13 (H : awp X h.length c13_0 (retQ X Try.f13 K) ((a0::.bad::.bad::.bad::.bad::.bad::.bad::.bad::.bad::.bad::.bad::.bad::.bad::.bad::.bad::.bad::.bad::.bad::.bad::.bad::.bad::[]), h)) : ACall X 13 [a0] h K := acall_intro (fn := Try.f13) (by kernel_rfl) (by kernel_rfl) (by kernel_rfl) H
noncomputable def R13 := And.intro (And.intro (And.intro (And.intro (w13_1) (And.intro w13_3 w13_6)) (And.intro (w13_9) (And.intro w13_10 w13_8))) (And.intro (And.intro (w13_11) (And.intro w13_7 w13_5)) (And.intro (And.intro w13_14 w13_17) (And.intro w13_19 w13_20)))) (And.intro (And.intro (And.intro (w13_18) (And.intro w13_16 w13_21)) (And.intro (And.intro w13_15 w13_13) (And.intro w13_23 w13_24))) (And.intro (And.intro (w13_22) (And.intro w13_12 w13_4)) (And.intro (And.intro w13_2 w13_0) (And.intro q13_ret q13_normal))))
/-! function 14: sindri/leb.S -/
noncomputable def c14_0 : Code := bodyOf Try.f14
noncomputable def c14_1 : Code := cl c14_0
theorem w14_1 : awp X n c14_1 Q ((a0::a1::a2::a3::a4::a5::a6::a7::a8::a9::b0::b1::b2::b3::b4::b5::b6::b7::b8::b9::d0::d1::d2::d3::d4::d5::d6::d7::d8::d9::e0::e1::e2::e3::e4::e5::e6::e7::e8::e9::f0::f1::f2::f3::f4::f5::f6::f7::[]), h) = (a_mov (.v (.int .i64 0)) h (.c (fun t2 h1 => Q .normal ((a0::a1::t2::a3::a4::a5::a6::a7::a8::a9::b0::b1::b2::b3::b4::b5::b6::b7::b8::b9::d0::d1::d2::d3::d4::d5::d6::d7::d8::d9::e0::e1::e2::e3::e4::e5::e6::e7::e8::e9::f0::f1::f2::f3::f4::f5::f6::f7::[]), h1)) ())) := by rw [awp_eq]; kernel_rfl
noncomputable def c14_2 : Code := cr c14_0
noncomputable def c14_3 : Code := cl c14_2
theorem w14_3 : awp X n c14_3 Q ((a0::a1::a2::a3::a4::a5::a6::a7::a8::a9::b0::b1::b2::b3::b4::b5::b6::b7::b8::b9::d0::d1::d2::d3::d4::d5::d6::d7::d8::d9::e0::e1::e2::e3::e4::e5::e6::e7::e8::e9::f0::f1::f2::f3::f4::f5::f6::f7::[]), h) = (a_mov a0 h (.c (fun t8 h1 => ACall X 29 [t8] h1 (.c (fun t9 h2 => a_mov t9 h2 (.c (fun t7 h3 => a_ext 0 t7 h3 (.c (fun t10 h4 => a_ext 1 t7 h4 (.c (fun t11 h5 => a_ext 2 t7 h5 (.c (fun t12 h6 => a_alloc [.v (.int .u8 0), .v (.int .u8 0), .v (.int .u8 0), .v (.int .u8 0), .v (.int .u8 0), .v (.int .u8 0), .v (.int .u8 0), .v (.int .u8 0), .v (.int .u8 0), .v (.int .u8 0)] h6 (.c (fun t3 h7 => a_store 10 t3 t10 h7 (.c (fun _v7 h8 => a_mov t11 h8 (.c (fun t4 h9 => a_mov t12 h9 (.c (fun t5 h10 => Q .normal ((a0::a1::a2::t3::t4::t5::a6::t7::t8::t9::t10::t11::t12::b3::b4::b5::b6::b7::b8::b9::d0::d1::d2::d3::d4::d5::d6::d7::d8::d9::e0::e1::e2::e3::e4::e5::e6::e7::e8::e9::f0::f1::f2::f3::f4::f5::f6::f7::[]), h10)) ())) ())) ())) ())) ())) ())) ())) ())) ())) ())) := by rw [awp_eq]; kernel_rfl
noncomputable def c14_4 : Code := cr c14_2
noncomputable def c14_5 : Code := cl c14_4
noncomputable def c14_6 : Code := cl c14_5
theorem w14_6 : awp X n c14_6 Q ((a0::a1::a2::a3::a4::a5::a6::a7::a8::a9::b0::b1::b2::b3::b4::b5::b6::b7::b8::b9::d0::d1::d2::d3::d4::d5::d6::d7::d8::d9::e0::e1::e2::e3::e4::e5::e6::e7::e8::e9::f0::f1::f2::f3::f4::f5::f6::f7::[]), h) = (a_mov a5 h (.c (fun t13 h1 => a_un .not t13 h1 (.c (fun t14 h2 => Q .normal ((a0::a1::a2::a3::a4::a5::a6::a7::a8::a9::b0::b1::b2::t13::t14::b5::b6::b7::b8::b9::d0::d1::d2::d3::d4::d5::d6::d7::d8::d9::e0::e1::e2::e3::e4::e5::e6::e7::e8::e9::f0::f1::f2::f3::f4::f5::f6::f7::[]), h2)) ())) ())) := by rw [awp_eq]; kernel_rfl
noncomputable def c14_7 : Code := cr c14_5
noncomputable def c14_8 : Code := cl c14_7
noncomputable def c14_9 : Code := cl c14_8
theorem w14_9 : awp X n c14_9 Q ((a0::a1::a2::a3::a4::a5::a6::a7::a8::a9::b0::b1::b2::b3::b4::b5::b6::b7::b8::b9::d0::d1::d2::d3::d4::d5::d6::d7::d8::d9::e0::e1::e2::e3::e4::e5::e6::e7::e8::e9::f0::f1::f2::f3::f4::f5::f6::f7::[]), h) = (a_mov (.v (.int .i64 0)) h (.c (fun t2 h1 => Q .normal ((a0::a1::t2::a3::a4::a5::a6::a7::a8::a9::b0::b1::b2::b3::b4::b5::b6::b7::b8::b9::d0::d1::d2::d3::d4::d5::d6::d7::d8::d9::e0::e1::e2::e3::e4::e5::e6::e7::e8::e9::f0::f1::f2::f3::f4::f5::f6::f7::[]), h1)) ())) := by rw [awp_eq]; kernel_rfl
noncomputable def c14_10 : Code := cr c14_8
theorem w14_10 : awp X n c14_10 Q st = Q .ret st := by rw [awp_eq]; kernel_rfl
theorem w14_8 : awp X n c14_8 Q st = awp X n c14_9 (thenQ (awp X n c14_10 Q) Q) st := by rw [awp_eq]; kernel_rfl
noncomputable def c14_11 : Code := cr c14_7
theorem w14_11 : awp X n c14_11 Q st = Q .normal st := by rw [awp_eq]; kernel_rfl
theorem w14_7 : awp X n c14_7 Q ((a0::a1::a2::a3::a4::a5::a6::a7::a8::a9::b0::b1::b2::b3::b4::b5::b6::b7::b8::b9::d0::d1::d2::d3::d4::d5::d6::d7::d8::d9::e0::e1::e2::e3::e4::e5::e6::e7::e8::e9::f0::f1::f2::f3::f4::f5::f6::f7::[]), h) = a_cond b4 (awp X n c14_8 Q ((a0::a1::a2::a3::a4::a5::a6::a7::a8::a9::b0::b1::b2::b3::b4::b5::b6::b7::b8::b9::d0::d1::d2::d3::d4::d5::d6::d7::d8::d9::e0::e1::e2::e3::e4::e5::e6::e7::e8::e9::f0::f1::f2::f3::f4::f5::f6::f7::[]), h)) (awp X n c14_11 Q ((a0::a1::a2::a3::a4::a5::a6::a7::a8::a9::b0::b1::b2::b3::b4::b5::b6::b7::b8::b9::d0::d1::d2::d3::d4::d5::d6::d7::d8::d9::e0::e1::e2::e3::e4::e5::e6::e7::e8::e9::f0::f1::f2::f3::f4::f5::f6::f7::[]), h)) := by rw [awp_eq]; kernel_rfl
theorem w14_5 : awp X n c14_5 Q st = awp X n c14_6 (thenQ (awp X n c14_7 Q) Q) st := by rw [awp_eq]; kernel_rfl
noncomputable def c14_12 : Code := cr c14_4
noncomputable def c14_13 : Code := cl c14_12
noncomputable def c14_14 : Code := cl c14_13
theorem w14_14 : awp X n c14_14 Q ((a0::a1::a2::a3::a4::a5::a6::a7::a8::a9::b0::b1::b2::b3::b4::b5::b6::b7::b8::b9::d0::d1::d2::d3::d4::d5::d6::d7::d8::d9::e0::e1::e2::e3::e4::e5::e6::e7::e8::e9::f0::f1::f2::f3::f4::f5::f6::f7::[]), h) = (a_mov a4 h (.c (fun t15 h1 => a_bin .eql t15 (.v (.int .i64 10)) h1 (.c (fun t16 h2 => a_mov t16 h2 (.c (fun t17 h3 => a_on t17 true (fun k => a_iarr 10 1 a3 (.v (.int .i64 9)) h3 k) h3 (.c (fun t18 h4 => a_on t17 true (fun k => a_load 1 false t18 h4 k) h4 (.c (fun t19 h5 => a_on t17 true (fun k => a_bin .neq t19 (.v (.int .u8 0)) h5 k) h5 (.c (fun t20 h6 => a_pick t17 t20 (.v (.bool false)) h6 (.c (fun t21 h7 => a_mov t21 h7 (.c (fun t22 h8 => a_on t22 true (fun k => a_iarr 10 1 a3 (.v (.int .i64 9)) h8 k) h8 (.c (fun t23 h9 => a_on t22 true (fun k => a_load 1 false t23 h9 k) h9 (.c (fun t24 h10 => a_on t22 true (fun k => a_bin .neq t24 (.v (.int .u8 127)) h10 k) h10 (.c (fun t25 h11 => a_pick t22 t25 (.v (.bool false)) h11 (.c (fun t26 h12 => Q .normal ((a0::a1::a2::a3::a4::a5::a6::a7::a8::a9::b0::b1::b2::b3::b4::t15::t16::t17::t18::t19::t20::t21::t22::t23::t24::t25::t26::d7::d8::d9::e0::e1::e2::e3::e4::e5::e6::e7::e8::e9::f0::f1::f2::f3::f4::f5::f6::f7::[]), h12)) ())) ())) ())) ())) ())) ())) ())) ())) ())) ())) ())) ())) := by rw [awp_eq]; kernel_rfl
noncomputable def c14_15 : Code := cr c14_13
noncomputable def c14_16 : Code := cl c14_15
noncomputable def c14_17 : Code := cl c14_16
theorem w14_17 : awp X n c14_17 Q ((a0::a1::a2::a3::a4::a5::a6::a7::a8::a9::b0::b1::b2::b3::b4::b5::b6::b7::b8::b9::d0::d1::d2::d3::d4::d5::d6::d7::d8::d9::e0::e1::e2::e3::e4::e5::e6::e7::e8::e9::f0::f1::f2::f3::f4::f5::f6::f7::[]), h) = (a_mov a0 h (.c (fun t27 h1 => ACall X 30 [t27, (.v (.int .i64 11))] h1 (.c (fun t28 h2 => Q .normal ((a0::a1::a2::a3::a4::a5::a6::a7::a8::a9::b0::b1::b2::b3::b4::b5::b6::b7::b8::b9::d0::d1::d2::d3::d4::d5::d6::t27::t28::d9::e0::e1::e2::e3::e4::e5::e6::e7::e8::e9::f0::f1::f2::f3::f4::f5::f6::f7::[]), h2)) ())) ())) := by rw [awp_eq]; kernel_rfl
noncomputable def c14_18 : Code := cr c14_16
noncomputable def c14_19 : Code := cl c14_18
theorem w14_19 : awp X n c14_19 Q ((a0::a1::a2::a3::a4::a5::a6::a7::a8::a9::b0::b1::b2::b3::b4::b5::b6::b7::b8::b9::d0::d1::d2::d3::d4::d5::d6::d7::d8::d9::e0::e1::e2::e3::e4::e5::e6::e7::e8::e9::f0::f1::f2::f3::f4::f5::f6::f7::[]), h) = (a_mov (.v (.int .i64 0)) h (.c (fun t2 h1 => Q .normal ((a0::a1::t2::a3::a4::a5::a6::a7::a8::a9::b0::b1::b2::b3::b4::b5::b6::b7::b8::b9::d0::d1::d2::d3::d4::d5::d6::d7::d8::d9::e0::e1::e2::e3::e4::e5::e6::e7::e8::e9::f0::f1::f2::f3::f4::f5::f6::f7::[]), h1)) ())) := by rw [awp_eq]; kernel_rfl
noncomputable def c14_20 : Code := cr c14_18
theorem w14_20 : awp X n c14_20 Q st = Q .ret st := by rw [awp_eq]; kernel_rfl
theorem w14_18 : awp X n c14_18 Q st = awp X n c14_19 (thenQ (awp X n c14_20 Q) Q) st := by rw [awp_eq]; kernel_rfl
theorem w14_16 : awp X n c14_16 Q st = awp X n c14_17 (thenQ (awp X n c14_18 Q) Q) st := by rw [awp_eq]; kernel_rfl
noncomputable def c14_21 : Code := cr c14_15
theorem w14_21 : awp X n c14_21 Q st = Q .normal st := by rw [awp_eq]; kernel_rfl
theorem w14_15 : awp X n c14_15 Q ((a0::a1::a2::a3::a4::a5::a6::a7::a8::a9::b0::b1::b2::b3::b4::b5::b6::b7::b8::b9::d0::d1::d2::d3::d4::d5::d6::d7::d8::d9::e0::e1::e2::e3::e4::e5::e6::e7::e8::e9::f0::f1::f2::f3::f4::f5::f6::f7::[]), h) = a_cond d6 (awp X n c14_16 Q ((a0::a1::a2::a3::a4::a5::a6::a7::a8::a9::b0::b1::b2::b3::b4::b5::b6::b7::b8::b9::d0::d1::d2::d3::d4::d5::d6::d7::d8::d9::e0::e1::e2::e3::e4::e5::e6::e7::e8::e9::f0::f1::f2::f3::f4::f5::f6::f7::[]), h)) (awp X n c14_21 Q ((a0::a1::a2::a3::a4::a5::a6::a7::a8::a9::b0::b1::b2::b3::b4::b5::b6::b7::b8::b9::d0::d1::d2::d3::d4::d5::d6::d7::d8::d9::e0::e1::e2::e3::e4::e5::e6::e7::e8::e9::f0::f1::f2::f3::f4::f5::f6::f7::[]), h)) := by rw [awp_eq]; kernel_rfl
theorem w14_13 : awp X n c14_13 Q st = awp X n c14_14 (thenQ (awp X n c14_15 Q) Q) st := by rw [awp_eq]; kernel_rfl
noncomputable def c14_22 : Code := cr c14_12
noncomputable def c14_23 : Code := cl c14_22
theorem w14_23 : awp X n c14_23 Q ((a0::a1::a2::a3::a4::a5::a6::a7::a8::a9::b0::b1::b2::b3::b4::b5::b6::b7::b8::b9::d0::d1::d2::d3::d4::d5::d6::d7::d8::d9::e0::e1::e2::e3::e4::e5::e6::e7::e8::e9::f0::f1::f2::f3::f4::f5::f6::f7::[]), h) = (a_load 10 true a3 h (.c (fun t29 h1 => ACall X 31 [t29] h1 (.c (fun t30 h2 => a_mov t30 h2 (.c (fun t6 h3 => Q .normal ((a0::a1::a2::a3::a4::a5::t6::a7::a8::a9::b0::b1::b2::b3::b4::b5::b6::b7::b8::b9::d0::d1::d2::d3::d4::d5::d6::d7::d8::t29::t30::e1::e2::e3::e4::e5::e6::e7::e8::e9::f0::f1::f2::f3::f4::f5::f6::f7::[]), h3)) ())) ())) ())) := by rw [awp_eq]; kernel_rfl
noncomputable def c14_24 : Code := cr c14_22
noncomputable def c14_25 : Code := cl c14_24
noncomputable def c14_26 : Code := cl c14_25
theorem w14_26 : awp X n c14_26 Q ((a0::a1::a2::a3::a4::a5::a6::a7::a8::a9::b0::b1::b2::b3::b4::b5::b6::b7::b8::b9::d0::d1::d2::d3::d4::d5::d6::d7::d8::d9::e0::e1::e2::e3::e4::e5::e6::e7::e8::e9::f0::f1::f2::f3::f4::f5::f6::f7::[]), h) = (a_mov a4 h (.c (fun t31 h1 => a_bin .lss t31 (.v (.int .i64 10)) h1 (.c (fun t32 h2 => a_mov t32 h2 (.c (fun t33 h3 => a_on t33 true (fun k => a_mov a4 h3 k) h3 (.c (fun t34 h4 => a_on t33 true (fun k => a_bin .sub t34 (.v (.int .i64 1)) h4 k) h4 (.c (fun t35 h5 => a_on t33 true (fun k => a_iarr 10 1 a3 t35 h5 k) h5 (.c (fun t36 h6 => a_on t33 true (fun k => a_load 1 false t36 h6 k) h6 (.c (fun t37 h7 => a_on t33 true (fun k => a_bin .geq t37 (.v (.int .u8 64)) h7 k) h7 (.c (fun t38 h8 => a_pick t33 t38 (.v (.bool false)) h8 (.c (fun t39 h9 => Q .normal ((a0::a1::a2::a3::a4::a5::a6::a7::a8::a9::b0::b1::b2::b3::b4::b5::b6::b7::b8::b9::d0::d1::d2::d3::d4::d5::d6::d7::d8::d9::e0::t31::t32::t33::t34::t35::t36::t37::t38::t39::f0::f1::f2::f3::f4::f5::f6::f7::[]), h9)) ())) ())) ())) ())) ())) ())) ())) ())) ())) := by rw [awp_eq]; kernel_rfl
noncomputable def c14_27 : Code := cr c14_25
noncomputable def c14_28 : Code := cl c14_27
theorem w14_28 : awp X n c14_28 Q ((a0::a1::a2::a3::a4::a5::a6::a7::a8::a9::b0::b1::b2::b3::b4::b5::b6::b7::b8::b9::d0::d1::d2::d3::d4::d5::d6::d7::d8::d9::e0::e1::e2::e3::e4::e5::e6::e7::e8::e9::f0::f1::f2::f3::f4::f5::f6::f7::[]), h) = (a_mov a6 h (.c (fun t40 h1 => a_mov a4 h1 (.c (fun t41 h2 => a_bin .mul (.v (.int .i64 7)) t41 h2 (.c (fun t42 h3 => a_cint .u64 t42 h3 (.c (fun t43 h4 => a_bin .shl (.v (.int .u64 18446744073709551615)) t43 h4 (.c (fun t44 h5 => a_bin .or t40 t44 h5 (.c (fun t45 h6 => a_mov t45 h6 (.c (fun t6 h7 => Q .normal ((a0::a1::a2::a3::a4::a5::t6::a7::a8::a9::b0::b1::b2::b3::b4::b5::b6::b7::b8::b9::d0::d1::d2::d3::d4::d5::d6::d7::d8::d9::e0::e1::e2::e3::e4::e5::e6::e7::e8::e9::t40::t41::t42::t43::t44::t45::f6::f7::[]), h7)) ())) ())) ())) ())) ())) ())) ())) := by rw [awp_eq]; kernel_rfl
noncomputable def c14_29 : Code := cr c14_27
theorem w14_29 : awp X n c14_29 Q st = Q .normal st := by rw [awp_eq]; kernel_rfl
theorem w14_27 : awp X n c14_27 Q ((a0::a1::a2::a3::a4::a5::a6::a7::a8::a9::b0::b1::b2::b3::b4::b5::b6::b7::b8::b9::d0::d1::d2::d3::d4::d5::d6::d7::d8::d9::e0::e1::e2::e3::e4::e5::e6::e7::e8::e9::f0::f1::f2::f3::f4::f5::f6::f7::[]), h) = a_cond e9 (awp X n c14_28 Q ((a0::a1::a2::a3::a4::a5::a6::a7::a8::a9::b0::b1::b2::b3::b4::b5::b6::b7::b8::b9::d0::d1::d2::d3::d4::d5::d6::d7::d8::d9::e0::e1::e2::e3::e4::e5::e6::e7::e8::e9::f0::f1::f2::f3::f4::f5::f6::f7::[]), h)) (awp X n c14_29 Q ((a0::a1::a2::a3::a4::a5::a6::a7::a8::a9::b0::b1::b2::b3::b4::b5::b6::b7::b8::b9::d0::d1::d2::d3::d4::d5::d6::d7::d8::d9::e0::e1::e2::e3::e4::e5::e6::e7::e8::e9::f0::f1::f2::f3::f4::f5::f6::f7::[]), h)) := by rw [awp_eq]; kernel_rfl
theorem w14_25 : awp X n c14_25 Q st = awp X n c14_26 (thenQ (awp X n c14_27 Q) Q) st := by rw [awp_eq]; kernel_rfl
noncomputable def c14_30 : Code := cr c14_24
noncomputable def c14_31 : Code := cl c14_30
theorem w14_31 : awp X n c14_31 Q ((a0::a1::a2::a3::a4::a5::a6::a7::a8::a9::b0::b1::b2::b3::b4::b5::b6::b7::b8::b9::d0::d1::d2::d3::d4::d5::d6::d7::d8::d9::e0::e1::e2::e3::e4::e5::e6::e7::e8::e9::f0::f1::f2::f3::f4::f5::f6::f7::[]), h) = (a_mov a6 h (.c (fun t46 h1 => a_cint .i64 t46 h1 (.c (fun t47 h2 => a_mov t47 h2 (.c (fun t2 h3 => Q .normal ((a0::a1::t2::a3::a4::a5::a6::a7::a8::a9::b0::b1::b2::b3::b4::b5::b6::b7::b8::b9::d0::d1::d2::d3::d4::d5::d6::d7::d8::d9::e0::e1::e2::e3::e4::e5::e6::e7::e8::e9::f0::f1::f2::f3::f4::f5::t46::t47::[]), h3)) ())) ())) ())) := by rw [awp_eq]; kernel_rfl
noncomputable def c14_32 : Code := cr c14_30
theorem w14_32 : awp X n c14_32 Q st = Q .ret st := by rw [awp_eq]; kernel_rfl
theorem w14_30 : awp X n c14_30 Q st = awp X n c14_31 (thenQ (awp X n c14_32 Q) Q) st := by rw [awp_eq]; kernel_rfl
theorem w14_24 : awp X n c14_24 Q st = awp X n c14_25 (thenQ (awp X n c14_30 Q) Q) st := by rw [awp_eq]; kernel_rfl
theorem w14_22 : awp X n c14_22 Q st = awp X n c14_23 (thenQ (awp X n c14_24 Q) Q) st := by rw [awp_eq]; kernel_rfl
theorem w14_12 : awp X n c14_12 Q st = awp X n c14_13 (thenQ (awp X n c14_22 Q) Q) st := by rw [awp_eq]; kernel_rfl
theorem w14_4 : awp X n c14_4 Q st = awp X n c14_5 (thenQ (awp X n c14_12 Q) Q) st := by rw [awp_eq]; kernel_rfl
theorem w14_2 : awp X n c14_2 Q st = awp X n c14_3 (thenQ (awp X n c14_4 Q) Q) st := by rw [awp_eq]; kernel_rfl
theorem w14_0 : awp X n c14_0 Q st = awp X n c14_1 (thenQ (awp X n c14_2 Q) Q) st := by rw [awp_eq]; kernel_rfl
theorem q14_ret : retQ X Try.f14 K .ret ((a0::a1::a2::a3::a4::a5::a6::a7::a8::a9::b0::b1::b2::b3::b4::b5::b6::b7::b8::b9::d0::d1::d2::d3::d4::d5::d6::d7::d8::d9::e0::e1::e2::e3::e4::e5::e6::e7::e8::e9::f0::f1::f2::f3::f4::f5::f6::f7::[]), h) = (K.K a2 h) := by kernel_rfl
theorem q14_normal : retQ X Try.f14 K .normal ((a0::a1::a2::a3::a4::a5::a6::a7::a8::a9::b0::b1::b2::b3::b4::b5::b6::b7::b8::b9::d0::d1::d2::d3::d4::d5::d6::d7::d8::d9::e0::e1::e2::e3::e4::e5::e6::e7::e8::e9::f0::f1::f2::f3::f4::f5::f6::f7::[]), h) = (K.K a2 h) := by kernel_rfl
theorem i14 (H : awp X h.length c14_0 (retQ X Try.f14 K) ((a0::.bad::.bad::.bad::.bad::.bad::.bad::.bad::.bad::.bad::.bad::.bad::.bad::.bad::.bad::.bad::.bad::.bad::.bad::.bad::.bad::.bad::.bad::.bad::.bad::.bad::.bad::.bad::.bad::.bad::.bad::.bad::.bad::.bad::.bad::.bad::.bad::.bad::.bad::.bad::.bad::.bad::.bad::.bad::.bad::.bad::.bad::.bad::[]), h)) : ACall X 14 [a0] h K := acall_intro (fn := Try.f14) (by kernel_rfl) (by kernel_rfl) (by kernel_rfl) H
noncomputable def R14 := And.intro (And.intro (And.intro (And.intro (And.intro w14_1 w14_3) (And.intro w14_6 w14_9)) (And.intro (And.intro w14_10 w14_8) (And.intro w14_11 w14_7))) (And.intro (And.intro (And.intro w14_5 w14_14) (And.intro w14_17 w14_19)) (And.intro (And.intro w14_20 w14_18) (And.intro (w14_16) (And.intro w14_21 w14_15))))) (And.intro (And.intro (And.intro (And.intro w14_13 w14_23) (And.intro w14_26 w14_28)) (And.intro (And.intro w14_29 w14_27) (And.intro (w14_25) (And.intro w14_31 w14_32)))) (And.intro (And.intro (And.intro w14_30 w14_24) (And.intro w14_22 w14_12)) (And.intro (And.intro w14_4 w14_2) (And.intro (w14_0) (And.intro q14_ret q14_normal)))))
/-! function 17: sindri/sindriref02.PutU -/
noncomputable def c17_0 : Code := bodyOf Try.f17
noncomputable def c17_1 : Code := cl c17_0
theorem w17_1 : awp X n c17_1 Q ((a0::a1::a2::a3::a4::a5::a6::a7::a8::a9::b0::b1::b2::b3::b4::b5::b6::b7::b8::b9::[]), h) = (a_mov (.v (.slice none 0 0)) h (.c (fun t2 h1 => Q .normal ((a0::a1::t2::a3::a4::a5::a6::a7::a8::a9::b0::b1::b2::b3::b4::b5::b6::b7::b8::b9::[]), h1)) ())) := by rw [awp_eq]; kernel_rfl
noncomputable def c17_2 : Code := cr c17_0
noncomputable def c17_3 : Code := cl c17_2
theorem w17_3 : awp X n c17_3 Q ((a0::a1::a2::a3::a4::a5::a6::a7::a8::a9::b0::b1::b2::b3::b4::b5::b6::b7::b8::b9::[]), h) = (a_mov (.v (.slice none 0 0)) h (.c (fun t3 h1 => Q .normal ((a0::a1::a2::t3::a4::a5::a6::a7::a8::a9::b0::b1::b2::b3::b4::b5::b6::b7::b8::b9::[]), h1)) ())) := by rw [awp_eq]; kernel_rfl
noncomputable def c17_4 : Code := cr c17_2
noncomputable def c17_5 : Code := cl c17_4
noncomputable def c17_6 : Code := cl c17_5
noncomputable def c17_7 : Code := cl c17_6
noncomputable def c17_8 : Code := cl c17_7
noncomputable def c17_9 : Code := cl c17_8
theorem w17_9 : awp X n c17_9 Q ((a0::a1::a2::a3::a4::a5::a6::a7::a8::a9::b0::b1::b2::b3::b4::b5::b6::b7::b8::b9::[]), h) = (a_mov a0 h (.c (fun t4 h1 => a_bin .geq t4 (.v (.int .u64 128)) h1 (.c (fun t5 h2 => Q .normal ((a0::a1::a2::a3::t4::t5::a6::a7::a8::a9::b0::b1::b2::b3::b4::b5::b6::b7::b8::b9::[]), h2)) ())) ())) := by rw [awp_eq]; kernel_rfl
noncomputable def c17_10 : Code := cr c17_8
noncomputable def c17_11 : Code := cl c17_10
theorem w17_11 : awp X n c17_11 Q st = Q .normal st := by rw [awp_eq]; kernel_rfl
noncomputable def c17_12 : Code := cr c17_10
theorem w17_12 : awp X n c17_12 Q st = Q (.exit 0) st := by rw [awp_eq]; kernel_rfl
theorem w17_10 : awp X n c17_10 Q ((a0::a1::a2::a3::a4::a5::a6::a7::a8::a9::b0::b1::b2::b3::b4::b5::b6::b7::b8::b9::[]), h) = a_cond a5 (awp X n c17_11 Q ((a0::a1::a2::a3::a4::a5::a6::a7::a8::a9::b0::b1::b2::b3::b4::b5::b6::b7::b8::b9::[]), h)) (awp X n c17_12 Q ((a0::a1::a2::a3::a4::a5::a6::a7::a8::a9::b0::b1::b2::b3::b4::b5::b6::b7::b8::b9::[]), h)) := by rw [awp_eq]; kernel_rfl
theorem w17_8 : awp X n c17_8 Q st = awp X n c17_9 (thenQ (awp X n c17_10 Q) Q) st := by rw [awp_eq]; kernel_rfl
noncomputable def c17_13 : Code := cr c17_7
noncomputable def c17_14 : Code := cl c17_13
noncomputable def c17_15 : Code := cl c17_14
theorem w17_15 : awp X n c17_15 Q ((a0::a1::a2::a3::a4::a5::a6::a7::a8::a9::b0::b1::b2::b3::b4::b5::b6::b7::b8::b9::[]), h) = (a_mov a3 h (.c (fun t6 h1 => a_mov a0 h1 (.c (fun t7 h2 => a_bin .rem t7 (.v (.int .u64 128)) h2 (.c (fun t8 h3 => a_bin .add t8 (.v (.int .u64 128)) h3 (.c (fun t9 h4 => a_cint .u8 t9 h4 (.c (fun t10 h5 => a_lit 1 1 [.v (.int .u8 0)] [(0, 1, t10)] h5 (.c (fun t11 h6 => a_app 1 1 t6 t11 h6 (.c (fun t12 h7 => a_mov t12 h7 (.c (fun t3 h8 => Q .normal ((a0::a1::a2::t3::a4::a5::t6::t7::t8::t9::t10::t11::t12::b3::b4::b5::b6::b7::b8::b9::[]), h8)) ())) ())) ())) ())) ())) ())) ())) ())) := by rw [awp_eq]; kernel_rfl
noncomputable def c17_16 : Code := cr c17_14
theorem w17_16 : awp X n c17_16 Q ((a0::a1::a2::a3::a4::a5::a6::a7::a8::a9::b0::b1::b2::b3::b4::b5::b6::b7::b8::b9::[]), h) = (a_mov a0 h (.c (fun t13 h1 => a_bin .quo t13 (.v (.int .u64 128)) h1 (.c (fun t14 h2 => a_mov t14 h2 (.c (fun t0 h3 => Q .normal ((t0::a1::a2::a3::a4::a5::a6::a7::a8::a9::b0::b1::b2::t13::t14::b5::b6::b7::b8::b9::[]), h3)) ())) ())) ())) := by rw [awp_eq]; kernel_rfl
theorem w17_14 : awp X n c17_14 Q st = awp X n c17_15 (thenQ (awp X n c17_16 Q) Q) st := by rw [awp_eq]; kernel_rfl
theorem w17_13 : awp X n c17_13 Q st = awp X n c17_14 (blockQ 1 Q) st := by rw [awp_eq]; kernel_rfl
theorem w17_7 : awp X n c17_7 Q st = awp X n c17_8 (thenQ (awp X n c17_13 Q) Q) st := by rw [awp_eq]; kernel_rfl
theorem w17_6 : awp X n c17_6 Q st = ALoop X n c17_7 Q st := by rw [awp_eq]; kernel_rfl
theorem w17_5 : awp X n c17_5 Q st = awp X n c17_6 (blockQ 0 Q) st := by rw [awp_eq]; kernel_rfl
noncomputable def c17_17 : Code := cr c17_4
noncomputable def c17_18 : Code := cl c17_17
theorem w17_18 : awp X n c17_18 Q ((a0::a1::a2::a3::a4::a5::a6::a7::a8::a9::b0::b1::b2::b3::b4::b5::b6::b7::b8::b9::[]), h) = (a_mov a3 h (.c (fun t15 h1 => a_mov a0 h1 (.c (fun t16 h2 => a_cint .u8 t16 h2 (.c (fun t17 h3 => a_lit 1 1 [.v (.int .u8 0)] [(0, 1, t17)] h3 (.c (fun t18 h4 => a_app 1 1 t15 t18 h4 (.c (fun t19 h5 => a_mov t19 h5 (.c (fun t2 h6 => Q .normal ((a0::a1::t2::a3::a4::a5::a6::a7::a8::a9::b0::b1::b2::b3::b4::t15::t16::t17::t18::t19::[]), h6)) ())) ())) ())) ())) ())) ())) := by rw [awp_eq]; kernel_rfl
noncomputable def c17_19 : Code := cr c17_17
theorem w17_19 : awp X n c17_19 Q st = Q .ret st := by rw [awp_eq]; kernel_rfl
theorem w17_17 : awp X n c17_17 Q st = awp X n c17_18 (thenQ (awp X n c17_19 Q) Q) st := by rw [awp_eq]; kernel_rfl
theorem w17_4 : awp X n c17_4 Q st = awp X n c17_5 (thenQ (awp X n c17_17 Q) Q) st := by rw [awp_eq]; kernel_rfl
theorem w17_2 : awp X n c17_2 Q st = awp X n c17_3 (thenQ (awp X n c17_4 Q) Q) st := by rw [awp_eq]; kernel_rfl
theorem w17_0 : awp X n c17_0 Q st = awp X n c17_1 (thenQ (awp X n c17_2 Q) Q) st := by rw [awp_eq]; kernel_rfl
theorem q17_ret : retQ X Try.f17 K .ret ((a0::a1::a2::a3::a4::a5::a6::a7::a8::a9::b0::b1::b2::b3::b4::b5::b6::b7::b8::b9::[]), h) = (K.K a2 h) := by kernel_rfl
theorem q17_normal : retQ X Try.f17 K .normal ((a0::a1::a2::a3::a4::a5::a6::a7::a8::a9::b0::b1::b2::b3::b4::b5::b6::b7::b8::b9::[]), h) = (K.K a2 h) := by kernel_rfl
theorem i17 (H : awp X h.length c17_0 (retQ X Try.f17 K) ((a0::.bad::.bad::.bad::.bad::.bad::.bad::.bad::.bad::.bad::.bad::.bad::.bad::.bad::.bad::.bad::.bad::.bad::.bad::.bad::[]), h)) : ACall X 17 [a0] h K := acall_intro (fn := Try.f17) (by kernel_rfl) (by kernel_rfl) (by kernel_rfl) H
noncomputable def R17 := And.intro (And.intro (And.intro (And.intro w17_1 w17_3) (And.intro (w17_9) (And.intro w17_11 w17_12))) (And.intro (And.intro (w17_10) (And.intro w17_8 w17_15)) (And.intro (w17_16) (And.intro w17_14 w17_13)))) (And.intro (And.intro (And.intro w17_7 w17_6) (And.intro (w17_5) (And.intro w17_18 w17_19))) (And.intro (And.intro (w17_17) (And.intro w17_4 w17_2)) (And.intro (w17_0) (And.intro q17_ret q17_normal))))
/-! function 18: sindri/sindriref02.PutS -/
noncomputable def c18_0 : Code := bodyOf Try.f18
noncomputable def c18_1 : Code := cl c18_0
theorem w18_1 : awp X n c18_1 Q ((a0::a1::a2::a3::a4::a5::a6::a7::a8::a9::b0::b1::b2::b3::b4::b5::b6::b7::b8::b9::d0::d1::d2::d3::d4::d5::d6::d7::d8::d9::e0::e1::e2::e3::e4::e5::[]), h) = (a_mov (.v (.slice none 0 0)) h (.c (fun t2 h1 => Q .normal ((a0::a1::t2::a3::a4::a5::a6::a7::a8::a9::b0::b1::b2::b3::b4::b5::b6::b7::b8::b9::d0::d1::d2::d3::d4::d5::d6::d7::d8::d9::e0::e1::e2::e3::e4::e5::[]), h1)) ())) := by rw [awp_eq]; kernel_rfl
noncomputable def c18_2 : Code := cr c18_0
noncomputable def c18_3 : Code := cl c18_2
theorem w18_3 : awp X n c18_3 Q ((a0::a1::a2::a3::a4::a5::a6::a7::a8::a9::b0::b1::b2::b3::b4::b5::b6::b7::b8::b9::d0::d1::d2::d3::d4::d5::d6::d7::d8::d9::e0::e1::e2::e3::e4::e5::[]), h) = (a_mov (.v (.slice none 0 0)) h (.c (fun t3 h1 => Q .normal ((a0::a1::a2::t3::a4::a5::a6::a7::a8::a9::b0::b1::b2::b3::b4::b5::b6::b7::b8::b9::d0::d1::d2::d3::d4::d5::d6::d7::d8::d9::e0::e1::e2::e3::e4::e5::[]), h1)) ())) := by rw [awp_eq]; kernel_rfl
noncomputable def c18_4 : Code := cr c18_2
noncomputable def c18_5 : Code := cl c18_4
noncomputable def c18_6 : Code := cl c18_5
noncomputable def c18_7 : Code := cl c18_6
noncomputable def c18_8 : Code := cl c18_7
noncomputable def c18_9 : Code := cl c18_8
theorem w18_9 : awp X n c18_9 Q ((a0::a1::a2::a3::a4::a5::a6::a7::a8::a9::b0::b1::b2::b3::b4::b5::b6::b7::b8::b9::d0::d1::d2::d3::d4::d5::d6::d7::d8::d9::e0::e1::e2::e3::e4::e5::[]), h) = (a_mov a0 h (.c (fun t5 h1 => a_bin .lss t5 (.v (.int .i64 (-64))) h1 (.c (fun t6 h2 => a_mov t6 h2 (.c (fun t7 h3 => a_on t7 false (fun k => a_mov a0 h3 k) h3 (.c (fun t8 h4 => a_on t7 false (fun k => a_bin .gtr t8 (.v (.int .i64 63)) h4 k) h4 (.c (fun t9 h5 => a_pick t7 (.v (.bool true)) t9 h5 (.c (fun t10 h6 => Q .normal ((a0::a1::a2::a3::a4::t5::t6::t7::t8::t9::t10::b1::b2::b3::b4::b5::b6::b7::b8::b9::d0::d1::d2::d3::d4::d5::d6::d7::d8::d9::e0::e1::e2::e3::e4::e5::[]), h6)) ())) ())) ())) ())) ())) ())) := by rw [awp_eq]; kernel_rfl
noncomputable def c18_10 : Code := cr c18_8
noncomputable def c18_11 : Code := cl c18_10
theorem w18_11 : awp X n c18_11 Q st = Q .normal st := by rw [awp_eq]; kernel_rfl
noncomputable def c18_12 : Code := cr c18_10
theorem w18_12 : awp X n c18_12 Q st = Q (.exit 0) st := by rw [awp_eq]; kernel_rfl
theorem w18_10 : awp X n c18_10 Q ((a0::a1::a2::a3::a4::a5::a6::a7::a8::a9::b0::b1::b2::b3::b4::b5::b6::b7::b8::b9::d0::d1::d2::d3::d4::d5::d6::d7::d8::d9::e0::e1::e2::e3::e4::e5::[]), h) = a_cond b0 (awp X n c18_11 Q ((a0::a1::a2::a3::a4::a5::a6::a7::a8::a9::b0::b1::b2::b3::b4::b5::b6::b7::b8::b9::d0::d1::d2::d3::d4::d5::d6::d7::d8::d9::e0::e1::e2::e3::e4::e5::[]), h)) (awp X n c18_12 Q ((a0::a1::a2::a3::a4::a5::a6::a7::a8::a9::b0::b1::b2::b3::b4::b5::b6::b7::b8::b9::d0::d1::d2::d3::d4::d5::d6::d7::d8::d9::e0::e1::e2::e3::e4::e5::[]), h)) := by rw [awp_eq]; kernel_rfl
theorem w18_8 : awp X n c18_8 Q st = awp X n c18_9 (thenQ (awp X n c18_10 Q) Q) st := by rw [awp_eq]; kernel_rfl
noncomputable def c18_13 : Code := cr c18_7
noncomputable def c18_14 : Code := cl c18_13
noncomputable def c18_15 : Code := cl c18_14
theorem w18_15 : awp X n c18_15 Q ((a0::a1::a2::a3::a4::a5::a6::a7::a8::a9::b0::b1::b2::b3::b4::b5::b6::b7::b8::b9::d0::d1::d2::d3::d4::d5::d6::d7::d8::d9::e0::e1::e2::e3::e4::e5::[]), h) = (a_mov a0 h (.c (fun t11 h1 => a_bin .rem t11 (.v (.int .i64 128)) h1 (.c (fun t12 h2 => a_mov t12 h2 (.c (fun t4 h3 => Q .normal ((a0::a1::a2::a3::t4::a5::a6::a7::a8::a9::b0::t11::t12::b3::b4::b5::b6::b7::b8::b9::d0::d1::d2::d3::d4::d5::d6::d7::d8::d9::e0::e1::e2::e3::e4::e5::[]), h3)) ())) ())) ())) := by rw [awp_eq]; kernel_rfl
noncomputable def c18_16 : Code := cr c18_14
noncomputable def c18_17 : Code := cl c18_16
noncomputable def c18_18 : Code := cl c18_17
theorem w18_18 : awp X n c18_18 Q ((a0::a1::a2::a3::a4::a5::a6::a7::a8::a9::b0::b1::b2::b3::b4::b5::b6::b7::b8::b9::d0::d1::d2::d3::d4::d5::d6::d7::d8::d9::e0::e1::e2::e3::e4::e5::[]), h) = (a_mov a4 h (.c (fun t13 h1 => a_bin .lss t13 (.v (.int .i64 0)) h1 (.c (fun t14 h2 => Q .normal ((a0::a1::a2::a3::a4::a5::a6::a7::a8::a9::b0::b1::b2::t13::t14::b5::b6::b7::b8::b9::d0::d1::d2::d3::d4::d5::d6::d7::d8::d9::e0::e1::e2::e3::e4::e5::[]), h2)) ())) ())) := by rw [awp_eq]; kernel_rfl
noncomputable def c18_19 : Code := cr c18_17
noncomputable def c18_20 : Code := cl c18_19
theorem w18_20 : awp X n c18_20 Q ((a0::a1::a2::a3::a4::a5::a6::a7::a8::a9::b0::b1::b2::b3::b4::b5::b6::b7::b8::b9::d0::d1::d2::d3::d4::d5::d6::d7::d8::d9::e0::e1::e2::e3::e4::e5::[]), h) = (a_mov a4 h (.c (fun t15 h1 => a_bin .add t15 (.v (.int .i64 128)) h1 (.c (fun t16 h2 => a_mov t16 h2 (.c (fun t4 h3 => Q .normal ((a0::a1::a2::a3::t4::a5::a6::a7::a8::a9::b0::b1::b2::b3::b4::t15::t16::b7::b8::b9::d0::d1::d2::d3::d4::d5::d6::d7::d8::d9::e0::e1::e2::e3::e4::e5::[]), h3)) ())) ())) ())) := by rw [awp_eq]; kernel_rfl
noncomputable def c18_21 : Code := cr c18_19
theorem w18_21 : awp X n c18_21 Q st = Q .normal st := by rw [awp_eq]; kernel_rfl
theorem w18_19 : awp X n c18_19 Q ((a0::a1::a2::a3::a4::a5::a6::a7::a8::a9::b0::b1::b2::b3::b4::b5::b6::b7::b8::b9::d0::d1::d2::d3::d4::d5::d6::d7::d8::d9::e0::e1::e2::e3::e4::e5::[]), h) = a_cond b4 (awp X n c18_20 Q ((a0::a1::a2::a3::a4::a5::a6::a7::a8::a9::b0::b1::b2::b3::b4::b5::b6::b7::b8::b9::d0::d1::d2::d3::d4::d5::d6::d7::d8::d9::e0::e1::e2::e3::e4::e5::[]), h)) (awp X n c18_21 Q ((a0::a1::a2::a3::a4::a5::a6::a7::a8::a9::b0::b1::b2::b3::b4::b5::b6::b7::b8::b9::d0::d1::d2::d3::d4::d5::d6::d7::d8::d9::e0::e1::e2::e3::e4::e5::[]), h)) := by rw [awp_eq]; kernel_rfl
theorem w18_17 : awp X n c18_17 Q st = awp X n c18_18 (thenQ (awp X n c18_19 Q) Q) st := by rw [awp_eq]; kernel_rfl
noncomputable def c18_22 : Code := cr c18_16
noncomputable def c18_23 : Code := cl c18_22
theorem w18_23 : awp X n c18_23 Q ((a0::a1::a2::a3::a4::a5::a6::a7::a8::a9::b0::b1::b2::b3::b4::b5::b6::b7::b8::b9::d0::d1::d2::d3::d4::d5::d6::d7::d8::d9::e0::e1::e2::e3::e4::e5::[]), h) = (a_mov a3 h (.c (fun t17 h1 => a_mov a4 h1 (.c (fun t18 h2 => a_bin .add t18 (.v (.int .i64 128)) h2 (.c (fun t19 h3 => a_cint .u8 t19 h3 (.c (fun t20 h4 => a_lit 1 1 [.v (.int .u8 0)] [(0, 1, t20)] h4 (.c (fun t21 h5 => a_app 1 1 t17 t21 h5 (.c (fun t22 h6 => a_mov t22 h6 (.c (fun t3 h7 => Q .normal ((a0::a1::a2::t3::a4::a5::a6::a7::a8::a9::b0::b1::b2::b3::b4::b5::b6::t17::t18::t19::t20::t21::t22::d3::d4::d5::d6::d7::d8::d9::e0::e1::e2::e3::e4::e5::[]), h7)) ())) ())) ())) ())) ())) ())) ())) := by rw [awp_eq]; kernel_rfl
noncomputable def c18_24 : Code := cr c18_22
theorem w18_24 : awp X n c18_24 Q ((a0::a1::a2::a3::a4::a5::a6::a7::a8::a9::b0::b1::b2::b3::b4::b5::b6::b7::b8::b9::d0::d1::d2::d3::d4::d5::d6::d7::d8::d9::e0::e1::e2::e3::e4::e5::[]), h) = (a_mov a0 h (.c (fun t23 h1 => a_mov a4 h1 (.c (fun t24 h2 => a_bin .sub t23 t24 h2 (.c (fun t25 h3 => a_bin .quo t25 (.v (.int .i64 128)) h3 (.c (fun t26 h4 => a_mov t26 h4 (.c (fun t0 h5 => Q .normal ((t0::a1::a2::a3::a4::a5::a6::a7::a8::a9::b0::b1::b2::b3::b4::b5::b6::b7::b8::b9::d0::d1::d2::t23::t24::t25::t26::d7::d8::d9::e0::e1::e2::e3::e4::e5::[]), h5)) ())) ())) ())) ())) ())) := by rw [awp_eq]; kernel_rfl
theorem w18_22 : awp X n c18_22 Q st = awp X n c18_23 (thenQ (awp X n c18_24 Q) Q) st := by rw [awp_eq]; kernel_rfl
theorem w18_16 : awp X n c18_16 Q st = awp X n c18_17 (thenQ (awp X n c18_22 Q) Q) st := by rw [awp_eq]; kernel_rfl
theorem w18_14 : awp X n c18_14 Q st = awp X n c18_15 (thenQ (awp X n c18_16 Q) Q) st := by rw [awp_eq]; kernel_rfl
theorem w18_13 : awp X n c18_13 Q st = awp X n c18_14 (blockQ 1 Q) st := by rw [awp_eq]; kernel_rfl
theorem w18_7 : awp X n c18_7 Q st = awp X n c18_8 (thenQ (awp X n c18_13 Q) Q) st := by rw [awp_eq]; kernel_rfl
theorem w18_6 : awp X n c18_6 Q st = ALoop X n c18_7 Q st := by rw [awp_eq]; kernel_rfl
theorem w18_5 : awp X n c18_5 Q st = awp X n c18_6 (blockQ 0 Q) st := by rw [awp_eq]; kernel_rfl
noncomputable def c18_25 : Code := cr c18_4
noncomputable def c18_26 : Code := cl c18_25
noncomputable def c18_27 : Code := cl c18_26
theorem w18_27 : awp X n c18_27 Q ((a0::a1::a2::a3::a4::a5::a6::a7::a8::a9::b0::b1::b2::b3::b4::b5::b6::b7::b8::b9::d0::d1::d2::d3::d4::d5::d6::d7::d8::d9::e0::e1::e2::e3::e4::e5::[]), h) = (a_mov a0 h (.c (fun t27 h1 => a_bin .lss t27 (.v (.int .i64 0)) h1 (.c (fun t28 h2 => Q .normal ((a0::a1::a2::a3::a4::a5::a6::a7::a8::a9::b0::b1::b2::b3::b4::b5::b6::b7::b8::b9::d0::d1::d2::d3::d4::d5::d6::t27::t28::d9::e0::e1::e2::e3::e4::e5::[]), h2)) ())) ())) := by rw [awp_eq]; kernel_rfl
noncomputable def c18_28 : Code := cr c18_26
noncomputable def c18_29 : Code := cl c18_28
theorem w18_29 : awp X n c18_29 Q ((a0::a1::a2::a3::a4::a5::a6::a7::a8::a9::b0::b1::b2::b3::b4::b5::b6::b7::b8::b9::d0::d1::d2::d3::d4::d5::d6::d7::d8::d9::e0::e1::e2::e3::e4::e5::[]), h) = (a_mov a0 h (.c (fun t29 h1 => a_bin .add t29 (.v (.int .i64 128)) h1 (.c (fun t30 h2 => a_mov t30 h2 (.c (fun t0 h3 => Q .normal ((t0::a1::a2::a3::a4::a5::a6::a7::a8::a9::b0::b1::b2::b3::b4::b5::b6::b7::b8::b9::d0::d1::d2::d3::d4::d5::d6::d7::d8::t29::t30::e1::e2::e3::e4::e5::[]), h3)) ())) ())) ())) := by rw [awp_eq]; kernel_rfl
noncomputable def c18_30 : Code := cr c18_28
theorem w18_30 : awp X n c18_30 Q st = Q .normal st := by rw [awp_eq]; kernel_rfl
theorem w18_28 : awp X n c18_28 Q ((a0::a1::a2::a3::a4::a5::a6::a7::a8::a9::b0::b1::b2::b3::b4::b5::b6::b7::b8::b9::d0::d1::d2::d3::d4::d5::d6::d7::d8::d9::e0::e1::e2::e3::e4::e5::[]), h) = a_cond d8 (awp X n c18_29 Q ((a0::a1::a2::a3::a4::a5::a6::a7::a8::a9::b0::b1::b2::b3::b4::b5::b6::b7::b8::b9::d0::d1::d2::d3::d4::d5::d6::d7::d8::d9::e0::e1::e2::e3::e4::e5::[]), h)) (awp X n c18_30 Q ((a0::a1::a2::a3::a4::a5::a6::a7::a8::a9::b0::b1::b2::b3::b4::b5::b6::b7::b8::b9::d0::d1::d2::d3::d4::d5::d6::d7::d8::d9::e0::e1::e2::e3::e4::e5::[]), h)) := by rw [awp_eq]; kernel_rfl
theorem w18_26 : awp X n c18_26 Q st = awp X n c18_27 (thenQ (awp X n c18_28 Q) Q) st := by rw [awp_eq]; kernel_rfl
noncomputable def c18_31 : Code := cr c18_25
noncomputable def c18_32 : Code := cl c18_31
theorem w18_32 : awp X n c18_32 Q ((a0::a1::a2::a3::a4::a5::a6::a7::a8::a9::b0::b1::b2::b3::b4::b5::b6::b7::b8::b9::d0::d1::d2::d3::d4::d5::d6::d7::d8::d9::e0::e1::e2::e3::e4::e5::[]), h) = (a_mov a3 h (.c (fun t31 h1 => a_mov a0 h1 (.c (fun t32 h2 => a_cint .u8 t32 h2 (.c (fun t33 h3 => a_lit 1 1 [.v (.int .u8 0)] [(0, 1, t33)] h3 (.c (fun t34 h4 => a_app 1 1 t31 t34 h4 (.c (fun t35 h5 => a_mov t35 h5 (.c (fun t2 h6 => Q .normal ((a0::a1::t2::a3::a4::a5::a6::a7::a8::a9::b0::b1::b2::b3::b4::b5::b6::b7::b8::b9::d0::d1::d2::d3::d4::d5::d6::d7::d8::d9::e0::t31::t32::t33::t34::t35::[]), h6)) ())) ())) ())) ())) ())) ())) := by rw [awp_eq]; kernel_rfl
noncomputable def c18_33 : Code := cr c18_31
theorem w18_33 : awp X n c18_33 Q st = Q .ret st := by rw [awp_eq]; kernel_rfl
theorem w18_31 : awp X n c18_31 Q st = awp X n c18_32 (thenQ (awp X n c18_33 Q) Q) st := by rw [awp_eq]; kernel_rfl
theorem w18_25 : awp X n c18_25 Q st = awp X n c18_26 (thenQ (awp X n c18_31 Q) Q) st := by rw [awp_eq]; kernel_rfl
theorem w18_4 : awp X n c18_4 Q st = awp X n c18_5 (thenQ (awp X n c18_25 Q) Q) st := by rw [awp_eq]; kernel_rfl
theorem w18_2 : awp X n c18_2 Q st = awp X n c18_3 (thenQ (awp X n c18_4 Q) Q) st := by rw [awp_eq]; kernel_rfl
theorem w18_0 : awp X n c18_0 Q st = awp X n c18_1 (thenQ (awp X n c18_2 Q) Q) st := by rw [awp_eq]; kernel_rfl
theorem q18_ret : retQ X Try.f18 K .ret ((a0::a1::a2::a3::a4::a5::a6::a7::a8::a9::b0::b1::b2::b3::b4::b5::b6::b7::b8::b9::d0::d1::d2::d3::d4::d5::d6::d7::d8::d9::e0::e1::e2::e3::e4::e5::[]), h) = (K.K a2 h) := by kernel_rfl
theorem q18_normal : retQ X Try.f18 K .normal ((a0::a1::a2::a3::a4::a5::a6::a7::a8::a9::b0::b1::b2::b3::b4::b5::b6::b7::b8::b9::d0::d1::d2::d3::d4::d5::d6::d7::d8::d9::e0::e1::e2::e3::e4::e5::[]), h) = (K.K a2 h) := by kernel_rfl
theorem i18 (H : awp X h.length c18_0 (retQ X Try.f18 K) ((a0::.bad::.bad::.bad::.bad::.bad::.bad::.bad::.bad::.bad::.bad::.bad::.bad::.bad::.bad::.bad::.bad::.bad::.bad::.bad::.bad::.bad::.bad::.bad::.bad::.bad::.bad::.bad::.bad::.bad::.bad::.bad::.bad::.bad::.bad::.bad::[]), h)) : ACall X 18 [a0] h K := acall_intro (fn := Try.f18) (by kernel_rfl) (by kernel_rfl) (by kernel_rfl) H
noncomputable def R18 := And.intro (And.intro (And.intro (And.intro (And.intro w18_1 w18_3) (And.intro w18_9 w18_11)) (And.intro (And.intro w18_12 w18_10) (And.intro (w18_8) (And.intro w18_15 w18_18)))) (And.intro (And.intro (And.intro w18_20 w18_21) (And.intro w18_19 w18_17)) (And.intro (And.intro w18_23 w18_24) (And.intro (w18_22) (And.intro w18_16 w18_14))))) (And.intro (And.intro (And.intro (And.intro w18_13 w18_7) (And.intro w18_6 w18_5)) (And.intro (And.intro w18_27 w18_29) (And.intro (w18_30) (And.intro w18_28 w18_26)))) (And.intro (And.intro (And.intro w18_32 w18_33) (And.intro w18_31 w18_25)) (And.intro (And.intro w18_4 w18_2) (And.intro (w18_0) (And.intro q18_ret q18_normal)))))
/-! function 19: sindri/sindriref02.PutWide -/
noncomputable def c19_0 : Code := bodyOf Try.f19
noncomputable def c19_1 : Code := cl c19_0
theorem w19_1 : awp X n c19_1 Q ((a0::a1::a2::a3::a4::a5::a6::a7::a8::a9::b0::b1::b2::b3::b4::b5::b6::b7::b8::b9::d0::d1::d2::d3::d4::d5::d6::d7::d8::d9::e0::e1::e2::[]), h) = (a_mov (.v (.slice none 0 0)) h (.c (fun t4 h1 => Q .normal ((a0::a1::a2::a3::t4::a5::a6::a7::a8::a9::b0::b1::b2::b3::b4::b5::b6::b7::b8::b9::d0::d1::d2::d3::d4::d5::d6::d7::d8::d9::e0::e1::e2::[]), h1)) ())) := by rw [awp_eq]; kernel_rfl
noncomputable def c19_2 : Code := cr c19_0
noncomputable def c19_3 : Code := cl c19_2
theorem w19_3 : awp X n c19_3 Q ((a0::a1::a2::a3::a4::a5::a6::a7::a8::a9::b0::b1::b2::b3::b4::b5::b6::b7::b8::b9::d0::d1::d2::d3::d4::d5::d6::d7::d8::d9::e0::e1::e2::[]), h) = (a_mov a0 h (.c (fun t6 h1 => ACall X 17 [t6] h1 (.c (fun t7 h2 => a_mov t7 h2 (.c (fun t5 h3 => Q .normal ((a0::a1::a2::a3::a4::t5::t6::t7::a8::a9::b0::b1::b2::b3::b4::b5::b6::b7::b8::b9::d0::d1::d2::d3::d4::d5::d6::d7::d8::d9::e0::e1::e2::[]), h3)) ())) ())) ())) := by rw [awp_eq]; kernel_rfl
noncomputable def c19_4 : Code := cr c19_2
noncomputable def c19_5 : Code := cl c19_4
noncomputable def c19_6 : Code := cl c19_5
noncomputable def c19_7 : Code := cl c19_6
noncomputable def c19_8 : Code := cl c19_7
noncomputable def c19_9 : Code := cl c19_8
theorem w19_9 : awp X n c19_9 Q ((a0::a1::a2::a3::a4::a5::a6::a7::a8::a9::b0::b1::b2::b3::b4::b5::b6::b7::b8::b9::d0::d1::d2::d3::d4::d5::d6::d7::d8::d9::e0::e1::e2::[]), h) = (a_mov a5 h (.c (fun t8 h1 => a_len t8 h1 (.c (fun t9 h2 => a_mov a1 h2 (.c (fun t10 h3 => a_bin .lss t9 t10 h3 (.c (fun t11 h4 => a_mov t11 h4 (.c (fun t12 h5 => a_on t12 true (fun k => a_mov a5 h5 k) h5 (.c (fun t13 h6 => a_on t12 true (fun k => a_len t13 h6 k) h6 (.c (fun t14 h7 => a_on t12 true (fun k => a_bin .lss t14 (.v (.int .i64 10)) h7 k) h7 (.c (fun t15 h8 => a_pick t12 t15 (.v (.bool false)) h8 (.c (fun t16 h9 => Q .normal ((a0::a1::a2::a3::a4::a5::a6::a7::t8::t9::t10::t11::t12::t13::t14::t15::t16::b7::b8::b9::d0::d1::d2::d3::d4::d5::d6::d7::d8::d9::e0::e1::e2::[]), h9)) ())) ())) ())) ())) ())) ())) ())) ())) ())) := by rw [awp_eq]; kernel_rfl
noncomputable def c19_10 : Code := cr c19_8
noncomputable def c19_11 : Code := cl c19_10
theorem w19_11 : awp X n c19_11 Q st = Q .normal st := by rw [awp_eq]; kernel_rfl
noncomputable def c19_12 : Code := cr c19_10
theorem w19_12 : awp X n c19_12 Q st = Q (.exit 0) st := by rw [awp_eq]; kernel_rfl
theorem w19_10 : awp X n c19_10 Q ((a0::a1::a2::a3::a4::a5::a6::a7::a8::a9::b0::b1::b2::b3::b4::b5::b6::b7::b8::b9::d0::d1::d2::d3::d4::d5::d6::d7::d8::d9::e0::e1::e2::[]), h) = a_cond b6 (awp X n c19_11 Q ((a0::a1::a2::a3::a4::a5::a6::a7::a8::a9::b0::b1::b2::b3::b4::b5::b6::b7::b8::b9::d0::d1::d2::d3::d4::d5::d6::d7::d8::d9::e0::e1::e2::[]), h)) (awp X n c19_12 Q ((a0::a1::a2::a3::a4::a5::a6::a7::a8::a9::b0::b1::b2::b3::b4::b5::b6::b7::b8::b9::d0::d1::d2::d3::d4::d5::d6::d7::d8::d9::e0::e1::e2::[]), h)) := by rw [awp_eq]; kernel_rfl
theorem w19_8 : awp X n c19_8 Q st = awp X n c19_9 (thenQ (awp X n c19_10 Q) Q) st := by rw [awp_eq]; kernel_rfl
noncomputable def c19_13 : Code := cr c19_7
noncomputable def c19_14 : Code := cl c19_13
noncomputable def c19_15 : Code := cl c19_14
theorem w19_15 : awp X n c19_15 Q ((a0::a1::a2::a3::a4::a5::a6::a7::a8::a9::b0::b1::b2::b3::b4::b5::b6::b7::b8::b9::d0::d1::d2::d3::d4::d5::d6::d7::d8::d9::e0::e1::e2::[]), h) = (a_mov a5 h (.c (fun t17 h1 => a_mov a5 h1 (.c (fun t18 h2 => a_len t18 h2 (.c (fun t19 h3 => a_bin .sub t19 (.v (.int .i64 1)) h3 (.c (fun t20 h4 => a_mov a5 h4 (.c (fun t21 h5 => a_mov a5 h5 (.c (fun t22 h6 => a_len t22 h6 (.c (fun t23 h7 => a_bin .sub t23 (.v (.int .i64 1)) h7 (.c (fun t24 h8 => a_ia 1 t21 t24 h8 (.c (fun t25 h9 => a_load 1 false t25 h9 (.c (fun t26 h10 => a_bin .add t26 (.v (.int .u8 128)) h10 (.c (fun t27 h11 => a_ia 1 t17 t20 h11 (.c (fun t28 h12 => a_store 1 t28 t27 h12 (.c (fun _v12 h13 => Q .normal ((a0::a1::a2::a3::a4::a5::a6::a7::a8::a9::b0::b1::b2::b3::b4::b5::b6::t17::t18::t19::t20::t21::t22::t23::t24::t25::t26::t27::t28::d9::e0::e1::e2::[]), h13)) ())) ())) ())) ())) ())) ())) ())) ())) ())) ())) ())) ())) ())) := by rw [awp_eq]; kernel_rfl
noncomputable def c19_16 : Code := cr c19_14
theorem w19_16 : awp X n c19_16 Q ((a0::a1::a2::a3::a4::a5::a6::a7::a8::a9::b0::b1::b2::b3::b4::b5::b6::b7::b8::b9::d0::d1::d2::d3::d4::d5::d6::d7::d8::d9::e0::e1::e2::[]), h) = (a_mov a5 h (.c (fun t29 h1 => a_lit 1 1 [.v (.int .u8 0)] [(0, 1, (.v (.int .u8 0)))] h1 (.c (fun t30 h2 => a_app 1 1 t29 t30 h2 (.c (fun t31 h3 => a_mov t31 h3 (.c (fun t5 h4 => Q .normal ((a0::a1::a2::a3::a4::t5::a6::a7::a8::a9::b0::b1::b2::b3::b4::b5::b6::b7::b8::b9::d0::d1::d2::d3::d4::d5::d6::d7::d8::t29::t30::t31::e2::[]), h4)) ())) ())) ())) ())) := by rw [awp_eq]; kernel_rfl
theorem w19_14 : awp X n c19_14 Q st = awp X n c19_15 (thenQ (awp X n c19_16 Q) Q) st := by rw [awp_eq]; kernel_rfl
theorem w19_13 : awp X n c19_13 Q st = awp X n c19_14 (blockQ 1 Q) st := by rw [awp_eq]; kernel_rfl
theorem w19_7 : awp X n c19_7 Q st = awp X n c19_8 (thenQ (awp X n c19_13 Q) Q) st := by rw [awp_eq]; kernel_rfl
theorem w19_6 : awp X n c19_6 Q st = ALoop X n c19_7 Q st := by rw [awp_eq]; kernel_rfl
theorem w19_5 : awp X n c19_5 Q st = awp X n c19_6 (blockQ 0 Q) st := by rw [awp_eq]; kernel_rfl
noncomputable def c19_17 : Code := cr c19_4
noncomputable def c19_18 : Code := cl c19_17
theorem w19_18 : awp X n c19_18 Q ((a0::a1::a2::a3::a4::a5::a6::a7::a8::a9::b0::b1::b2::b3::b4::b5::b6::b7::b8::b9::d0::d1::d2::d3::d4::d5::d6::d7::d8::d9::e0::e1::e2::[]), h) = (a_mov a5 h (.c (fun t32 h1 => a_mov t32 h1 (.c (fun t4 h2 => Q .normal ((a0::a1::a2::a3::t4::a5::a6::a7::a8::a9::b0::b1::b2::b3::b4::b5::b6::b7::b8::b9::d0::d1::d2::d3::d4::d5::d6::d7::d8::d9::e0::e1::t32::[]), h2)) ())) ())) := by rw [awp_eq]; kernel_rfl
noncomputable def c19_19 : Code := cr c19_17
theorem w19_19 : awp X n c19_19 Q st = Q .ret st := by rw [awp_eq]; kernel_rfl
theorem w19_17 : awp X n c19_17 Q st = awp X n c19_18 (thenQ (awp X n c19_19 Q) Q) st := by rw [awp_eq]; kernel_rfl
theorem w19_4 : awp X n c19_4 Q st = awp X n c19_5 (thenQ (awp X n c19_17 Q) Q) st := by rw [awp_eq]; kernel_rfl
theorem w19_2 : awp X n c19_2 Q st = awp X n c19_3 (thenQ (awp X n c19_4 Q) Q) st := by rw [awp_eq]; kernel_rfl
theorem w19_0 : awp X n c19_0 Q st = awp X n c19_1 (thenQ (awp X n c19_2 Q) Q) st := by rw [awp_eq]; kernel_rfl
theorem q19_ret : retQ X Try.f19 K .ret ((a0::a1::a2::a3::a4::a5::a6::a7::a8::a9::b0::b1::b2::b3::b4::b5::b6::b7::b8::b9::d0::d1::d2::d3::d4::d5::d6::d7::d8::d9::e0::e1::e2::[]), h) = (K.K a4 h) := by kernel_rfl
theorem q19_normal : retQ X Try.f19 K .normal ((a0::a1::a2::a3::a4::a5::a6::a7::a8::a9::b0::b1::b2::b3::b4::b5::b6::b7::b8::b9::d0::d1::d2::d3::d4::d5::d6::d7::d8::d9::e0::e1::e2::[]), h) = (K.K a4 h) := by kernel_rfl
theorem i19 (H : awp X h.length c19_0 (retQ X Try.f19 K) ((a0::a1::.bad::.bad::.bad::.bad::.bad::.bad::.bad::.bad::.bad::.bad::.bad::.bad::.bad::.bad::.bad::.bad::.bad::.bad::.bad::.bad::.bad::.bad::.bad::.bad::.bad::.bad::.bad::.bad::.bad::.bad::.bad::[]), h)) : ACall X 19 [a0, a1] h K := acall_intro (fn := Try.f19) (by kernel_rfl) (by kernel_rfl) (by kernel_rfl) H
noncomputable def R19 := And.intro (And.intro (And.intro (And.intro w19_1 w19_3) (And.intro (w19_9) (And.intro w19_11 w19_12))) (And.intro (And.intro (w19_10) (And.intro w19_8 w19_15)) (And.intro (w19_16) (And.intro w19_14 w19_13)))) (And.intro (And.intro (And.intro w19_7 w19_6) (And.intro (w19_5) (And.intro w19_18 w19_19))) (And.intro (And.intro (w19_17) (And.intro w19_4 w19_2)) (And.intro (w19_0) (And.intro q19_ret q19_normal))))
/-! function 20: sindri/leb.SizeU -/
noncomputable def c20_0 : Code := bodyOf Try.f20
noncomputable def c20_1 : Code := cl c20_0
theorem w20_1 : awp X n c20_1 Q ([a0,a1,a2,a3,a4,a5], h) = (a_mov (.v (.int .i64 0)) h (.c (fun t2 h1 => Q .normal ([a0,a1,t2,a3,a4,a5], h1)) ())) := by rw [awp_eq]; kernel_rfl
noncomputable def c20_2 : Code := cr c20_0
noncomputable def c20_3 : Code := cl c20_2
theorem w20_3 : awp X n c20_3 Q ([a0,a1,a2,a3,a4,a5], h) = (a_mov a0 h (.c (fun t3 h1 => ACall X 12 [(.v (.slice none 0 0)), t3] h1 (.c (fun t4 h2 => a_len t4 h2 (.c (fun t5 h3 => a_mov t5 h3 (.c (fun t2 h4 => Q .normal ([a0,a1,t2,t3,t4,t5], h4)) ())) ())) ())) ())) := by rw [awp_eq]; kernel_rfl
noncomputable def c20_4 : Code := cr c20_2
theorem w20_4 : awp X n c20_4 Q st = Q .ret st := by rw [awp_eq]; kernel_rfl
theorem w20_2 : awp X n c20_2 Q st = awp X n c20_3 (thenQ (awp X n c20_4 Q) Q) st := by rw [awp_eq]; kernel_rfl
theorem w20_0 : awp X n c20_0 Q st = awp X n c20_1 (thenQ (awp X n c20_2 Q) Q) st := by rw [awp_eq]; kernel_rfl
theorem q20_ret : retQ X Try.f20 K .ret ([a0,a1,a2,a3,a4,a5], h) = (K.K a2 h) := by kernel_rfl
theorem q20_normal : retQ X Try.f20 K .normal ([a0,a1,a2,a3,a4,a5], h) = (K.K a2 h) := by kernel_rfl
theorem i20 (H : awp X h.length c20_0 (retQ X Try.f20 K) ([a0,.bad,.bad,.bad,.bad,.bad], h)) : ACall X 20 [a0] h K := acall_intro (fn := Try.f20) (by kernel_rfl) (by kernel_rfl) (by kernel_rfl) H
noncomputable def R20 := And.intro (And.intro (w20_1) (And.intro w20_3 w20_4)) (And.intro (And.intro w20_2 w20_0) (And.intro q20_ret q20_normal))
/-! function 21: sindri/leb.SizeS -/
noncomputable def c21_0 : Code := bodyOf Try.f21
noncomputable def c21_1 : Code := cl c21_0
theorem w21_1 : awp X n c21_1 Q ([a0,a1,a2,a3,a4,a5], h) = (a_mov (.v (.int .i64 0)) h (.c (fun t2 h1 => Q .normal ([a0,a1,t2,a3,a4,a5], h1)) ())) := by rw [awp_eq]; kernel_rfl
noncomputable def c21_2 : Code := cr c21_0
noncomputable def c21_3 : Code := cl c21_2
theorem w21_3 : awp X n c21_3 Q ([a0,a1,a2,a3,a4,a5], h) = (a_mov a0 h (.c (fun t3 h1 => ACall X 11 [(.v (.slice none 0 0)), t3] h1 (.c (fun t4 h2 => a_len t4 h2 (.c (fun t5 h3 => a_mov t5 h3 (.c (fun t2 h4 => Q .normal ([a0,a1,t2,t3,t4,t5], h4)) ())) ())) ())) ())) := by rw [awp_eq]; kernel_rfl
noncomputable def c21_4 : Code := cr c21_2
theorem w21_4 : awp X n c21_4 Q st = Q .ret st := by rw [awp_eq]; kernel_rfl
theorem w21_2 : awp X n c21_2 Q st = awp X n c21_3 (thenQ (awp X n c21_4 Q) Q) st := by rw [awp_eq]; kernel_rfl
theorem w21_0 : awp X n c21_0 Q st = awp X n c21_1 (thenQ (awp X n c21_2 Q) Q) st := by rw [awp_eq]; kernel_rfl
theorem q21_ret : retQ X Try.f21 K .ret ([a0,a1,a2,a3,a4,a5], h) = (K.K a2 h) := by kernel_rfl
theorem q21_normal : retQ X Try.f21 K .normal ([a0,a1,a2,a3,a4,a5], h) = (K.K a2 h) := by kernel_rfl
theorem i21 (H : awp X h.length c21_0 (retQ X Try.f21 K) ([a0,.bad,.bad,.bad,.bad,.bad], h)) : ACall X 21 [a0] h K := acall_intro (fn := Try.f21) (by kernel_rfl) (by kernel_rfl) (by kernel_rfl) H
noncomputable def R21 := And.intro (And.intro (w21_1) (And.intro w21_3 w21_4)) (And.intro (And.intro w21_2 w21_0) (And.intro q21_ret q21_normal))
/-! function 22: sindri/sindriref02.U -/
noncomputable def c22_0 : Code := bodyOf Try.f22
noncomputable def c22_1 : Code := cl c22_0
theorem w22_1 : awp X n c22_1 Q ((a0::a1::a2::a3::a4::a5::a6::a7::a8::a9::b0::b1::b2::b3::b4::b5::b6::b7::b8::b9::d0::d1::d2::d3::d4::d5::d6::[]), h) = (a_mov (.v (.int .u64 0)) h (.c (fun t2 h1 => Q .normal ((a0::a1::t2::a3::a4::a5::a6::a7::a8::a9::b0::b1::b2::b3::b4::b5::b6::b7::b8::b9::d0::d1::d2::d3::d4::d5::d6::[]), h1)) ())) := by rw [awp_eq]; kernel_rfl
noncomputable def c22_2 : Code := cr c22_0
noncomputable def c22_3 : Code := cl c22_2
theorem w22_3 : awp X n c22_3 Q ((a0::a1::a2::a3::a4::a5::a6::a7::a8::a9::b0::b1::b2::b3::b4::b5::b6::b7::b8::b9::d0::d1::d2::d3::d4::d5::d6::[]), h) = (a_mov a0 h (.c (fun t6 h1 => ACall X 32 [t6] h1 (.c (fun t7 h2 => a_mov t7 h2 (.c (fun t3 h3 => Q .normal ((a0::a1::a2::t3::a4::a5::t6::t7::a8::a9::b0::b1::b2::b3::b4::b5::b6::b7::b8::b9::d0::d1::d2::d3::d4::d5::d6::[]), h3)) ())) ())) ())) := by rw [awp_eq]; kernel_rfl
noncomputable def c22_4 : Code := cr c22_2
noncomputable def c22_5 : Code := cl c22_4
theorem w22_5 : awp X n c22_5 Q ((a0::a1::a2::a3::a4::a5::a6::a7::a8::a9::b0::b1::b2::b3::b4::b5::b6::b7::b8::b9::d0::d1::d2::d3::d4::d5::d6::[]), h) = (a_mov (.v (.int .u64 0)) h (.c (fun t4 h1 => Q .normal ((a0::a1::a2::a3::t4::a5::a6::a7::a8::a9::b0::b1::b2::b3::b4::b5::b6::b7::b8::b9::d0::d1::d2::d3::d4::d5::d6::[]), h1)) ())) := by rw [awp_eq]; kernel_rfl
noncomputable def c22_6 : Code := cr c22_4
noncomputable def c22_7 : Code := cl c22_6
noncomputable def c22_8 : Code := cl c22_7
theorem w22_8 : awp X n c22_8 Q ((a0::a1::a2::a3::a4::a5::a6::a7::a8::a9::b0::b1::b2::b3::b4::b5::b6::b7::b8::b9::d0::d1::d2::d3::d4::d5::d6::[]), h) = (a_mov a3 h (.c (fun t8 h1 => a_len t8 h1 (.c (fun t9 h2 => a_bin .sub t9 (.v (.int .i64 1)) h2 (.c (fun t10 h3 => a_mov t10 h3 (.c (fun t5 h4 => Q .normal ((a0::a1::a2::a3::a4::t5::a6::a7::t8::t9::t10::b1::b2::b3::b4::b5::b6::b7::b8::b9::d0::d1::d2::d3::d4::d5::d6::[]), h4)) ())) ())) ())) ())) := by rw [awp_eq]; kernel_rfl
noncomputable def c22_9 : Code := cr c22_7
noncomputable def c22_10 : Code := cl c22_9
noncomputable def c22_11 : Code := cl c22_10
noncomputable def c22_12 : Code := cl c22_11
noncomputable def c22_13 : Code := cl c22_12
theorem w22_13 : awp X n c22_13 Q ((a0::a1::a2::a3::a4::a5::a6::a7::a8::a9::b0::b1::b2::b3::b4::b5::b6::b7::b8::b9::d0::d1::d2::d3::d4::d5::d6::[]), h) = (a_mov a5 h (.c (fun t11 h1 => a_bin .geq t11 (.v (.int .i64 0)) h1 (.c (fun t12 h2 => Q .normal ((a0::a1::a2::a3::a4::a5::a6::a7::a8::a9::b0::t11::t12::b3::b4::b5::b6::b7::b8::b9::d0::d1::d2::d3::d4::d5::d6::[]), h2)) ())) ())) := by rw [awp_eq]; kernel_rfl
noncomputable def c22_14 : Code := cr c22_12
noncomputable def c22_15 : Code := cl c22_14
theorem w22_15 : awp X n c22_15 Q st = Q .normal st := by rw [awp_eq]; kernel_rfl
noncomputable def c22_16 : Code := cr c22_14
theorem w22_16 : awp X n c22_16 Q st = Q (.exit 0) st := by rw [awp_eq]; kernel_rfl
theorem w22_14 : awp X n c22_14 Q ((a0::a1::a2::a3::a4::a5::a6::a7::a8::a9::b0::b1::b2::b3::b4::b5::b6::b7::b8::b9::d0::d1::d2::d3::d4::d5::d6::[]), h) = a_cond b2 (awp X n c22_15 Q ((a0::a1::a2::a3::a4::a5::a6::a7::a8::a9::b0::b1::b2::b3::b4::b5::b6::b7::b8::b9::d0::d1::d2::d3::d4::d5::d6::[]), h)) (awp X n c22_16 Q ((a0::a1::a2::a3::a4::a5::a6::a7::a8::a9::b0::b1::b2::b3::b4::b5::b6::b7::b8::b9::d0::d1::d2::d3::d4::d5::d6::[]), h)) := by rw [awp_eq]; kernel_rfl
theorem w22_12 : awp X n c22_12 Q st = awp X n c22_13 (thenQ (awp X n c22_14 Q) Q) st := by rw [awp_eq]; kernel_rfl
noncomputable def c22_17 : Code := cr c22_11
noncomputable def c22_18 : Code := cl c22_17
noncomputable def c22_19 : Code := cl c22_18
noncomputable def c22_20 : Code := cl c22_19
noncomputable def c22_21 : Code := cl c22_20
theorem w22_21 : awp X n c22_21 Q ((a0::a1::a2::a3::a4::a5::a6::a7::a8::a9::b0::b1::b2::b3::b4::b5::b6::b7::b8::b9::d0::d1::d2::d3::d4::d5::d6::[]), h) = (a_mov a4 h (.c (fun t15 h1 => a_bin .geq t15 (.v (.int .u64 144115188075855872)) h1 (.c (fun t16 h2 => Q .normal ((a0::a1::a2::a3::a4::a5::a6::a7::a8::a9::b0::b1::b2::b3::b4::t15::t16::b7::b8::b9::d0::d1::d2::d3::d4::d5::d6::[]), h2)) ())) ())) := by rw [awp_eq]; kernel_rfl
noncomputable def c22_22 : Code := cr c22_20
noncomputable def c22_23 : Code := cl c22_22
noncomputable def c22_24 : Code := cl c22_23
theorem w22_24 : awp X n c22_24 Q ((a0::a1::a2::a3::a4::a5::a6::a7::a8::a9::b0::b1::b2::b3::b4::b5::b6::b7::b8::b9::d0::d1::d2::d3::d4::d5::d6::[]), h) = (a_mov a0 h (.c (fun t17 h1 => ACall X 33 [t17, (.v (.int .i64 11))] h1 (.c (fun t18 h2 => Q .normal ((a0::a1::a2::a3::a4::a5::a6::a7::a8::a9::b0::b1::b2::b3::b4::b5::b6::t17::t18::b9::d0::d1::d2::d3::d4::d5::d6::[]), h2)) ())) ())) := by rw [awp_eq]; kernel_rfl
noncomputable def c22_25 : Code := cr c22_23
noncomputable def c22_26 : Code := cl c22_25
theorem w22_26 : awp X n c22_26 Q ((a0::a1::a2::a3::a4::a5::a6::a7::a8::a9::b0::b1::b2::b3::b4::b5::b6::b7::b8::b9::d0::d1::d2::d3::d4::d5::d6::[]), h) = (a_mov (.v (.int .u64 0)) h (.c (fun t2 h1 => Q .normal ((a0::a1::t2::a3::a4::a5::a6::a7::a8::a9::b0::b1::b2::b3::b4::b5::b6::b7::b8::b9::d0::d1::d2::d3::d4::d5::d6::[]), h1)) ())) := by rw [awp_eq]; kernel_rfl
noncomputable def c22_27 : Code := cr c22_25
theorem w22_27 : awp X n c22_27 Q st = Q .ret st := by rw [awp_eq]; kernel_rfl
theorem w22_25 : awp X n c22_25 Q st = awp X n c22_26 (thenQ (awp X n c22_27 Q) Q) st := by rw [awp_eq]; kernel_rfl
theorem w22_23 : awp X n c22_23 Q st = awp X n c22_24 (thenQ (awp X n c22_25 Q) Q) st := by rw [awp_eq]; kernel_rfl
noncomputable def c22_28 : Code := cr c22_22
theorem w22_28 : awp X n c22_28 Q st = Q .normal st := by rw [awp_eq]; kernel_rfl
theorem w22_22 : awp X n c22_22 Q ((a0::a1::a2::a3::a4::a5::a6::a7::a8::a9::b0::b1::b2::b3::b4::b5::b6::b7::b8::b9::d0::d1::d2::d3::d4::d5::d6::[]), h) = a_cond b6 (awp X n c22_23 Q ((a0::a1::a2::a3::a4::a5::a6::a7::a8::a9::b0::b1::b2::b3::b4::b5::b6::b7::b8::b9::d0::d1::d2::d3::d4::d5::d6::[]), h)) (awp X n c22_28 Q ((a0::a1::a2::a3::a4::a5::a6::a7::a8::a9::b0::b1::b2::b3::b4::b5::b6::b7::b8::b9::d0::d1::d2::d3::d4::d5::d6::[]), h)) := by rw [awp_eq]; kernel_rfl
theorem w22_20 : awp X n c22_20 Q st = awp X n c22_21 (thenQ (awp X n c22_22 Q) Q) st := by rw [awp_eq]; kernel_rfl
noncomputable def c22_29 : Code := cr c22_19
theorem w22_29 : awp X n c22_29 Q ((a0::a1::a2::a3::a4::a5::a6::a7::a8::a9::b0::b1::b2::b3::b4::b5::b6::b7::b8::b9::d0::d1::d2::d3::d4::d5::d6::[]), h) = (a_mov a4 h (.c (fun t19 h1 => a_bin .mul t19 (.v (.int .u64 128)) h1 (.c (fun t20 h2 => a_mov a3 h2 (.c (fun t21 h3 => a_mov a5 h3 (.c (fun t22 h4 => a_ia 1 t21 t22 h4 (.c (fun t23 h5 => a_load 1 false t23 h5 (.c (fun t24 h6 => a_bin .add t20 t24 h6 (.c (fun t25 h7 => a_mov t25 h7 (.c (fun t4 h8 => Q .normal ((a0::a1::a2::a3::t4::a5::a6::a7::a8::a9::b0::b1::b2::b3::b4::b5::b6::b7::b8::t19::t20::t21::t22::t23::t24::t25::d6::[]), h8)) ())) ())) ())) ())) ())) ())) ())) ())) := by rw [awp_eq]; kernel_rfl
theorem w22_19 : awp X n c22_19 Q st = awp X n c22_20 (thenQ (awp X n c22_29 Q) Q) st := by rw [awp_eq]; kernel_rfl
theorem w22_18 : awp X n c22_18 Q st = awp X n c22_19 (blockQ 1 Q) st := by rw [awp_eq]; kernel_rfl
noncomputable def c22_30 : Code := cr c22_17
theorem w22_30 : awp X n c22_30 Q ((a0::a1::a2::a3::a4::a5::a6::a7::a8::a9::b0::b1::b2::b3::b4::b5::b6::b7::b8::b9::d0::d1::d2::d3::d4::d5::d6::[]), h) = (a_mov a5 h (.c (fun t13 h1 => a_bin .sub t13 (.v (.int .i64 1)) h1 (.c (fun t14 h2 => a_mov t14 h2 (.c (fun t5 h3 => Q .normal ((a0::a1::a2::a3::a4::t5::a6::a7::a8::a9::b0::b1::b2::t13::t14::b5::b6::b7::b8::b9::d0::d1::d2::d3::d4::d5::d6::[]), h3)) ())) ())) ())) := by rw [awp_eq]; kernel_rfl
theorem w22_17 : awp X n c22_17 Q st = awp X n c22_18 (thenQ (awp X n c22_30 Q) Q) st := by rw [awp_eq]; kernel_rfl
theorem w22_11 : awp X n c22_11 Q st = awp X n c22_12 (thenQ (awp X n c22_17 Q) Q) st := by rw [awp_eq]; kernel_rfl
theorem w22_10 : awp X n c22_10 Q st = ALoop X n c22_11 Q st := by rw [awp_eq]; kernel_rfl
theorem w22_9 : awp X n c22_9 Q st = awp X n c22_10 (blockQ 0 Q) st := by rw [awp_eq]; kernel_rfl
theorem w22_7 : awp X n c22_7 Q st = awp X n c22_8 (thenQ (awp X n c22_9 Q) Q) st := by rw [awp_eq]; kernel_rfl
noncomputable def c22_31 : Code := cr c22_6
noncomputable def c22_32 : Code := cl c22_31
theorem w22_32 : awp X n c22_32 Q ((a0::a1::a2::a3::a4::a5::a6::a7::a8::a9::b0::b1::b2::b3::b4::b5::b6::b7::b8::b9::d0::d1::d2::d3::d4::d5::d6::[]), h) = (a_mov a4 h (.c (fun t26 h1 => a_mov t26 h1 (.c (fun t2 h2 => Q .normal ((a0::a1::t2::a3::a4::a5::a6::a7::a8::a9::b0::b1::b2::b3::b4::b5::b6::b7::b8::b9::d0::d1::d2::d3::d4::d5::t26::[]), h2)) ())) ())) := by rw [awp_eq]; kernel_rfl
noncomputable def c22_33 : Code := cr c22_31
theorem w22_33 : awp X n c22_33 Q st = Q .ret st := by rw [awp_eq]; kernel_rfl
theorem w22_31 : awp X n c22_31 Q st = awp X n c22_32 (thenQ (awp X n c22_33 Q) Q) st := by rw [awp_eq]; kernel_rfl
theorem w22_6 : awp X n c22_6 Q st = awp X n c22_7 (thenQ (awp X n c22_31 Q) Q) st := by rw [awp_eq]; kernel_rfl
theorem w22_4 : awp X n c22_4 Q st = awp X n c22_5 (thenQ (awp X n c22_6 Q) Q) st := by rw [awp_eq]; kernel_rfl
theorem w22_2 : awp X n c22_2 Q st = awp X n c22_3 (thenQ (awp X n c22_4 Q) Q) st := by rw [awp_eq]; kernel_rfl
theorem w22_0 : awp X n c22_0 Q st = awp X n c22_1 (thenQ (awp X n c22_2 Q) Q) st := by rw [awp_eq]; kernel_rfl
theorem q22_ret : retQ X Try.f22 K .ret ((a0::a1::a2::a3::a4::a5::a6::a7::a8::a9::b0::b1::b2::b3::b4::b5::b6::b7::b8::b9::d0::d1::d2::d3::d4::d5::d6::[]), h) = (K.K a2 h) := by kernel_rfl
theorem q22_normal : retQ X Try.f22 K .normal ((a0::a1::a2::a3::a4::a5::a6::a7::a8::a9::b0::b1::b2::b3::b4::b5::b6::b7::b8::b9::d0::d1::d2::d3::d4::d5::d6::[]), h) = (K.K a2 h) := by kernel_rfl
theorem i22 (H : awp X h.length c22_0 (retQ X Try.f22 K) ((a0::.bad::.bad::.bad::.bad::.bad::.bad::.bad::.bad::.bad::.bad::.bad::.bad::.bad::.bad::.bad::.bad::.bad::.bad::.bad::.bad::.bad::.bad::.bad::.bad::.bad::.bad::[]), h)) : ACall X 22 [a0] h K := acall_intro (fn := Try.f22) (by kernel_rfl) (by kernel_rfl) (by kernel_rfl) H
noncomputable def R22 := And.intro (And.intro (And.intro (And.intro (And.intro w22_1 w22_3) (And.intro w22_5 w22_8)) (And.intro (And.intro w22_13 w22_15) (And.intro (w22_16) (And.intro w22_14 w22_12)))) (And.intro (And.intro (And.intro w22_21 w22_24) (And.intro w22_26 w22_27)) (And.intro (And.intro w22_25 w22_23) (And.intro (w22_28) (And.intro w22_22 w22_20))))) (And.intro (And.intro (And.intro (And.intro w22_29 w22_19) (And.intro w22_18 w22_30)) (And.intro (And.intro w22_17 w22_11) (And.intro (w22_10) (And.intro w22_9 w22_7)))) (And.intro (And.intro (And.intro w22_32 w22_33) (And.intro w22_31 w22_6)) (And.intro (And.intro w22_4 w22_2) (And.intro (w22_0) (And.intro q22_ret q22_normal)))))
/-! function 24: sindri/sindriref02.S -/
noncomputable def c24_0 : Code := bodyOf Try.f24
noncomputable def c24_1 : Code := cl c24_0
theorem w24_1 : awp X n c24_1 Q ((a0::a1::a2::a3::a4::a5::a6::a7::a8::a9::b0::b1::b2::b3::b4::b5::b6::b7::b8::b9::d0::d1::d2::d3::d4::d5::d6::d7::d8::d9::e0::e1::e2::e3::e4::e5::e6::e7::e8::e9::f0::f1::f2::f3::f4::f5::[]), h) = (a_mov (.v (.int .i64 0)) h (.c (fun t2 h1 => Q .normal ((a0::a1::t2::a3::a4::a5::a6::a7::a8::a9::b0::b1::b2::b3::b4::b5::b6::b7::b8::b9::d0::d1::d2::d3::d4::d5::d6::d7::d8::d9::e0::e1::e2::e3::e4::e5::e6::e7::e8::e9::f0::f1::f2::f3::f4::f5::[]), h1)) ())) := by rw [awp_eq]; kernel_rfl
noncomputable def c24_2 : Code := cr c24_0
noncomputable def c24_3 : Code := cl c24_2
theorem w24_3 : awp X n c24_3 Q ((a0::a1::a2::a3::a4::a5::a6::a7::a8::a9::b0::b1::b2::b3::b4::b5::b6::b7::b8::b9::d0::d1::d2::d3::d4::d5::d6::d7::d8::d9::e0::e1::e2::e3::e4::e5::e6::e7::e8::e9::f0::f1::f2::f3::f4::f5::[]), h) = (a_mov a0 h (.c (fun t6 h1 => ACall X 32 [t6] h1 (.c (fun t7 h2 => a_mov t7 h2 (.c (fun t3 h3 => Q .normal ((a0::a1::a2::t3::a4::a5::t6::t7::a8::a9::b0::b1::b2::b3::b4::b5::b6::b7::b8::b9::d0::d1::d2::d3::d4::d5::d6::d7::d8::d9::e0::e1::e2::e3::e4::e5::e6::e7::e8::e9::f0::f1::f2::f3::f4::f5::[]), h3)) ())) ())) ())) := by rw [awp_eq]; kernel_rfl
noncomputable def c24_4 : Code := cr c24_2
noncomputable def c24_5 : Code := cl c24_4
noncomputable def c24_6 : Code := cl c24_5
theorem w24_6 : awp X n c24_6 Q ((a0::a1::a2::a3::a4::a5::a6::a7::a8::a9::b0::b1::b2::b3::b4::b5::b6::b7::b8::b9::d0::d1::d2::d3::d4::d5::d6::d7::d8::d9::e0::e1::e2::e3::e4::e5::e6::e7::e8::e9::f0::f1::f2::f3::f4::f5::[]), h) = (a_mov a3 h (.c (fun t8 h1 => a_len t8 h1 (.c (fun t9 h2 => a_bin .eql t9 (.v (.int .i64 0)) h2 (.c (fun t10 h3 => Q .normal ((a0::a1::a2::a3::a4::a5::a6::a7::t8::t9::t10::b1::b2::b3::b4::b5::b6::b7::b8::b9::d0::d1::d2::d3::d4::d5::d6::d7::d8::d9::e0::e1::e2::e3::e4::e5::e6::e7::e8::e9::f0::f1::f2::f3::f4::f5::[]), h3)) ())) ())) ())) := by rw [awp_eq]; kernel_rfl
noncomputable def c24_7 : Code := cr c24_5
noncomputable def c24_8 : Code := cl c24_7
noncomputable def c24_9 : Code := cl c24_8
theorem w24_9 : awp X n c24_9 Q ((a0::a1::a2::a3::a4::a5::a6::a7::a8::a9::b0::b1::b2::b3::b4::b5::b6::b7::b8::b9::d0::d1::d2::d3::d4::d5::d6::d7::d8::d9::e0::e1::e2::e3::e4::e5::e6::e7::e8::e9::f0::f1::f2::f3::f4::f5::[]), h) = (a_mov (.v (.int .i64 0)) h (.c (fun t2 h1 => Q .normal ((a0::a1::t2::a3::a4::a5::a6::a7::a8::a9::b0::b1::b2::b3::b4::b5::b6::b7::b8::b9::d0::d1::d2::d3::d4::d5::d6::d7::d8::d9::e0::e1::e2::e3::e4::e5::e6::e7::e8::e9::f0::f1::f2::f3::f4::f5::[]), h1)) ())) := by rw [awp_eq]; kernel_rfl
noncomputable def c24_10 : Code := cr c24_8
theorem w24_10 : awp X n c24_10 Q st = Q .ret st := by rw [awp_eq]; kernel_rfl
theorem w24_8 : awp X n c24_8 Q st = awp X n c24_9 (thenQ (awp X n c24_10 Q) Q) st := by rw [awp_eq]; kernel_rfl
noncomputable def c24_11 : Code := cr c24_7
theorem w24_11 : awp X n c24_11 Q st = Q .normal st := by rw [awp_eq]; kernel_rfl
theorem w24_7 : awp X n c24_7 Q ((a0::a1::a2::a3::a4::a5::a6::a7::a8::a9::b0::b1::b2::b3::b4::b5::b6::b7::b8::b9::d0::d1::d2::d3::d4::d5::d6::d7::d8::d9::e0::e1::e2::e3::e4::e5::e6::e7::e8::e9::f0::f1::f2::f3::f4::f5::[]), h) = a_cond b0 (awp X n c24_8 Q ((a0::a1::a2::a3::a4::a5::a6::a7::a8::a9::b0::b1::b2::b3::b4::b5::b6::b7::b8::b9::d0::d1::d2::d3::d4::d5::d6::d7::d8::d9::e0::e1::e2::e3::e4::e5::e6::e7::e8::e9::f0::f1::f2::f3::f4::f5::[]), h)) (awp X n c24_11 Q ((a0::a1::a2::a3::a4::a5::a6::a7::a8::a9::b0::b1::b2::b3::b4::b5::b6::b7::b8::b9::d0::d1::d2::d3::d4::d5::d6::d7::d8::d9::e0::e1::e2::e3::e4::e5::e6::e7::e8::e9::f0::f1::f2::f3::f4::f5::[]), h)) := by rw [awp_eq]; kernel_rfl
theorem w24_5 : awp X n c24_5 Q st = awp X n c24_6 (thenQ (awp X n c24_7 Q) Q) st := by rw [awp_eq]; kernel_rfl
noncomputable def c24_12 : Code := cr c24_4
noncomputable def c24_13 : Code := cl c24_12
theorem w24_13 : awp X n c24_13 Q ((a0::a1::a2::a3::a4::a5::a6::a7::a8::a9::b0::b1::b2::b3::b4::b5::b6::b7::b8::b9::d0::d1::d2::d3::d4::d5::d6::d7::d8::d9::e0::e1::e2::e3::e4::e5::e6::e7::e8::e9::f0::f1::f2::f3::f4::f5::[]), h) = (a_mov a3 h (.c (fun t11 h1 => a_mov a3 h1 (.c (fun t12 h2 => a_len t12 h2 (.c (fun t13 h3 => a_bin .sub t13 (.v (.int .i64 1)) h3 (.c (fun t14 h4 => a_ia 1 t11 t14 h4 (.c (fun t15 h5 => a_load 1 false t15 h5 (.c (fun t16 h6 => a_cint .i64 t16 h6 (.c (fun t17 h7 => a_mov t17 h7 (.c (fun t4 h8 => Q .normal ((a0::a1::a2::a3::t4::a5::a6::a7::a8::a9::b0::t11::t12::t13::t14::t15::t16::t17::b8::b9::d0::d1::d2::d3::d4::d5::d6::d7::d8::d9::e0::e1::e2::e3::e4::e5::e6::e7::e8::e9::f0::f1::f2::f3::f4::f5::[]), h8)) ())) ())) ())) ())) ())) ())) ())) ())) := by rw [awp_eq]; kernel_rfl
noncomputable def c24_14 : Code := cr c24_12
noncomputable def c24_15 : Code := cl c24_14
noncomputable def c24_16 : Code := cl c24_15
theorem w24_16 : awp X n c24_16 Q ((a0::a1::a2::a3::a4::a5::a6::a7::a8::a9::b0::b1::b2::b3::b4::b5::b6::b7::b8::b9::d0::d1::d2::d3::d4::d5::d6::d7::d8::d9::e0::e1::e2::e3::e4::e5::e6::e7::e8::e9::f0::f1::f2::f3::f4::f5::[]), h) = (a_mov a4 h (.c (fun t18 h1 => a_bin .geq t18 (.v (.int .i64 64)) h1 (.c (fun t19 h2 => Q .normal ((a0::a1::a2::a3::a4::a5::a6::a7::a8::a9::b0::b1::b2::b3::b4::b5::b6::b7::t18::t19::d0::d1::d2::d3::d4::d5::d6::d7::d8::d9::e0::e1::e2::e3::e4::e5::e6::e7::e8::e9::f0::f1::f2::f3::f4::f5::[]), h2)) ())) ())) := by rw [awp_eq]; kernel_rfl
noncomputable def c24_17 : Code := cr c24_15
noncomputable def c24_18 : Code := cl c24_17
theorem w24_18 : awp X n c24_18 Q ((a0::a1::a2::a3::a4::a5::a6::a7::a8::a9::b0::b1::b2::b3::b4::b5::b6::b7::b8::b9::d0::d1::d2::d3::d4::d5::d6::d7::d8::d9::e0::e1::e2::e3::e4::e5::e6::e7::e8::e9::f0::f1::f2::f3::f4::f5::[]), h) = (a_mov a4 h (.c (fun t20 h1 => a_bin .sub t20 (.v (.int .i64 128)) h1 (.c (fun t21 h2 => a_mov t21 h2 (.c (fun t4 h3 => Q .normal ((a0::a1::a2::a3::t4::a5::a6::a7::a8::a9::b0::b1::b2::b3::b4::b5::b6::b7::b8::b9::t20::t21::d2::d3::d4::d5::d6::d7::d8::d9::e0::e1::e2::e3::e4::e5::e6::e7::e8::e9::f0::f1::f2::f3::f4::f5::[]), h3)) ())) ())) ())) := by rw [awp_eq]; kernel_rfl
noncomputable def c24_19 : Code := cr c24_17
theorem w24_19 : awp X n c24_19 Q st = Q .normal st := by rw [awp_eq]; kernel_rfl
theorem w24_17 : awp X n c24_17 Q ((a0::a1::a2::a3::a4::a5::a6::a7::a8::a9::b0::b1::b2::b3::b4::b5::b6::b7::b8::b9::d0::d1::d2::d3::d4::d5::d6::d7::d8::d9::e0::e1::e2::e3::e4::e5::e6::e7::e8::e9::f0::f1::f2::f3::f4::f5::[]), h) = a_cond b9 (awp X n c24_18 Q ((a0::a1::a2::a3::a4::a5::a6::a7::a8::a9::b0::b1::b2::b3::b4::b5::b6::b7::b8::b9::d0::d1::d2::d3::d4::d5::d6::d7::d8::d9::e0::e1::e2::e3::e4::e5::e6::e7::e8::e9::f0::f1::f2::f3::f4::f5::[]), h)) (awp X n c24_19 Q ((a0::a1::a2::a3::a4::a5::a6::a7::a8::a9::b0::b1::b2::b3::b4::b5::b6::b7::b8::b9::d0::d1::d2::d3::d4::d5::d6::d7::d8::d9::e0::e1::e2::e3::e4::e5::e6::e7::e8::e9::f0::f1::f2::f3::f4::f5::[]), h)) := by rw [awp_eq]; kernel_rfl
theorem w24_15 : awp X n c24_15 Q st = awp X n c24_16 (thenQ (awp X n c24_17 Q) Q) st := by rw [awp_eq]; kernel_rfl
noncomputable def c24_20 : Code := cr c24_14
noncomputable def c24_21 : Code := cl c24_20
noncomputable def c24_22 : Code := cl c24_21
theorem w24_22 : awp X n c24_22 Q ((a0::a1::a2::a3::a4::a5::a6::a7::a8::a9::b0::b1::b2::b3::b4::b5::b6::b7::b8::b9::d0::d1::d2::d3::d4::d5::d6::d7::d8::d9::e0::e1::e2::e3::e4::e5::e6::e7::e8::e9::f0::f1::f2::f3::f4::f5::[]), h) = (a_mov a3 h (.c (fun t22 h1 => a_len t22 h1 (.c (fun t23 h2 => a_bin .sub t23 (.v (.int .i64 2)) h2 (.c (fun t24 h3 => a_mov t24 h3 (.c (fun t5 h4 => Q .normal ((a0::a1::a2::a3::a4::t5::a6::a7::a8::a9::b0::b1::b2::b3::b4::b5::b6::b7::b8::b9::d0::d1::t22::t23::t24::d5::d6::d7::d8::d9::e0::e1::e2::e3::e4::e5::e6::e7::e8::e9::f0::f1::f2::f3::f4::f5::[]), h4)) ())) ())) ())) ())) := by rw [awp_eq]; kernel_rfl
noncomputable def c24_23 : Code := cr c24_21
noncomputable def c24_24 : Code := cl c24_23
noncomputable def c24_25 : Code := cl c24_24
noncomputable def c24_26 : Code := cl c24_25
noncomputable def c24_27 : Code := cl c24_26
theorem w24_27 : awp X n c24_27 Q ((a0::a1::a2::a3::a4::a5::a6::a7::a8::a9::b0::b1::b2::b3::b4::b5::b6::b7::b8::b9::d0::d1::d2::d3::d4::d5::d6::d7::d8::d9::e0::e1::e2::e3::e4::e5::e6::e7::e8::e9::f0::f1::f2::f3::f4::f5::[]), h) = (a_mov a5 h (.c (fun t25 h1 => a_bin .geq t25 (.v (.int .i64 0)) h1 (.c (fun t26 h2 => Q .normal ((a0::a1::a2::a3::a4::a5::a6::a7::a8::a9::b0::b1::b2::b3::b4::b5::b6::b7::b8::b9::d0::d1::d2::d3::d4::t25::t26::d7::d8::d9::e0::e1::e2::e3::e4::e5::e6::e7::e8::e9::f0::f1::f2::f3::f4::f5::[]), h2)) ())) ())) := by rw [awp_eq]; kernel_rfl
noncomputable def c24_28 : Code := cr c24_26
noncomputable def c24_29 : Code := cl c24_28
theorem w24_29 : awp X n c24_29 Q st = Q .normal st := by rw [awp_eq]; kernel_rfl
noncomputable def c24_30 : Code := cr c24_28
theorem w24_30 : awp X n c24_30 Q st = Q (.exit 0) st := by rw [awp_eq]; kernel_rfl
theorem w24_28 : awp X n c24_28 Q ((a0::a1::a2::a3::a4::a5::a6::a7::a8::a9::b0::b1::b2::b3::b4::b5::b6::b7::b8::b9::d0::d1::d2::d3::d4::d5::d6::d7::d8::d9::e0::e1::e2::e3::e4::e5::e6::e7::e8::e9::f0::f1::f2::f3::f4::f5::[]), h) = a_cond d6 (awp X n c24_29 Q ((a0::a1::a2::a3::a4::a5::a6::a7::a8::a9::b0::b1::b2::b3::b4::b5::b6::b7::b8::b9::d0::d1::d2::d3::d4::d5::d6::d7::d8::d9::e0::e1::e2::e3::e4::e5::e6::e7::e8::e9::f0::f1::f2::f3::f4::f5::[]), h)) (awp X n c24_30 Q ((a0::a1::a2::a3::a4::a5::a6::a7::a8::a9::b0::b1::b2::b3::b4::b5::b6::b7::b8::b9::d0::d1::d2::d3::d4::d5::d6::d7::d8::d9::e0::e1::e2::e3::e4::e5::e6::e7::e8::e9::f0::f1::f2::f3::f4::f5::[]), h)) := by rw [awp_eq]; kernel_rfl
theorem w24_26 : awp X n c24_26 Q st = awp X n c24_27 (thenQ (awp X n c24_28 Q) Q) st := by rw [awp_eq]; kernel_rfl
noncomputable def c24_31 : Code := cr c24_25
noncomputable def c24_32 : Code := cl c24_31
noncomputable def c24_33 : Code := cl c24_32
noncomputable def c24_34 : Code := cl c24_33
noncomputable def c24_35 : Code := cl c24_34
theorem w24_35 : awp X n c24_35 Q ((a0::a1::a2::a3::a4::a5::a6::a7::a8::a9::b0::b1::b2::b3::b4::b5::b6::b7::b8::b9::d0::d1::d2::d3::d4::d5::d6::d7::d8::d9::e0::e1::e2::e3::e4::e5::e6::e7::e8::e9::f0::f1::f2::f3::f4::f5::[]), h) = (a_mov a4 h (.c (fun t29 h1 => a_bin .lss t29 (.v (.int .i64 (-72057594037927936))) h1 (.c (fun t30 h2 => a_mov t30 h2 (.c (fun t31 h3 => a_on t31 false (fun k => a_mov a4 h3 k) h3 (.c (fun t32 h4 => a_on t31 false (fun k => a_bin .gtr t32 (.v (.int .i64 72057594037927935)) h4 k) h4 (.c (fun t33 h5 => a_pick t31 (.v (.bool true)) t33 h5 (.c (fun t34 h6 => Q .normal ((a0::a1::a2::a3::a4::a5::a6::a7::a8::a9::b0::b1::b2::b3::b4::b5::b6::b7::b8::b9::d0::d1::d2::d3::d4::d5::d6::d7::d8::t29::t30::t31::t32::t33::t34::e5::e6::e7::e8::e9::f0::f1::f2::f3::f4::f5::[]), h6)) ())) ())) ())) ())) ())) ())) := by rw [awp_eq]; kernel_rfl
noncomputable def c24_36 : Code := cr c24_34
noncomputable def c24_37 : Code := cl c24_36
noncomputable def c24_38 : Code := cl c24_37
theorem w24_38 : awp X n c24_38 Q ((a0::a1::a2::a3::a4::a5::a6::a7::a8::a9::b0::b1::b2::b3::b4::b5::b6::b7::b8::b9::d0::d1::d2::d3::d4::d5::d6::d7::d8::d9::e0::e1::e2::e3::e4::e5::e6::e7::e8::e9::f0::f1::f2::f3::f4::f5::[]), h) = (a_mov a0 h (.c (fun t35 h1 => ACall X 33 [t35, (.v (.int .i64 11))] h1 (.c (fun t36 h2 => Q .normal ((a0::a1::a2::a3::a4::a5::a6::a7::a8::a9::b0::b1::b2::b3::b4::b5::b6::b7::b8::b9::d0::d1::d2::d3::d4::d5::d6::d7::d8::d9::e0::e1::e2::e3::e4::t35::t36::e7::e8::e9::f0::f1::f2::f3::f4::f5::[]), h2)) ())) ())) := by rw [awp_eq]; kernel_rfl
noncomputable def c24_39 : Code := cr c24_37
noncomputable def c24_40 : Code := cl c24_39
theorem w24_40 : awp X n c24_40 Q ((a0::a1::a2::a3::a4::a5::a6::a7::a8::a9::b0::b1::b2::b3::b4::b5::b6::b7::b8::b9::d0::d1::d2::d3::d4::d5::d6::d7::d8::d9::e0::e1::e2::e3::e4::e5::e6::e7::e8::e9::f0::f1::f2::f3::f4::f5::[]), h) = (a_mov (.v (.int .i64 0)) h (.c (fun t2 h1 => Q .normal ((a0::a1::t2::a3::a4::a5::a6::a7::a8::a9::b0::b1::b2::b3::b4::b5::b6::b7::b8::b9::d0::d1::d2::d3::d4::d5::d6::d7::d8::d9::e0::e1::e2::e3::e4::e5::e6::e7::e8::e9::f0::f1::f2::f3::f4::f5::[]), h1)) ())) := by rw [awp_eq]; kernel_rfl
noncomputable def c24_41 : Code := cr c24_39
theorem w24_41 : awp X n c24_41 Q st = Q .ret st := by rw [awp_eq]; kernel_rfl
theorem w24_39 : awp X n c24_39 Q st = awp X n c24_40 (thenQ (awp X n c24_41 Q) Q) st := by rw [awp_eq]; kernel_rfl
theorem w24_37 : awp X n c24_37 Q st = awp X n c24_38 (thenQ (awp X n c24_39 Q) Q) st := by rw [awp_eq]; kernel_rfl
noncomputable def c24_42 : Code := cr c24_36
theorem w24_42 : awp X n c24_42 Q st = Q .normal st := by rw [awp_eq]; kernel_rfl
theorem w24_36 : awp X n c24_36 Q ((a0::a1::a2::a3::a4::a5::a6::a7::a8::a9::b0::b1::b2::b3::b4::b5::b6::b7::b8::b9::d0::d1::d2::d3::d4::d5::d6::d7::d8::d9::e0::e1::e2::e3::e4::e5::e6::e7::e8::e9::f0::f1::f2::f3::f4::f5::[]), h) = a_cond e4 (awp X n c24_37 Q ((a0::a1::a2::a3::a4::a5::a6::a7::a8::a9::b0::b1::b2::b3::b4::b5::b6::b7::b8::b9::d0::d1::d2::d3::d4::d5::d6::d7::d8::d9::e0::e1::e2::e3::e4::e5::e6::e7::e8::e9::f0::f1::f2::f3::f4::f5::[]), h)) (awp X n c24_42 Q ((a0::a1::a2::a3::a4::a5::a6::a7::a8::a9::b0::b1::b2::b3::b4::b5::b6::b7::b8::b9::d0::d1::d2::d3::d4::d5::d6::d7::d8::d9::e0::e1::e2::e3::e4::e5::e6::e7::e8::e9::f0::f1::f2::f3::f4::f5::[]), h)) := by rw [awp_eq]; kernel_rfl
theorem w24_34 : awp X n c24_34 Q st = awp X n c24_35 (thenQ (awp X n c24_36 Q) Q) st := by rw [awp_eq]; kernel_rfl
noncomputable def c24_43 : Code := cr c24_33
theorem w24_43 : awp X n c24_43 Q ((a0::a1::a2::a3::a4::a5::a6::a7::a8::a9::b0::b1::b2::b3::b4::b5::b6::b7::b8::b9::d0::d1::d2::d3::d4::d5::d6::d7::d8::d9::e0::e1::e2::e3::e4::e5::e6::e7::e8::e9::f0::f1::f2::f3::f4::f5::[]), h) = (a_mov a4 h (.c (fun t37 h1 => a_bin .mul t37 (.v (.int .i64 128)) h1 (.c (fun t38 h2 => a_mov a3 h2 (.c (fun t39 h3 => a_mov a5 h3 (.c (fun t40 h4 => a_ia 1 t39 t40 h4 (.c (fun t41 h5 => a_load 1 false t41 h5 (.c (fun t42 h6 => a_cint .i64 t42 h6 (.c (fun t43 h7 => a_bin .add t38 t43 h7 (.c (fun t44 h8 => a_mov t44 h8 (.c (fun t4 h9 => Q .normal ((a0::a1::a2::a3::t4::a5::a6::a7::a8::a9::b0::b1::b2::b3::b4::b5::b6::b7::b8::b9::d0::d1::d2::d3::d4::d5::d6::d7::d8::d9::e0::e1::e2::e3::e4::e5::e6::t37::t38::t39::t40::t41::t42::t43::t44::f5::[]), h9)) ())) ())) ())) ())) ())) ())) ())) ())) ())) := by rw [awp_eq]; kernel_rfl
theorem w24_33 : awp X n c24_33 Q st = awp X n c24_34 (thenQ (awp X n c24_43 Q) Q) st := by rw [awp_eq]; kernel_rfl
theorem w24_32 : awp X n c24_32 Q st = awp X n c24_33 (blockQ 1 Q) st := by rw [awp_eq]; kernel_rfl
noncomputable def c24_44 : Code := cr c24_31
theorem w24_44 : awp X n c24_44 Q ((a0::a1::a2::a3::a4::a5::a6::a7::a8::a9::b0::b1::b2::b3::b4::b5::b6::b7::b8::b9::d0::d1::d2::d3::d4::d5::d6::d7::d8::d9::e0::e1::e2::e3::e4::e5::e6::e7::e8::e9::f0::f1::f2::f3::f4::f5::[]), h) = (a_mov a5 h (.c (fun t27 h1 => a_bin .sub t27 (.v (.int .i64 1)) h1 (.c (fun t28 h2 => a_mov t28 h2 (.c (fun t5 h3 => Q .normal ((a0::a1::a2::a3::a4::t5::a6::a7::a8::a9::b0::b1::b2::b3::b4::b5::b6::b7::b8::b9::d0::d1::d2::d3::d4::d5::d6::t27::t28::d9::e0::e1::e2::e3::e4::e5::e6::e7::e8::e9::f0::f1::f2::f3::f4::f5::[]), h3)) ())) ())) ())) := by rw [awp_eq]; kernel_rfl
theorem w24_31 : awp X n c24_31 Q st = awp X n c24_32 (thenQ (awp X n c24_44 Q) Q) st := by rw [awp_eq]; kernel_rfl
theorem w24_25 : awp X n c24_25 Q st = awp X n c24_26 (thenQ (awp X n c24_31 Q) Q) st := by rw [awp_eq]; kernel_rfl
theorem w24_24 : awp X n c24_24 Q st = ALoop X n c24_25 Q st := by rw [awp_eq]; kernel_rfl
theorem w24_23 : awp X n c24_23 Q st = awp X n c24_24 (blockQ 0 Q) st := by rw [awp_eq]; kernel_rfl
theorem w24_21 : awp X n c24_21 Q st = awp X n c24_22 (thenQ (awp X n c24_23 Q) Q) st := by rw [awp_eq]; kernel_rfl
noncomputable def c24_45 : Code := cr c24_20
noncomputable def c24_46 : Code := cl c24_45
theorem w24_46 : awp X n c24_46 Q ((a0::a1::a2::a3::a4::a5::a6::a7::a8::a9::b0::b1::b2::b3::b4::b5::b6::b7::b8::b9::d0::d1::d2::d3::d4::d5::d6::d7::d8::d9::e0::e1::e2::e3::e4::e5::e6::e7::e8::e9::f0::f1::f2::f3::f4::f5::[]), h) = (a_mov a4 h (.c (fun t45 h1 => a_mov t45 h1 (.c (fun t2 h2 => Q .normal ((a0::a1::t2::a3::a4::a5::a6::a7::a8::a9::b0::b1::b2::b3::b4::b5::b6::b7::b8::b9::d0::d1::d2::d3::d4::d5::d6::d7::d8::d9::e0::e1::e2::e3::e4::e5::e6::e7::e8::e9::f0::f1::f2::f3::f4::t45::[]), h2)) ())) ())) := by rw [awp_eq]; kernel_rfl
noncomputable def c24_47 : Code := cr c24_45
theorem w24_47 : awp X n c24_47 Q st = Q .ret st := by rw [awp_eq]; kernel_rfl
theorem w24_45 : awp X n c24_45 Q st = awp X n c24_46 (thenQ (awp X n c24_47 Q) Q) st := by rw [awp_eq]; kernel_rfl
theorem w24_20 : awp X n c24_20 Q st = awp X n c24_21 (thenQ (awp X n c24_45 Q) Q) st := by rw [awp_eq]; kernel_rfl
theorem w24_14 : awp X n c24_14 Q st = awp X n c24_15 (thenQ (awp X n c24_20 Q) Q) st := by rw [awp_eq]; kernel_rfl
theorem w24_12 : awp X n c24_12 Q st = awp X n c24_13 (thenQ (awp X n c24_14 Q) Q) st := by rw [awp_eq]; kernel_rfl
theorem w24_4 : awp X n c24_4 Q st = awp X n c24_5 (thenQ (awp X n c24_12 Q) Q) st := by rw [awp_eq]; kernel_rfl
theorem w24_2 : awp X n c24_2 Q st = awp X n c24_3 (thenQ (awp X n c24_4 Q) Q) st := by rw [awp_eq]; kernel_rfl
theorem w24_0 : awp X n c24_0 Q st = awp X n c24_1 (thenQ (awp X n c24_2 Q) Q) st := by rw [awp_eq]; kernel_rfl
theorem q24_ret : retQ X Try.f24 K .ret ((a0::a1::a2::a3::a4::a5::a6::a7::a8::a9::b0::b1::b2::b3::b4::b5::b6::b7::b8::b9::d0::d1::d2::d3::d4::d5::d6::d7::d8::d9::e0::e1::e2::e3::e4::e5::e6::e7::e8::e9::f0::f1::f2::f3::f4::f5::[]), h) = (K.K a2 h) := by kernel_rfl
theorem q24_normal : retQ X Try.f24 K .normal ((a0::a1::a2::a3::a4::a5::a6::a7::a8::a9::b0::b1::b2::b3::b4::b5::b6::b7::b8::b9::d0::d1::d2::d3::d4::d5::d6::d7::d8::d9::e0::e1::e2::e3::e4::e5::e6::e7::e8::e9::f0::f1::f2::f3::f4::f5::[]), h) = (K.K a2 h) := by kernel_rfl
theorem i24 (H : awp X h.length c24_0 (retQ X Try.f24 K) ((a0::.bad::.bad::.bad::.bad::.bad::.bad::.bad::.bad::.bad::.bad::.bad::.bad::.bad::.bad::.bad::.bad::.bad::.bad::.bad::.bad::.bad::.bad::.bad::.bad::.bad::.bad::.bad::.bad::.bad::.bad::.bad::.bad::.bad::.bad::.bad::.bad::.bad::.bad::.bad::.bad::.bad::.bad::.bad::.bad::.bad::[]), h)) : ACall X 24 [a0] h K := acall_intro (fn := Try.f24) (by kernel_rfl) (by kernel_rfl) (by kernel_rfl) H
noncomputable def R24 := And.intro (And.intro (And.intro (And.intro (And.intro (w24_1) (And.intro w24_3 w24_6)) (And.intro (w24_9) (And.intro w24_10 w24_8))) (And.intro (And.intro (w24_11) (And.intro w24_7 w24_5)) (And.intro (w24_13) (And.intro w24_16 w24_18)))) (And.intro (And.intro (And.intro (w24_19) (And.intro w24_17 w24_15)) (And.intro (w24_22) (And.intro w24_27 w24_29))) (And.intro (And.intro (w24_30) (And.intro w24_28 w24_26)) (And.intro (And.intro w24_35 w24_38) (And.intro w24_40 w24_41))))) (And.intro (And.intro (And.intro (And.intro (w24_39) (And.intro w24_37 w24_42)) (And.intro (w24_36) (And.intro w24_34 w24_43))) (And.intro (And.intro (w24_33) (And.intro w24_32 w24_44)) (And.intro (w24_31) (And.intro w24_25 w24_24)))) (And.intro (And.intro (And.intro (w24_23) (And.intro w24_21 w24_46)) (And.intro (w24_47) (And.intro w24_45 w24_20))) (And.intro (And.intro (w24_14) (And.intro w24_12 w24_4)) (And.intro (And.intro w24_2 w24_0) (And.intro q24_ret q24_normal)))))
/-! function 26: sindri/leb.put -/
noncomputable def c26_0 : Code := bodyOf Try.f26
noncomputable def c26_1 : Code := cl c26_0
theorem w26_1 : awp X n c26_1 Q ((a0::a1::a2::a3::a4::a5::a6::a7::a8::a9::b0::b1::b2::b3::b4::b5::b6::b7::b8::b9::d0::d1::d2::d3::d4::d5::d6::d7::d8::[]), h) = (a_box a0 h (.c (fun t2 h1 => a_mov (.v (.slice none 0 0)) h1 (.c (fun t4 h2 => Q .normal ((a0::a1::t2::a3::t4::a5::a6::a7::a8::a9::b0::b1::b2::b3::b4::b5::b6::b7::b8::b9::d0::d1::d2::d3::d4::d5::d6::d7::d8::[]), h2)) ())) ())) := by rw [awp_eq]; kernel_rfl
noncomputable def c26_2 : Code := cr c26_0
noncomputable def c26_3 : Code := cl c26_2
theorem w26_3 : awp X n c26_3 Q ((a0::a1::a2::a3::a4::a5::a6::a7::a8::a9::b0::b1::b2::b3::b4::b5::b6::b7::b8::b9::d0::d1::d2::d3::d4::d5::d6::d7::d8::[]), h) = (a_load 1 false a2 h (.c (fun t7 h1 => a_len t7 h1 (.c (fun t8 h2 => a_mov t8 h2 (.c (fun t5 h3 => Q .normal ((a0::a1::a2::a3::a4::t5::a6::t7::t8::a9::b0::b1::b2::b3::b4::b5::b6::b7::b8::b9::d0::d1::d2::d3::d4::d5::d6::d7::d8::[]), h3)) ())) ())) ())) := by rw [awp_eq]; kernel_rfl
noncomputable def c26_4 : Code := cr c26_2
noncomputable def c26_5 : Code := cl c26_4
noncomputable def c26_6 : Code := cl c26_5
theorem w26_6 : awp X n c26_6 Q ((a0::a1::a2::a3::a4::a5::a6::a7::a8::a9::b0::b1::b2::b3::b4::b5::b6::b7::b8::b9::d0::d1::d2::d3::d4::d5::d6::d7::d8::[]), h) = (a_mov a1 h (.c (fun t9 h1 => Q .normal ((a0::a1::a2::a3::a4::a5::a6::a7::a8::t9::b0::b1::b2::b3::b4::b5::b6::b7::b8::b9::d0::d1::d2::d3::d4::d5::d6::d7::d8::[]), h1)) ())) := by rw [awp_eq]; kernel_rfl
noncomputable def c26_7 : Code := cr c26_5
noncomputable def c26_8 : Code := cl c26_7
noncomputable def c26_9 : Code := cl c26_8
theorem w26_9 : awp X n c26_9 Q ((a0::a1::a2::a3::a4::a5::a6::a7::a8::a9::b0::b1::b2::b3::b4::b5::b6::b7::b8::b9::d0::d1::d2::d3::d4::d5::d6::d7::d8::[]), h) = (a_mov b0 h (.c (fun t6 h1 => Q .normal ((a0::a1::a2::a3::a4::a5::t6::a7::a8::a9::b0::b1::b2::b3::b4::b5::b6::b7::b8::b9::d0::d1::d2::d3::d4::d5::d6::d7::d8::[]), h1)) ())) := by rw [awp_eq]; kernel_rfl
noncomputable def c26_10 : Code := cr c26_8
noncomputable def c26_11 : Code := cl c26_10
theorem w26_11 : awp X n c26_11 Q ((a0::a1::a2::a3::a4::a5::a6::a7::a8::a9::b0::b1::b2::b3::b4::b5::b6::b7::b8::b9::d0::d1::d2::d3::d4::d5::d6::d7::d8::[]), h) = (a_load 1 false a2 h (.c (fun t11 h1 => a_mov a6 h1 (.c (fun t12 h2 => a_bin .or t12 (.v (.int .u8 128)) h2 (.c (fun t13 h3 => a_lit 1 1 [.v (.int .u8 0)] [(0, 1, t13)] h3 (.c (fun t14 h4 => a_app 1 1 t11 t14 h4 (.c (fun t15 h5 => a_store 1 a2 t15 h5 (.c (fun _v5 h6 => Q .normal ((a0::a1::a2::a3::a4::a5::a6::a7::a8::a9::b0::t11::t12::t13::t14::t15::b6::b7::b8::b9::d0::d1::d2::d3::d4::d5::d6::d7::d8::[]), h6)) ())) ())) ())) ())) ())) ())) := by rw [awp_eq]; kernel_rfl
theorem w26_10 : awp X n c26_10 Q st = awp X n c26_11 (blockQ 1 Q) st := by rw [awp_eq]; kernel_rfl
theorem w26_8 : awp X n c26_8 Q st = ARange X n (.tmp 9) #[10] c26_9 c26_10 Q st := by rw [awp_eq]; kernel_rfl
theorem w26_7 : awp X n c26_7 Q st = awp X n c26_8 (blockQ 0 Q) st := by rw [awp_eq]; kernel_rfl
theorem w26_5 : awp X n c26_5 Q st = awp X n c26_6 (thenQ (awp X n c26_7 Q) Q) st := by rw [awp_eq]; kernel_rfl
noncomputable def c26_12 : Code := cr c26_4
noncomputable def c26_13 : Code := cl c26_12
noncomputable def c26_14 : Code := cl c26_13
theorem w26_14 : awp X n c26_14 Q ((a0::a1::a2::a3::a4::a5::a6::a7::a8::a9::b0::b1::b2::b3::b4::b5::b6::b7::b8::b9::d0::d1::d2::d3::d4::d5::d6::d7::d8::[]), h) = (a_load 1 false a2 h (.c (fun t16 h1 => a_len t16 h1 (.c (fun t17 h2 => a_mov a5 h2 (.c (fun t18 h3 => a_bin .gtr t17 t18 h3 (.c (fun t19 h4 => Q .normal ((a0::a1::a2::a3::a4::a5::a6::a7::a8::a9::b0::b1::b2::b3::b4::b5::t16::t17::t18::t19::d0::d1::d2::d3::d4::d5::d6::d7::d8::[]), h4)) ())) ())) ())) ())) := by rw [awp_eq]; kernel_rfl
noncomputable def c26_15 : Code := cr c26_13
noncomputable def c26_16 : Code := cl c26_15
theorem w26_16 : awp X n c26_16 Q ((a0::a1::a2::a3::a4::a5::a6::a7::a8::a9::b0::b1::b2::b3::b4::b5::b6::b7::b8::b9::d0::d1::d2::d3::d4::d5::d6::d7::d8::[]), h) = (a_load 1 false a2 h (.c (fun t20 h1 => a_load 1 false a2 h1 (.c (fun t21 h2 => a_len t21 h2 (.c (fun t22 h3 => a_bin .sub t22 (.v (.int .i64 1)) h3 (.c (fun t23 h4 => a_ia 1 t20 t23 h4 (.c (fun t24 h5 => a_load 1 false t24 h5 (.c (fun t25 h6 => a_bin .and t25 (.v (.int .u8 127)) h6 (.c (fun t26 h7 => a_ia 1 t20 t23 h7 (.c (fun t27 h8 => a_store 1 t27 t26 h8 (.c (fun _v8 h9 => Q .normal ((a0::a1::a2::a3::a4::a5::a6::a7::a8::a9::b0::b1::b2::b3::b4::b5::b6::b7::b8::b9::t20::t21::t22::t23::t24::t25::t26::t27::d8::[]), h9)) ())) ())) ())) ())) ())) ())) ())) ())) ())) := by rw [awp_eq]; kernel_rfl
noncomputable def c26_17 : Code := cr c26_15
theorem w26_17 : awp X n c26_17 Q st = Q .normal st := by rw [awp_eq]; kernel_rfl
theorem w26_15 : awp X n c26_15 Q ((a0::a1::a2::a3::a4::a5::a6::a7::a8::a9::b0::b1::b2::b3::b4::b5::b6::b7::b8::b9::d0::d1::d2::d3::d4::d5::d6::d7::d8::[]), h) = a_cond b9 (awp X n c26_16 Q ((a0::a1::a2::a3::a4::a5::a6::a7::a8::a9::b0::b1::b2::b3::b4::b5::b6::b7::b8::b9::d0::d1::d2::d3::d4::d5::d6::d7::d8::[]), h)) (awp X n c26_17 Q ((a0::a1::a2::a3::a4::a5::a6::a7::a8::a9::b0::b1::b2::b3::b4::b5::b6::b7::b8::b9::d0::d1::d2::d3::d4::d5::d6::d7::d8::[]), h)) := by rw [awp_eq]; kernel_rfl
theorem w26_13 : awp X n c26_13 Q st = awp X n c26_14 (thenQ (awp X n c26_15 Q) Q) st := by rw [awp_eq]; kernel_rfl
noncomputable def c26_18 : Code := cr c26_12
noncomputable def c26_19 : Code := cl c26_18
theorem w26_19 : awp X n c26_19 Q ((a0::a1::a2::a3::a4::a5::a6::a7::a8::a9::b0::b1::b2::b3::b4::b5::b6::b7::b8::b9::d0::d1::d2::d3::d4::d5::d6::d7::d8::[]), h) = (a_load 1 false a2 h (.c (fun t28 h1 => a_mov t28 h1 (.c (fun t4 h2 => Q .normal ((a0::a1::a2::a3::t4::a5::a6::a7::a8::a9::b0::b1::b2::b3::b4::b5::b6::b7::b8::b9::d0::d1::d2::d3::d4::d5::d6::d7::t28::[]), h2)) ())) ())) := by rw [awp_eq]; kernel_rfl
noncomputable def c26_20 : Code := cr c26_18
theorem w26_20 : awp X n c26_20 Q st = Q .ret st := by rw [awp_eq]; kernel_rfl
theorem w26_18 : awp X n c26_18 Q st = awp X n c26_19 (thenQ (awp X n c26_20 Q) Q) st := by rw [awp_eq]; kernel_rfl
theorem w26_12 : awp X n c26_12 Q st = awp X n c26_13 (thenQ (awp X n c26_18 Q) Q) st := by rw [awp_eq]; kernel_rfl
theorem w26_4 : awp X n c26_4 Q st = awp X n c26_5 (thenQ (awp X n c26_12 Q) Q) st := by rw [awp_eq]; kernel_rfl
theorem w26_2 : awp X n c26_2 Q st = awp X n c26_3 (thenQ (awp X n c26_4 Q) Q) st := by rw [awp_eq]; kernel_rfl
theorem w26_0 : awp X n c26_0 Q st = awp X n c26_1 (thenQ (awp X n c26_2 Q) Q) st := by rw [awp_eq]; kernel_rfl
theorem q26_ret : retQ X Try.f26 K .ret ((a0::a1::a2::a3::a4::a5::a6::a7::a8::a9::b0::b1::b2::b3::b4::b5::b6::b7::b8::b9::d0::d1::d2::d3::d4::d5::d6::d7::d8::[]), h) = (K.K a4 h) := by kernel_rfl
theorem q26_normal : retQ X Try.f26 K .normal ((a0::a1::a2::a3::a4::a5::a6::a7::a8::a9::b0::b1::b2::b3::b4::b5::b6::b7::b8::b9::d0::d1::d2::d3::d4::d5::d6::d7::d8::[]), h) = (K.K a4 h) := by kernel_rfl
theorem i26 (H : awp X h.length c26_0 (retQ X Try.f26 K) ((a0::a1::.bad::.bad::.bad::.bad::.bad::.bad::.bad::.bad::.bad::.bad::.bad::.bad::.bad::.bad::.bad::.bad::.bad::.bad::.bad::.bad::.bad::.bad::.bad::.bad::.bad::.bad::.bad::[]), h)) : ACall X 26 [a0, a1] h K := acall_intro (fn := Try.f26) (by kernel_rfl) (by kernel_rfl) (by kernel_rfl) H
noncomputable def R26 := And.intro (And.intro (And.intro (And.intro w26_1 w26_3) (And.intro (w26_6) (And.intro w26_9 w26_11))) (And.intro (And.intro (w26_10) (And.intro w26_8 w26_7)) (And.intro (w26_5) (And.intro w26_14 w26_16)))) (And.intro (And.intro (And.intro (w26_17) (And.intro w26_15 w26_13)) (And.intro (w26_19) (And.intro w26_20 w26_18))) (And.intro (And.intro (w26_12) (And.intro w26_4 w26_2)) (And.intro (w26_0) (And.intro q26_ret q26_normal))))
/-! function 27: sindri/leb.signed -/
noncomputable def c27_0 : Code := bodyOf Try.f27
noncomputable def c27_1 : Code := cl c27_0
theorem w27_1 : awp X n c27_1 Q ([a0,a1,a2,a3], h) = (a_box a0 h (.c (fun t1 h1 => a_mov (.v .nilFunc) h1 (.c (fun t2 h2 => Q .normal ([a0,t1,t2,a3], h2)) ())) ())) := by rw [awp_eq]; kernel_rfl
noncomputable def c27_2 : Code := cr c27_0
noncomputable def c27_3 : Code := cl c27_2
theorem w27_3 : awp X n c27_3 Q ([a0,a1,a2,a3], h) = (a_mkf (.func 34) [] [a1] h (.c (fun t3 h1 => a_mov t3 h1 (.c (fun t2 h2 => Q .normal ([a0,a1,t2,t3], h2)) ())) ())) := by rw [awp_eq]; kernel_rfl
noncomputable def c27_4 : Code := cr c27_2
theorem w27_4 : awp X n c27_4 Q st = Q .ret st := by rw [awp_eq]; kernel_rfl
theorem w27_2 : awp X n c27_2 Q st = awp X n c27_3 (thenQ (awp X n c27_4 Q) Q) st := by rw [awp_eq]; kernel_rfl
theorem w27_0 : awp X n c27_0 Q st = awp X n c27_1 (thenQ (awp X n c27_2 Q) Q) st := by rw [awp_eq]; kernel_rfl
theorem q27_ret : retQ X Try.f27 K .ret ([a0,a1,a2,a3], h) = (K.K a2 h) := by kernel_rfl
theorem q27_normal : retQ X Try.f27 K .normal ([a0,a1,a2,a3], h) = (K.K a2 h) := by kernel_rfl
theorem i27 (H : awp X h.length c27_0 (retQ X Try.f27 K) ([a0,.bad,.bad,.bad], h)) : ACall X 27 [a0] h K := acall_intro (fn := Try.f27) (by kernel_rfl) (by kernel_rfl) (by kernel_rfl) H
noncomputable def R27 := And.intro (And.intro (w27_1) (And.intro w27_3 w27_4)) (And.intro (And.intro w27_2 w27_0) (And.intro q27_ret q27_normal))
/-! function 28: sindri/leb.unsigned -/
noncomputable def c28_0 : Code := bodyOf Try.f28
noncomputable def c28_1 : Code := cl c28_0
theorem w28_1 : awp X n c28_1 Q ([a0,a1,a2,a3], h) = (a_box a0 h (.c (fun t1 h1 => a_mov (.v .nilFunc) h1 (.c (fun t2 h2 => Q .normal ([a0,t1,t2,a3], h2)) ())) ())) := by rw [awp_eq]; kernel_rfl
noncomputable def c28_2 : Code := cr c28_0
noncomputable def c28_3 : Code := cl c28_2
theorem w28_3 : awp X n c28_3 Q ([a0,a1,a2,a3], h) = (a_mkf (.func 35) [] [a1] h (.c (fun t3 h1 => a_mov t3 h1 (.c (fun t2 h2 => Q .normal ([a0,a1,t2,t3], h2)) ())) ())) := by rw [awp_eq]; kernel_rfl
noncomputable def c28_4 : Code := cr c28_2
theorem w28_4 : awp X n c28_4 Q st = Q .ret st := by rw [awp_eq]; kernel_rfl
theorem w28_2 : awp X n c28_2 Q st = awp X n c28_3 (thenQ (awp X n c28_4 Q) Q) st := by rw [awp_eq]; kernel_rfl
theorem w28_0 : awp X n c28_0 Q st = awp X n c28_1 (thenQ (awp X n c28_2 Q) Q) st := by rw [awp_eq]; kernel_rfl
theorem q28_ret : retQ X Try.f28 K .ret ([a0,a1,a2,a3], h) = (K.K a2 h) := by kernel_rfl
theorem q28_normal : retQ X Try.f28 K .normal ([a0,a1,a2,a3], h) = (K.K a2 h) := by kernel_rfl
theorem i28 (H : awp X h.length c28_0 (retQ X Try.f28 K) ([a0,.bad,.bad,.bad], h)) : ACall X 28 [a0] h K := acall_intro (fn := Try.f28) (by kernel_rfl) (by kernel_rfl) (by kernel_rfl) H
noncomputable def R28 := And.intro (And.intro (w28_1) (And.intro w28_3 w28_4)) (And.intro (And.intro w28_2 w28_0) (And.intro q28_ret q28_normal))
/-! function 29: sindri/leb.seven -/
noncomputable def c29_0 : Code := bodyOf Try.f29
noncomputable def c29_1 : Code := cl c29_0
theorem w29_1 : awp X n c29_1 Q ((a0::a1::a2::a3::a4::a5::a6::a7::a8::a9::b0::b1::b2::b3::b4::b5::b6::b7::b8::b9::d0::d1::d2::d3::d4::d5::d6::d7::[]), h) = (a_alloc [.v (.int .u8 0), .v (.int .u8 0), .v (.int .u8 0), .v (.int .u8 0), .v (.int .u8 0), .v (.int .u8 0), .v (.int .u8 0), .v (.int .u8 0), .v (.int .u8 0), .v (.int .u8 0)] h (.c (fun t2 h1 => a_mov (.v (.int .i64 0)) h1 (.c (fun t3 h2 => a_mov (.v (.bool false)) h2 (.c (fun t4 h3 => Q .normal ((a0::a1::t2::t3::t4::a5::a6::a7::a8::a9::b0::b1::b2::b3::b4::b5::b6::b7::b8::b9::d0::d1::d2::d3::d4::d5::d6::d7::[]), h3)) ())) ())) ())) := by rw [awp_eq]; kernel_rfl
noncomputable def c29_2 : Code := cr c29_0
noncomputable def c29_3 : Code := cl c29_2
noncomputable def c29_4 : Code := cl c29_3
noncomputable def c29_5 : Code := cl c29_4
noncomputable def c29_6 : Code := cl c29_5
noncomputable def c29_7 : Code := cl c29_6
theorem w29_7 : awp X n c29_7 Q ((a0::a1::a2::a3::a4::a5::a6::a7::a8::a9::b0::b1::b2::b3::b4::b5::b6::b7::b8::b9::d0::d1::d2::d3::d4::d5::d6::d7::[]), h) = (a_mov a3 h (.c (fun t6 h1 => a_bin .lss t6 (.v (.int .i64 10)) h1 (.c (fun t7 h2 => Q .normal ((a0::a1::a2::a3::a4::a5::t6::t7::a8::a9::b0::b1::b2::b3::b4::b5::b6::b7::b8::b9::d0::d1::d2::d3::d4::d5::d6::d7::[]), h2)) ())) ())) := by rw [awp_eq]; kernel_rfl
noncomputable def c29_8 : Code := cr c29_6
noncomputable def c29_9 : Code := cl c29_8
theorem w29_9 : awp X n c29_9 Q st = Q .normal st := by rw [awp_eq]; kernel_rfl
noncomputable def c29_10 : Code := cr c29_8
theorem w29_10 : awp X n c29_10 Q st = Q (.exit 0) st := by rw [awp_eq]; kernel_rfl
theorem w29_8 : awp X n c29_8 Q ((a0::a1::a2::a3::a4::a5::a6::a7::a8::a9::b0::b1::b2::b3::b4::b5::b6::b7::b8::b9::d0::d1::d2::d3::d4::d5::d6::d7::[]), h) = a_cond a7 (awp X n c29_9 Q ((a0::a1::a2::a3::a4::a5::a6::a7::a8::a9::b0::b1::b2::b3::b4::b5::b6::b7::b8::b9::d0::d1::d2::d3::d4::d5::d6::d7::[]), h)) (awp X n c29_10 Q ((a0::a1::a2::a3::a4::a5::a6::a7::a8::a9::b0::b1::b2::b3::b4::b5::b6::b7::b8::b9::d0::d1::d2::d3::d4::d5::d6::d7::[]), h)) := by rw [awp_eq]; kernel_rfl
theorem w29_6 : awp X n c29_6 Q st = awp X n c29_7 (thenQ (awp X n c29_8 Q) Q) st := by rw [awp_eq]; kernel_rfl
noncomputable def c29_11 : Code := cr c29_5
noncomputable def c29_12 : Code := cl c29_11
noncomputable def c29_13 : Code := cl c29_12
theorem w29_13 : awp X n c29_13 Q ((a0::a1::a2::a3::a4::a5::a6::a7::a8::a9::b0::b1::b2::b3::b4::b5::b6::b7::b8::b9::d0::d1::d2::d3::d4::d5::d6::d7::[]), h) = (a_mov a0 h (.c (fun t8 h1 => ACall X 36 [t8] h1 (.c (fun t9 h2 => a_mov t9 h2 (.c (fun t5 h3 => Q .normal ((a0::a1::a2::a3::a4::t5::a6::a7::t8::t9::b0::b1::b2::b3::b4::b5::b6::b7::b8::b9::d0::d1::d2::d3::d4::d5::d6::d7::[]), h3)) ())) ())) ())) := by rw [awp_eq]; kernel_rfl
noncomputable def c29_14 : Code := cr c29_12
noncomputable def c29_15 : Code := cl c29_14
noncomputable def c29_16 : Code := cl c29_15
theorem w29_16 : awp X n c29_16 Q ((a0::a1::a2::a3::a4::a5::a6::a7::a8::a9::b0::b1::b2::b3::b4::b5::b6::b7::b8::b9::d0::d1::d2::d3::d4::d5::d6::d7::[]), h) = (a_mov a0 h (.c (fun t10 h1 => ACall X 15 [t10] h1 (.c (fun t11 h2 => a_bin .neq t11 (.v (.int .i64 0)) h2 (.c (fun t12 h3 => Q .normal ((a0::a1::a2::a3::a4::a5::a6::a7::a8::a9::t10::t11::t12::b3::b4::b5::b6::b7::b8::b9::d0::d1::d2::d3::d4::d5::d6::d7::[]), h3)) ())) ())) ())) := by rw [awp_eq]; kernel_rfl
noncomputable def c29_17 : Code := cr c29_15
noncomputable def c29_18 : Code := cl c29_17
noncomputable def c29_19 : Code := cl c29_18
theorem w29_19 : awp X n c29_19 Q ((a0::a1::a2::a3::a4::a5::a6::a7::a8::a9::b0::b1::b2::b3::b4::b5::b6::b7::b8::b9::d0::d1::d2::d3::d4::d5::d6::d7::[]), h) = (a_load 10 true a2 h (.c (fun t13 h1 => a_store 10 a2 t13 h1 (.c (fun _v1 h2 => a_mov (.v (.int .i64 0)) h2 (.c (fun t3 h3 => a_mov (.v (.bool false)) h3 (.c (fun t4 h4 => Q .normal ((a0::a1::a2::t3::t4::a5::a6::a7::a8::a9::b0::b1::b2::t13::b4::b5::b6::b7::b8::b9::d0::d1::d2::d3::d4::d5::d6::d7::[]), h4)) ())) ())) ())) ())) := by rw [awp_eq]; kernel_rfl
noncomputable def c29_20 : Code := cr c29_18
theorem w29_20 : awp X n c29_20 Q st = Q .ret st := by rw [awp_eq]; kernel_rfl
theorem w29_18 : awp X n c29_18 Q st = awp X n c29_19 (thenQ (awp X n c29_20 Q) Q) st := by rw [awp_eq]; kernel_rfl
noncomputable def c29_21 : Code := cr c29_17
theorem w29_21 : awp X n c29_21 Q st = Q .normal st := by rw [awp_eq]; kernel_rfl
theorem w29_17 : awp X n c29_17 Q ((a0::a1::a2::a3::a4::a5::a6::a7::a8::a9::b0::b1::b2::b3::b4::b5::b6::b7::b8::b9::d0::d1::d2::d3::d4::d5::d6::d7::[]), h) = a_cond b2 (awp X n c29_18 Q ((a0::a1::a2::a3::a4::a5::a6::a7::a8::a9::b0::b1::b2::b3::b4::b5::b6::b7::b8::b9::d0::d1::d2::d3::d4::d5::d6::d7::[]), h)) (awp X n c29_21 Q ((a0::a1::a2::a3::a4::a5::a6::a7::a8::a9::b0::b1::b2::b3::b4::b5::b6::b7::b8::b9::d0::d1::d2::d3::d4::d5::d6::d7::[]), h)) := by rw [awp_eq]; kernel_rfl
theorem w29_15 : awp X n c29_15 Q st = awp X n c29_16 (thenQ (awp X n c29_17 Q) Q) st := by rw [awp_eq]; kernel_rfl
noncomputable def c29_22 : Code := cr c29_14
noncomputable def c29_23 : Code := cl c29_22
theorem w29_23 : awp X n c29_23 Q ((a0::a1::a2::a3::a4::a5::a6::a7::a8::a9::b0::b1::b2::b3::b4::b5::b6::b7::b8::b9::d0::d1::d2::d3::d4::d5::d6::d7::[]), h) = (a_mov a3 h (.c (fun t14 h1 => a_mov a5 h1 (.c (fun t15 h2 => a_bin .and t15 (.v (.int .u64 127)) h2 (.c (fun t16 h3 => a_cint .u8 t16 h3 (.c (fun t17 h4 => a_iarr 10 1 a2 t14 h4 (.c (fun t18 h5 => a_store 1 t18 t17 h5 (.c (fun _v5 h6 => Q .normal ((a0::a1::a2::a3::a4::a5::a6::a7::a8::a9::b0::b1::b2::b3::t14::t15::t16::t17::t18::b9::d0::d1::d2::d3::d4::d5::d6::d7::[]), h6)) ())) ())) ())) ())) ())) ())) := by rw [awp_eq]; kernel_rfl
noncomputable def c29_24 : Code := cr c29_22
noncomputable def c29_25 : Code := cl c29_24
theorem w29_25 : awp X n c29_25 Q ((a0::a1::a2::a3::a4::a5::a6::a7::a8::a9::b0::b1::b2::b3::b4::b5::b6::b7::b8::b9::d0::d1::d2::d3::d4::d5::d6::d7::[]), h) = (a_mov a3 h (.c (fun t19 h1 => a_bin .add t19 (.v (.int .i64 1)) h1 (.c (fun t20 h2 => a_mov t20 h2 (.c (fun t3 h3 => Q .normal ((a0::a1::a2::t3::a4::a5::a6::a7::a8::a9::b0::b1::b2::b3::b4::b5::b6::b7::b8::t19::t20::d1::d2::d3::d4::d5::d6::d7::[]), h3)) ())) ())) ())) := by rw [awp_eq]; kernel_rfl
noncomputable def c29_26 : Code := cr c29_24
noncomputable def c29_27 : Code := cl c29_26
theorem w29_27 : awp X n c29_27 Q ((a0::a1::a2::a3::a4::a5::a6::a7::a8::a9::b0::b1::b2::b3::b4::b5::b6::b7::b8::b9::d0::d1::d2::d3::d4::d5::d6::d7::[]), h) = (a_mov a5 h (.c (fun t21 h1 => a_bin .lss t21 (.v (.int .u64 128)) h1 (.c (fun t22 h2 => Q .normal ((a0::a1::a2::a3::a4::a5::a6::a7::a8::a9::b0::b1::b2::b3::b4::b5::b6::b7::b8::b9::d0::t21::t22::d3::d4::d5::d6::d7::[]), h2)) ())) ())) := by rw [awp_eq]; kernel_rfl
noncomputable def c29_28 : Code := cr c29_26
noncomputable def c29_29 : Code := cl c29_28
noncomputable def c29_30 : Code := cl c29_29
theorem w29_30 : awp X n c29_30 Q ((a0::a1::a2::a3::a4::a5::a6::a7::a8::a9::b0::b1::b2::b3::b4::b5::b6::b7::b8::b9::d0::d1::d2::d3::d4::d5::d6::d7::[]), h) = (a_load 10 true a2 h (.c (fun t23 h1 => a_mov a3 h1 (.c (fun t24 h2 => a_store 10 a2 t23 h2 (.c (fun _v2 h3 => a_mov t24 h3 (.c (fun t3 h4 => a_mov (.v (.bool true)) h4 (.c (fun t4 h5 => Q .normal ((a0::a1::a2::t3::t4::a5::a6::a7::a8::a9::b0::b1::b2::b3::b4::b5::b6::b7::b8::b9::d0::d1::d2::t23::t24::d5::d6::d7::[]), h5)) ())) ())) ())) ())) ())) := by rw [awp_eq]; kernel_rfl
noncomputable def c29_31 : Code := cr c29_29
theorem w29_31 : awp X n c29_31 Q st = Q .ret st := by rw [awp_eq]; kernel_rfl
theorem w29_29 : awp X n c29_29 Q st = awp X n c29_30 (thenQ (awp X n c29_31 Q) Q) st := by rw [awp_eq]; kernel_rfl
noncomputable def c29_32 : Code := cr c29_28
theorem w29_32 : awp X n c29_32 Q st = Q .normal st := by rw [awp_eq]; kernel_rfl
theorem w29_28 : awp X n c29_28 Q ((a0::a1::a2::a3::a4::a5::a6::a7::a8::a9::b0::b1::b2::b3::b4::b5::b6::b7::b8::b9::d0::d1::d2::d3::d4::d5::d6::d7::[]), h) = a_cond d2 (awp X n c29_29 Q ((a0::a1::a2::a3::a4::a5::a6::a7::a8::a9::b0::b1::b2::b3::b4::b5::b6::b7::b8::b9::d0::d1::d2::d3::d4::d5::d6::d7::[]), h)) (awp X n c29_32 Q ((a0::a1::a2::a3::a4::a5::a6::a7::a8::a9::b0::b1::b2::b3::b4::b5::b6::b7::b8::b9::d0::d1::d2::d3::d4::d5::d6::d7::[]), h)) := by rw [awp_eq]; kernel_rfl
theorem w29_26 : awp X n c29_26 Q st = awp X n c29_27 (thenQ (awp X n c29_28 Q) Q) st := by rw [awp_eq]; kernel_rfl
theorem w29_24 : awp X n c29_24 Q st = awp X n c29_25 (thenQ (awp X n c29_26 Q) Q) st := by rw [awp_eq]; kernel_rfl
theorem w29_22 : awp X n c29_22 Q st = awp X n c29_23 (thenQ (awp X n c29_24 Q) Q) st := by rw [awp_eq]; kernel_rfl
theorem w29_14 : awp X n c29_14 Q st = awp X n c29_15 (thenQ (awp X n c29_22 Q) Q) st := by rw [awp_eq]; kernel_rfl
theorem w29_12 : awp X n c29_12 Q st = awp X n c29_13 (thenQ (awp X n c29_14 Q) Q) st := by rw [awp_eq]; kernel_rfl
theorem w29_11 : awp X n c29_11 Q st = awp X n c29_12 (blockQ 1 Q) st := by rw [awp_eq]; kernel_rfl
theorem w29_5 : awp X n c29_5 Q st = awp X n c29_6 (thenQ (awp X n c29_11 Q) Q) st := by rw [awp_eq]; kernel_rfl
theorem w29_4 : awp X n c29_4 Q st = ALoop X n c29_5 Q st := by rw [awp_eq]; kernel_rfl
theorem w29_3 : awp X n c29_3 Q st = awp X n c29_4 (blockQ 0 Q) st := by rw [awp_eq]; kernel_rfl
noncomputable def c29_33 : Code := cr c29_2
noncomputable def c29_34 : Code := cl c29_33
theorem w29_34 : awp X n c29_34 Q ((a0::a1::a2::a3::a4::a5::a6::a7::a8::a9::b0::b1::b2::b3::b4::b5::b6::b7::b8::b9::d0::d1::d2::d3::d4::d5::d6::d7::[]), h) = (a_mov a0 h (.c (fun t25 h1 => ACall X 30 [t25, (.v (.int .i64 11))] h1 (.c (fun t26 h2 => Q .normal ((a0::a1::a2::a3::a4::a5::a6::a7::a8::a9::b0::b1::b2::b3::b4::b5::b6::b7::b8::b9::d0::d1::d2::d3::d4::t25::t26::d7::[]), h2)) ())) ())) := by rw [awp_eq]; kernel_rfl
noncomputable def c29_35 : Code := cr c29_33
noncomputable def c29_36 : Code := cl c29_35
theorem w29_36 : awp X n c29_36 Q ((a0::a1::a2::a3::a4::a5::a6::a7::a8::a9::b0::b1::b2::b3::b4::b5::b6::b7::b8::b9::d0::d1::d2::d3::d4::d5::d6::d7::[]), h) = (a_load 10 true a2 h (.c (fun t27 h1 => a_store 10 a2 t27 h1 (.c (fun _v1 h2 => a_mov (.v (.int .i64 0)) h2 (.c (fun t3 h3 => a_mov (.v (.bool false)) h3 (.c (fun t4 h4 => Q .normal ((a0::a1::a2::t3::t4::a5::a6::a7::a8::a9::b0::b1::b2::b3::b4::b5::b6::b7::b8::b9::d0::d1::d2::d3::d4::d5::d6::t27::[]), h4)) ())) ())) ())) ())) := by rw [awp_eq]; kernel_rfl
noncomputable def c29_37 : Code := cr c29_35
theorem w29_37 : awp X n c29_37 Q st = Q .ret st := by rw [awp_eq]; kernel_rfl
theorem w29_35 : awp X n c29_35 Q st = awp X n c29_36 (thenQ (awp X n c29_37 Q) Q) st := by rw [awp_eq]; kernel_rfl
theorem w29_33 : awp X n c29_33 Q st = awp X n c29_34 (thenQ (awp X n c29_35 Q) Q) st := by rw [awp_eq]; kernel_rfl
theorem w29_2 : awp X n c29_2 Q st = awp X n c29_3 (thenQ (awp X n c29_33 Q) Q) st := by rw [awp_eq]; kernel_rfl
theorem w29_0 : awp X n c29_0 Q st = awp X n c29_1 (thenQ (awp X n c29_2 Q) Q) st := by rw [awp_eq]; kernel_rfl
theorem q29_ret : retQ X Try.f29 K .ret ((a0::a1::a2::a3::a4::a5::a6::a7::a8::a9::b0::b1::b2::b3::b4::b5::b6::b7::b8::b9::d0::d1::d2::d3::d4::d5::d6::d7::[]), h) = (a_load 10 true a2 h (.c (fun rr0 _ => K.K (.t [rr0, a3, a4]) h) ())) := by kernel_rfl
theorem q29_normal : retQ X Try.f29 K .normal ((a0::a1::a2::a3::a4::a5::a6::a7::a8::a9::b0::b1::b2::b3::b4::b5::b6::b7::b8::b9::d0::d1::d2::d3::d4::d5::d6::d7::[]), h) = (a_load 10 true a2 h (.c (fun rr0 _ => K.K (.t [rr0, a3, a4]) h) ())) := by kernel_rfl
theorem i29 (H : awp X h.length c29_0 (retQ X Try.f29 K) ((a0::.bad::.bad::.bad::.bad::.bad::.bad::.bad::.bad::.bad::.bad::.bad::.bad::.bad::.bad::.bad::.bad::.bad::.bad::.bad::.bad::.bad::.bad::.bad::.bad::.bad::.bad::.bad::[]), h)) : ACall X 29 [a0] h K := acall_intro (fn := Try.f29) (by kernel_rfl) (by kernel_rfl) (by kernel_rfl) H
noncomputable def R29 := And.intro (And.intro (And.intro (And.intro (And.intro w29_1 w29_7) (And.intro (w29_9) (And.intro w29_10 w29_8))) (And.intro (And.intro w29_6 w29_13) (And.intro (w29_16) (And.intro w29_19 w29_20)))) (And.intro (And.intro (And.intro w29_18 w29_21) (And.intro (w29_17) (And.intro w29_15 w29_23))) (And.intro (And.intro w29_25 w29_27) (And.intro (w29_30) (And.intro w29_31 w29_29))))) (And.intro (And.intro (And.intro (And.intro w29_32 w29_28) (And.intro (w29_26) (And.intro w29_24 w29_22))) (And.intro (And.intro w29_14 w29_12) (And.intro (w29_11) (And.intro w29_5 w29_4)))) (And.intro (And.intro (And.intro w29_3 w29_34) (And.intro (w29_36) (And.intro w29_37 w29_35))) (And.intro (And.intro w29_33 w29_2) (And.intro (w29_0) (And.intro q29_ret q29_normal)))))
/-! function 31: sindri/leb.whole -/
noncomputable def c31_0 : Code := bodyOf Try.f31
noncomputable def c31_1 : Code := cl c31_0
theorem w31_1 : awp X n c31_1 Q ((a0::a1::a2::a3::a4::a5::a6::a7::a8::a9::b0::b1::b2::b3::b4::b5::b6::b7::b8::b9::d0::[]), h) = (a_box a0 h (.c (fun t1 h1 => a_mov (.v (.int .u64 0)) h1 (.c (fun t2 h2 => Q .normal ((a0::t1::t2::a3::a4::a5::a6::a7::a8::a9::b0::b1::b2::b3::b4::b5::b6::b7::b8::b9::d0::[]), h2)) ())) ())) := by rw [awp_eq]; kernel_rfl
noncomputable def c31_2 : Code := cr c31_0
noncomputable def c31_3 : Code := cl c31_2
theorem w31_3 : awp X n c31_3 Q ((a0::a1::a2::a3::a4::a5::a6::a7::a8::a9::b0::b1::b2::b3::b4::b5::b6::b7::b8::b9::d0::[]), h) = (a_mov (.v (.int .u64 0)) h (.c (fun t3 h1 => Q .normal ((a0::a1::a2::t3::a4::a5::a6::a7::a8::a9::b0::b1::b2::b3::b4::b5::b6::b7::b8::b9::d0::[]), h1)) ())) := by rw [awp_eq]; kernel_rfl
noncomputable def c31_4 : Code := cr c31_2
noncomputable def c31_5 : Code := cl c31_4
noncomputable def c31_6 : Code := cl c31_5
theorem w31_6 : awp X n c31_6 Q ((a0::a1::a2::a3::a4::a5::a6::a7::a8::a9::b0::b1::b2::b3::b4::b5::b6::b7::b8::b9::d0::[]), h) = (a_load 10 true a1 h (.c (fun t6 h1 => a_mov (.v (.int .i64 0)) h1 (.c (fun t7 h2 => Q .normal ((a0::a1::a2::a3::a4::a5::t6::t7::a8::a9::b0::b1::b2::b3::b4::b5::b6::b7::b8::b9::d0::[]), h2)) ())) ())) := by rw [awp_eq]; kernel_rfl
noncomputable def c31_7 : Code := cr c31_5
noncomputable def c31_8 : Code := cl c31_7
noncomputable def c31_9 : Code := cl c31_8
noncomputable def c31_10 : Code := cl c31_9
theorem w31_10 : awp X n c31_10 Q ((a0::a1::a2::a3::a4::a5::a6::a7::a8::a9::b0::b1::b2::b3::b4::b5::b6::b7::b8::b9::d0::[]), h) = (a_bin .lss a7 (.v (.int .i64 10)) h (.c (fun t8 h1 => Q .normal ((a0::a1::a2::a3::a4::a5::a6::a7::t8::a9::b0::b1::b2::b3::b4::b5::b6::b7::b8::b9::d0::[]), h1)) ())) := by rw [awp_eq]; kernel_rfl
noncomputable def c31_11 : Code := cr c31_9
noncomputable def c31_12 : Code := cl c31_11
noncomputable def c31_13 : Code := cl c31_12
theorem w31_13 : awp X n c31_13 Q st = Q .normal st := by rw [awp_eq]; kernel_rfl
noncomputable def c31_14 : Code := cr c31_12
theorem w31_14 : awp X n c31_14 Q st = Q (.exit 0) st := by rw [awp_eq]; kernel_rfl
theorem w31_12 : awp X n c31_12 Q ((a0::a1::a2::a3::a4::a5::a6::a7::a8::a9::b0::b1::b2::b3::b4::b5::b6::b7::b8::b9::d0::[]), h) = a_cond a8 (awp X n c31_13 Q ((a0::a1::a2::a3::a4::a5::a6::a7::a8::a9::b0::b1::b2::b3::b4::b5::b6::b7::b8::b9::d0::[]), h)) (awp X n c31_14 Q ((a0::a1::a2::a3::a4::a5::a6::a7::a8::a9::b0::b1::b2::b3::b4::b5::b6::b7::b8::b9::d0::[]), h)) := by rw [awp_eq]; kernel_rfl
noncomputable def c31_15 : Code := cr c31_11
noncomputable def c31_16 : Code := cl c31_15
noncomputable def c31_17 : Code := cl c31_16
noncomputable def c31_18 : Code := cl c31_17
theorem w31_18 : awp X n c31_18 Q ((a0::a1::a2::a3::a4::a5::a6::a7::a8::a9::b0::b1::b2::b3::b4::b5::b6::b7::b8::b9::d0::[]), h) = (a_mov a7 h (.c (fun t9 h1 => a_ixa 10 1 false a6 a7 h1 (.c (fun t10 h2 => a_mov t9 h2 (.c (fun t4 h3 => a_mov t10 h3 (.c (fun t5 h4 => Q .normal ((a0::a1::a2::a3::t4::t5::a6::a7::a8::t9::t10::b1::b2::b3::b4::b5::b6::b7::b8::b9::d0::[]), h4)) ())) ())) ())) ())) := by rw [awp_eq]; kernel_rfl
noncomputable def c31_19 : Code := cr c31_17
theorem w31_19 : awp X n c31_19 Q ((a0::a1::a2::a3::a4::a5::a6::a7::a8::a9::b0::b1::b2::b3::b4::b5::b6::b7::b8::b9::d0::[]), h) = (a_mov a3 h (.c (fun t11 h1 => a_mov a5 h1 (.c (fun t12 h2 => a_cint .u64 t12 h2 (.c (fun t13 h3 => a_mov a4 h3 (.c (fun t14 h4 => a_bin .mul (.v (.int .i64 7)) t14 h4 (.c (fun t15 h5 => a_cint .u64 t15 h5 (.c (fun t16 h6 => a_bin .shl t13 t16 h6 (.c (fun t17 h7 => a_bin .or t11 t17 h7 (.c (fun t18 h8 => a_mov t18 h8 (.c (fun t3 h9 => Q .normal ((a0::a1::a2::t3::a4::a5::a6::a7::a8::a9::b0::t11::t12::t13::t14::t15::t16::t17::t18::b9::d0::[]), h9)) ())) ())) ())) ())) ())) ())) ())) ())) ())) := by rw [awp_eq]; kernel_rfl
theorem w31_17 : awp X n c31_17 Q st = awp X n c31_18 (thenQ (awp X n c31_19 Q) Q) st := by rw [awp_eq]; kernel_rfl
theorem w31_16 : awp X n c31_16 Q st = awp X n c31_17 (blockQ 1 Q) st := by rw [awp_eq]; kernel_rfl
noncomputable def c31_20 : Code := cr c31_15
theorem w31_20 : awp X n c31_20 Q ((a0::a1::a2::a3::a4::a5::a6::a7::a8::a9::b0::b1::b2::b3::b4::b5::b6::b7::b8::b9::d0::[]), h) = (a_bin .add a7 (.v (.int .i64 1)) h (.c (fun t19 h1 => a_mov t19 h1 (.c (fun t7 h2 => Q .normal ((a0::a1::a2::a3::a4::a5::a6::t7::a8::a9::b0::b1::b2::b3::b4::b5::b6::b7::b8::t19::d0::[]), h2)) ())) ())) := by rw [awp_eq]; kernel_rfl
theorem w31_15 : awp X n c31_15 Q st = awp X n c31_16 (thenQ (awp X n c31_20 Q) Q) st := by rw [awp_eq]; kernel_rfl
theorem w31_11 : awp X n c31_11 Q st = awp X n c31_12 (thenQ (awp X n c31_15 Q) Q) st := by rw [awp_eq]; kernel_rfl
theorem w31_9 : awp X n c31_9 Q st = awp X n c31_10 (thenQ (awp X n c31_11 Q) Q) st := by rw [awp_eq]; kernel_rfl
theorem w31_8 : awp X n c31_8 Q st = ALoop X n c31_9 Q st := by rw [awp_eq]; kernel_rfl
theorem w31_7 : awp X n c31_7 Q st = awp X n c31_8 (blockQ 0 Q) st := by rw [awp_eq]; kernel_rfl
theorem w31_5 : awp X n c31_5 Q st = awp X n c31_6 (thenQ (awp X n c31_7 Q) Q) st := by rw [awp_eq]; kernel_rfl
noncomputable def c31_21 : Code := cr c31_4
noncomputable def c31_22 : Code := cl c31_21
theorem w31_22 : awp X n c31_22 Q ((a0::a1::a2::a3::a4::a5::a6::a7::a8::a9::b0::b1::b2::b3::b4::b5::b6::b7::b8::b9::d0::[]), h) = (a_mov a3 h (.c (fun t20 h1 => a_mov t20 h1 (.c (fun t2 h2 => Q .normal ((a0::a1::t2::a3::a4::a5::a6::a7::a8::a9::b0::b1::b2::b3::b4::b5::b6::b7::b8::b9::t20::[]), h2)) ())) ())) := by rw [awp_eq]; kernel_rfl
noncomputable def c31_23 : Code := cr c31_21
theorem w31_23 : awp X n c31_23 Q st = Q .ret st := by rw [awp_eq]; kernel_rfl
theorem w31_21 : awp X n c31_21 Q st = awp X n c31_22 (thenQ (awp X n c31_23 Q) Q) st := by rw [awp_eq]; kernel_rfl
theorem w31_4 : awp X n c31_4 Q st = awp X n c31_5 (thenQ (awp X n c31_21 Q) Q) st := by rw [awp_eq]; kernel_rfl
theorem w31_2 : awp X n c31_2 Q st = awp X n c31_3 (thenQ (awp X n c31_4 Q) Q) st := by rw [awp_eq]; kernel_rfl
theorem w31_0 : awp X n c31_0 Q st = awp X n c31_1 (thenQ (awp X n c31_2 Q) Q) st := by rw [awp_eq]; kernel_rfl
theorem q31_ret : retQ X Try.f31 K .ret ((a0::a1::a2::a3::a4::a5::a6::a7::a8::a9::b0::b1::b2::b3::b4::b5::b6::b7::b8::b9::d0::[]), h) = (K.K a2 h) := by kernel_rfl
theorem q31_normal : retQ X Try.f31 K .normal ((a0::a1::a2::a3::a4::a5::a6::a7::a8::a9::b0::b1::b2::b3::b4::b5::b6::b7::b8::b9::d0::[]), h) = (K.K a2 h) := by kernel_rfl
theorem i31 (H : awp X h.length c31_0 (retQ X Try.f31 K) ((a0::.bad::.bad::.bad::.bad::.bad::.bad::.bad::.bad::.bad::.bad::.bad::.bad::.bad::.bad::.bad::.bad::.bad::.bad::.bad::.bad::[]), h)) : ACall X 31 [a0] h K := acall_intro (fn := Try.f31) (by kernel_rfl) (by kernel_rfl) (by kernel_rfl) H
noncomputable def R31 := And.intro (And.intro (And.intro (And.intro (w31_1) (And.intro w31_3 w31_6)) (And.intro (w31_10) (And.intro w31_13 w31_14))) (And.intro (And.intro (w31_12) (And.intro w31_18 w31_19)) (And.intro (And.intro w31_17 w31_16) (And.intro w31_20 w31_15)))) (And.intro (And.intro (And.intro (w31_11) (And.intro w31_9 w31_8)) (And.intro (w31_7) (And.intro w31_5 w31_22))) (And.intro (And.intro (w31_23) (And.intro w31_21 w31_4)) (And.intro (And.intro w31_2 w31_0) (And.intro q31_ret q31_normal))))
/-! function 32: sindri/sindriref02.parts -/
noncomputable def c32_0 : Code := bodyOf Try.f32
noncomputable def c32_1 : Code := cl c32_0
theorem w32_1 : awp X n c32_1 Q ((a0::a1::a2::a3::a4::a5::a6::a7::a8::a9::b0::b1::b2::b3::b4::b5::b6::b7::b8::b9::d0::d1::d2::d3::d4::d5::d6::[]), h) = (a_mov (.v (.slice none 0 0)) h (.c (fun t2 h1 => Q .normal ((a0::a1::t2::a3::a4::a5::a6::a7::a8::a9::b0::b1::b2::b3::b4::b5::b6::b7::b8::b9::d0::d1::d2::d3::d4::d5::d6::[]), h1)) ())) := by rw [awp_eq]; kernel_rfl
noncomputable def c32_2 : Code := cr c32_0
noncomputable def c32_3 : Code := cl c32_2
theorem w32_3 : awp X n c32_3 Q ((a0::a1::a2::a3::a4::a5::a6::a7::a8::a9::b0::b1::b2::b3::b4::b5::b6::b7::b8::b9::d0::d1::d2::d3::d4::d5::d6::[]), h) = (a_mov (.v (.slice none 0 0)) h (.c (fun t3 h1 => Q .normal ((a0::a1::a2::t3::a4::a5::a6::a7::a8::a9::b0::b1::b2::b3::b4::b5::b6::b7::b8::b9::d0::d1::d2::d3::d4::d5::d6::[]), h1)) ())) := by rw [awp_eq]; kernel_rfl
noncomputable def c32_4 : Code := cr c32_2
noncomputable def c32_5 : Code := cl c32_4
noncomputable def c32_6 : Code := cl c32_5
theorem w32_6 : awp X n c32_6 Q ((a0::a1::a2::a3::a4::a5::a6::a7::a8::a9::b0::b1::b2::b3::b4::b5::b6::b7::b8::b9::d0::d1::d2::d3::d4::d5::d6::[]), h) = (a_mov (.v (.int .i64 0)) h (.c (fun t4 h1 => Q .normal ((a0::a1::a2::a3::t4::a5::a6::a7::a8::a9::b0::b1::b2::b3::b4::b5::b6::b7::b8::b9::d0::d1::d2::d3::d4::d5::d6::[]), h1)) ())) := by rw [awp_eq]; kernel_rfl
noncomputable def c32_7 : Code := cr c32_5
noncomputable def c32_8 : Code := cl c32_7
noncomputable def c32_9 : Code := cl c32_8
noncomputable def c32_10 : Code := cl c32_9
noncomputable def c32_11 : Code := cl c32_10
theorem w32_11 : awp X n c32_11 Q ((a0::a1::a2::a3::a4::a5::a6::a7::a8::a9::b0::b1::b2::b3::b4::b5::b6::b7::b8::b9::d0::d1::d2::d3::d4::d5::d6::[]), h) = (a_mov a4 h (.c (fun t6 h1 => a_bin .lss t6 (.v (.int .i64 10)) h1 (.c (fun t7 h2 => Q .normal ((a0::a1::a2::a3::a4::a5::t6::t7::a8::a9::b0::b1::b2::b3::b4::b5::b6::b7::b8::b9::d0::d1::d2::d3::d4::d5::d6::[]), h2)) ())) ())) := by rw [awp_eq]; kernel_rfl
noncomputable def c32_12 : Code := cr c32_10
noncomputable def c32_13 : Code := cl c32_12
theorem w32_13 : awp X n c32_13 Q st = Q .normal st := by rw [awp_eq]; kernel_rfl
noncomputable def c32_14 : Code := cr c32_12
theorem w32_14 : awp X n c32_14 Q st = Q (.exit 0) st := by rw [awp_eq]; kernel_rfl
theorem w32_12 : awp X n c32_12 Q ((a0::a1::a2::a3::a4::a5::a6::a7::a8::a9::b0::b1::b2::b3::b4::b5::b6::b7::b8::b9::d0::d1::d2::d3::d4::d5::d6::[]), h) = a_cond a7 (awp X n c32_13 Q ((a0::a1::a2::a3::a4::a5::a6::a7::a8::a9::b0::b1::b2::b3::b4::b5::b6::b7::b8::b9::d0::d1::d2::d3::d4::d5::d6::[]), h)) (awp X n c32_14 Q ((a0::a1::a2::a3::a4::a5::a6::a7::a8::a9::b0::b1::b2::b3::b4::b5::b6::b7::b8::b9::d0::d1::d2::d3::d4::d5::d6::[]), h)) := by rw [awp_eq]; kernel_rfl
theorem w32_10 : awp X n c32_10 Q st = awp X n c32_11 (thenQ (awp X n c32_12 Q) Q) st := by rw [awp_eq]; kernel_rfl
noncomputable def c32_15 : Code := cr c32_9
noncomputable def c32_16 : Code := cl c32_15
noncomputable def c32_17 : Code := cl c32_16
noncomputable def c32_18 : Code := cl c32_17
theorem w32_18 : awp X n c32_18 Q ((a0::a1::a2::a3::a4::a5::a6::a7::a8::a9::b0::b1::b2::b3::b4::b5::b6::b7::b8::b9::d0::d1::d2::d3::d4::d5::d6::[]), h) = (a_mov a0 h (.c (fun t10 h1 => ACall X 37 [t10, (.v (.int .i64 1))] h1 (.c (fun t11 h2 => a_mov t11 h2 (.c (fun t5 h3 => Q .normal ((a0::a1::a2::a3::a4::t5::a6::a7::a8::a9::t10::t11::b2::b3::b4::b5::b6::b7::b8::b9::d0::d1::d2::d3::d4::d5::d6::[]), h3)) ())) ())) ())) := by rw [awp_eq]; kernel_rfl
noncomputable def c32_19 : Code := cr c32_17
noncomputable def c32_20 : Code := cl c32_19
noncomputable def c32_21 : Code := cl c32_20
theorem w32_21 : awp X n c32_21 Q ((a0::a1::a2::a3::a4::a5::a6::a7::a8::a9::b0::b1::b2::b3::b4::b5::b6::b7::b8::b9::d0::d1::d2::d3::d4::d5::d6::[]), h) = (a_mov a0 h (.c (fun t12 h1 => a_nilc t12 h1 (.c (fun t13 h2 => a_fa 2 t13 h2 (.c (fun t14 h3 => a_load 1 false t14 h3 (.c (fun t15 h4 => a_bin .neq t15 (.v (.int .i64 0)) h4 (.c (fun t16 h5 => Q .normal ((a0::a1::a2::a3::a4::a5::a6::a7::a8::a9::b0::b1::t12::t13::t14::t15::t16::b7::b8::b9::d0::d1::d2::d3::d4::d5::d6::[]), h5)) ())) ())) ())) ())) ())) := by rw [awp_eq]; kernel_rfl
noncomputable def c32_22 : Code := cr c32_20
noncomputable def c32_23 : Code := cl c32_22
noncomputable def c32_24 : Code := cl c32_23
theorem w32_24 : awp X n c32_24 Q ((a0::a1::a2::a3::a4::a5::a6::a7::a8::a9::b0::b1::b2::b3::b4::b5::b6::b7::b8::b9::d0::d1::d2::d3::d4::d5::d6::[]), h) = (a_mov (.v (.slice none 0 0)) h (.c (fun t2 h1 => Q .normal ((a0::a1::t2::a3::a4::a5::a6::a7::a8::a9::b0::b1::b2::b3::b4::b5::b6::b7::b8::b9::d0::d1::d2::d3::d4::d5::d6::[]), h1)) ())) := by rw [awp_eq]; kernel_rfl
noncomputable def c32_25 : Code := cr c32_23
theorem w32_25 : awp X n c32_25 Q st = Q .ret st := by rw [awp_eq]; kernel_rfl
theorem w32_23 : awp X n c32_23 Q st = awp X n c32_24 (thenQ (awp X n c32_25 Q) Q) st := by rw [awp_eq]; kernel_rfl
noncomputable def c32_26 : Code := cr c32_22
theorem w32_26 : awp X n c32_26 Q st = Q .normal st := by rw [awp_eq]; kernel_rfl
theorem w32_22 : awp X n c32_22 Q ((a0::a1::a2::a3::a4::a5::a6::a7::a8::a9::b0::b1::b2::b3::b4::b5::b6::b7::b8::b9::d0::d1::d2::d3::d4::d5::d6::[]), h) = a_cond b6 (awp X n c32_23 Q ((a0::a1::a2::a3::a4::a5::a6::a7::a8::a9::b0::b1::b2::b3::b4::b5::b6::b7::b8::b9::d0::d1::d2::d3::d4::d5::d6::[]), h)) (awp X n c32_26 Q ((a0::a1::a2::a3::a4::a5::a6::a7::a8::a9::b0::b1::b2::b3::b4::b5::b6::b7::b8::b9::d0::d1::d2::d3::d4::d5::d6::[]), h)) := by rw [awp_eq]; kernel_rfl
theorem w32_20 : awp X n c32_20 Q st = awp X n c32_21 (thenQ (awp X n c32_22 Q) Q) st := by rw [awp_eq]; kernel_rfl
noncomputable def c32_27 : Code := cr c32_19
noncomputable def c32_28 : Code := cl c32_27
theorem w32_28 : awp X n c32_28 Q ((a0::a1::a2::a3::a4::a5::a6::a7::a8::a9::b0::b1::b2::b3::b4::b5::b6::b7::b8::b9::d0::d1::d2::d3::d4::d5::d6::[]), h) = (a_mov a3 h (.c (fun t17 h1 => a_mov a5 h1 (.c (fun t18 h2 => a_bin .rem t18 (.v (.int .u64 128)) h2 (.c (fun t19 h3 => a_lit 1 1 [.v (.int .u64 0)] [(0, 1, t19)] h3 (.c (fun t20 h4 => a_app 1 8 t17 t20 h4 (.c (fun t21 h5 => a_mov t21 h5 (.c (fun t3 h6 => Q .normal ((a0::a1::a2::t3::a4::a5::a6::a7::a8::a9::b0::b1::b2::b3::b4::b5::b6::t17::t18::t19::t20::t21::d2::d3::d4::d5::d6::[]), h6)) ())) ())) ())) ())) ())) ())) := by rw [awp_eq]; kernel_rfl
noncomputable def c32_29 : Code := cr c32_27
noncomputable def c32_30 : Code := cl c32_29
theorem w32_30 : awp X n c32_30 Q ((a0::a1::a2::a3::a4::a5::a6::a7::a8::a9::b0::b1::b2::b3::b4::b5::b6::b7::b8::b9::d0::d1::d2::d3::d4::d5::d6::[]), h) = (a_mov a5 h (.c (fun t22 h1 => a_bin .lss t22 (.v (.int .u64 128)) h1 (.c (fun t23 h2 => Q .normal ((a0::a1::a2::a3::a4::a5::a6::a7::a8::a9::b0::b1::b2::b3::b4::b5::b6::b7::b8::b9::d0::d1::t22::t23::d4::d5::d6::[]), h2)) ())) ())) := by rw [awp_eq]; kernel_rfl
noncomputable def c32_31 : Code := cr c32_29
noncomputable def c32_32 : Code := cl c32_31
noncomputable def c32_33 : Code := cl c32_32
theorem w32_33 : awp X n c32_33 Q ((a0::a1::a2::a3::a4::a5::a6::a7::a8::a9::b0::b1::b2::b3::b4::b5::b6::b7::b8::b9::d0::d1::d2::d3::d4::d5::d6::[]), h) = (a_mov a3 h (.c (fun t24 h1 => a_mov t24 h1 (.c (fun t2 h2 => Q .normal ((a0::a1::t2::a3::a4::a5::a6::a7::a8::a9::b0::b1::b2::b3::b4::b5::b6::b7::b8::b9::d0::d1::d2::d3::t24::d5::d6::[]), h2)) ())) ())) := by rw [awp_eq]; kernel_rfl
noncomputable def c32_34 : Code := cr c32_32
theorem w32_34 : awp X n c32_34 Q st = Q .ret st := by rw [awp_eq]; kernel_rfl
theorem w32_32 : awp X n c32_32 Q st = awp X n c32_33 (thenQ (awp X n c32_34 Q) Q) st := by rw [awp_eq]; kernel_rfl
noncomputable def c32_35 : Code := cr c32_31
theorem w32_35 : awp X n c32_35 Q st = Q .normal st := by rw [awp_eq]; kernel_rfl
theorem w32_31 : awp X n c32_31 Q ((a0::a1::a2::a3::a4::a5::a6::a7::a8::a9::b0::b1::b2::b3::b4::b5::b6::b7::b8::b9::d0::d1::d2::d3::d4::d5::d6::[]), h) = a_cond d3 (awp X n c32_32 Q ((a0::a1::a2::a3::a4::a5::a6::a7::a8::a9::b0::b1::b2::b3::b4::b5::b6::b7::b8::b9::d0::d1::d2::d3::d4::d5::d6::[]), h)) (awp X n c32_35 Q ((a0::a1::a2::a3::a4::a5::a6::a7::a8::a9::b0::b1::b2::b3::b4::b5::b6::b7::b8::b9::d0::d1::d2::d3::d4::d5::d6::[]), h)) := by rw [awp_eq]; kernel_rfl
theorem w32_29 : awp X n c32_29 Q st = awp X n c32_30 (thenQ (awp X n c32_31 Q) Q) st := by rw [awp_eq]; kernel_rfl
theorem w32_27 : awp X n c32_27 Q st = awp X n c32_28 (thenQ (awp X n c32_29 Q) Q) st := by rw [awp_eq]; kernel_rfl
theorem w32_19 : awp X n c32_19 Q st = awp X n c32_20 (thenQ (awp X n c32_27 Q) Q) st := by rw [awp_eq]; kernel_rfl
theorem w32_17 : awp X n c32_17 Q st = awp X n c32_18 (thenQ (awp X n c32_19 Q) Q) st := by rw [awp_eq]; kernel_rfl
theorem w32_16 : awp X n c32_16 Q st = awp X n c32_17 (blockQ 1 Q) st := by rw [awp_eq]; kernel_rfl
noncomputable def c32_36 : Code := cr c32_15
theorem w32_36 : awp X n c32_36 Q ((a0::a1::a2::a3::a4::a5::a6::a7::a8::a9::b0::b1::b2::b3::b4::b5::b6::b7::b8::b9::d0::d1::d2::d3::d4::d5::d6::[]), h) = (a_mov a4 h (.c (fun t8 h1 => a_bin .add t8 (.v (.int .i64 1)) h1 (.c (fun t9 h2 => a_mov t9 h2 (.c (fun t4 h3 => Q .normal ((a0::a1::a2::a3::t4::a5::a6::a7::t8::t9::b0::b1::b2::b3::b4::b5::b6::b7::b8::b9::d0::d1::d2::d3::d4::d5::d6::[]), h3)) ())) ())) ())) := by rw [awp_eq]; kernel_rfl
theorem w32_15 : awp X n c32_15 Q st = awp X n c32_16 (thenQ (awp X n c32_36 Q) Q) st := by rw [awp_eq]; kernel_rfl
theorem w32_9 : awp X n c32_9 Q st = awp X n c32_10 (thenQ (awp X n c32_15 Q) Q) st := by rw [awp_eq]; kernel_rfl
theorem w32_8 : awp X n c32_8 Q st = ALoop X n c32_9 Q st := by rw [awp_eq]; kernel_rfl
theorem w32_7 : awp X n c32_7 Q st = awp X n c32_8 (blockQ 0 Q) st := by rw [awp_eq]; kernel_rfl
theorem w32_5 : awp X n c32_5 Q st = awp X n c32_6 (thenQ (awp X n c32_7 Q) Q) st := by rw [awp_eq]; kernel_rfl
noncomputable def c32_37 : Code := cr c32_4
noncomputable def c32_38 : Code := cl c32_37
theorem w32_38 : awp X n c32_38 Q ((a0::a1::a2::a3::a4::a5::a6::a7::a8::a9::b0::b1::b2::b3::b4::b5::b6::b7::b8::b9::d0::d1::d2::d3::d4::d5::d6::[]), h) = (a_mov a0 h (.c (fun t25 h1 => ACall X 33 [t25, (.v (.int .i64 11))] h1 (.c (fun t26 h2 => Q .normal ((a0::a1::a2::a3::a4::a5::a6::a7::a8::a9::b0::b1::b2::b3::b4::b5::b6::b7::b8::b9::d0::d1::d2::d3::d4::t25::t26::[]), h2)) ())) ())) := by rw [awp_eq]; kernel_rfl
noncomputable def c32_39 : Code := cr c32_37
noncomputable def c32_40 : Code := cl c32_39
theorem w32_40 : awp X n c32_40 Q ((a0::a1::a2::a3::a4::a5::a6::a7::a8::a9::b0::b1::b2::b3::b4::b5::b6::b7::b8::b9::d0::d1::d2::d3::d4::d5::d6::[]), h) = (a_mov (.v (.slice none 0 0)) h (.c (fun t2 h1 => Q .normal ((a0::a1::t2::a3::a4::a5::a6::a7::a8::a9::b0::b1::b2::b3::b4::b5::b6::b7::b8::b9::d0::d1::d2::d3::d4::d5::d6::[]), h1)) ())) := by rw [awp_eq]; kernel_rfl
noncomputable def c32_41 : Code := cr c32_39
theorem w32_41 : awp X n c32_41 Q st = Q .ret st := by rw [awp_eq]; kernel_rfl
theorem w32_39 : awp X n c32_39 Q st = awp X n c32_40 (thenQ (awp X n c32_41 Q) Q) st := by rw [awp_eq]; kernel_rfl
theorem w32_37 : awp X n c32_37 Q st = awp X n c32_38 (thenQ (awp X n c32_39 Q) Q) st := by rw [awp_eq]; kernel_rfl
theorem w32_4 : awp X n c32_4 Q st = awp X n c32_5 (thenQ (awp X n c32_37 Q) Q) st := by rw [awp_eq]; kernel_rfl
theorem w32_2 : awp X n c32_2 Q st = awp X n c32_3 (thenQ (awp X n c32_4 Q) Q) st := by rw [awp_eq]; kernel_rfl
theorem w32_0 : awp X n c32_0 Q st = awp X n c32_1 (thenQ (awp X n c32_2 Q) Q) st := by rw [awp_eq]; kernel_rfl
theorem q32_ret : retQ X Try.f32 K .ret ((a0::a1::a2::a3::a4::a5::a6::a7::a8::a9::b0::b1::b2::b3::b4::b5::b6::b7::b8::b9::d0::d1::d2::d3::d4::d5::d6::[]), h) = (K.K a2 h) := by kernel_rfl
theorem q32_normal : retQ X Try.f32 K .normal ((a0::a1::a2::a3::a4::a5::a6::a7::a8::a9::b0::b1::b2::b3::b4::b5::b6::b7::b8::b9::d0::d1::d2::d3::d4::d5::d6::[]), h) = (K.K a2 h) := by kernel_rfl
theorem i32 (H : awp X h.length c32_0 (retQ X Try.f32 K) ((a0::.bad::.bad::.bad::.bad::.bad::.bad::.bad::.bad::.bad::.bad::.bad::.bad::.bad::.bad::.bad::.bad::.bad::.bad::.bad::.bad::.bad::.bad::.bad::.bad::.bad::.bad::[]), h)) : ACall X 32 [a0] h K := acall_intro (fn := Try.f32) (by kernel_rfl) (by kernel_rfl) (by kernel_rfl) H
noncomputable def R32 := And.intro (And.intro (And.intro (And.intro (And.intro w32_1 w32_3) (And.intro (w32_6) (And.intro w32_11 w32_13))) (And.intro (And.intro (w32_14) (And.intro w32_12 w32_10)) (And.intro (w32_18) (And.intro w32_21 w32_24)))) (And.intro (And.intro (And.intro w32_25 w32_23) (And.intro (w32_26) (And.intro w32_22 w32_20))) (And.intro (And.intro (w32_28) (And.intro w32_30 w32_33)) (And.intro (w32_34) (And.intro w32_32 w32_35))))) (And.intro (And.intro (And.intro (And.intro w32_31 w32_29) (And.intro (w32_27) (And.intro w32_19 w32_17))) (And.intro (And.intro (w32_16) (And.intro w32_36 w32_15)) (And.intro (w32_9) (And.intro w32_8 w32_7)))) (And.intro (And.intro (And.intro w32_5 w32_38) (And.intro (w32_40) (And.intro w32_41 w32_39))) (And.intro (And.intro (w32_37) (And.intro w32_4 w32_2)) (And.intro (w32_0) (And.intro q32_ret q32_normal)))))
/-! function 34: sindri/leb.signed$1 -/
noncomputable def c34_0 : Code := bodyOf Try.f34
noncomputable def c34_1 : Code := cl c34_0
noncomputable def c34_2 : Code := cl c34_1
noncomputable def c34_3 : Code := cl c34_2
noncomputable def c34_4 : Code := cl c34_3
theorem w34_4 : awp X n c34_4 Q ((a0::a1::a2::a3::a4::a5::a6::a7::a8::a9::b0::b1::b2::b3::b4::b5::b6::b7::b8::b9::d0::d1::d2::d3::d4::d5::d6::d7::d8::[]), h) = (a_load 1 false a1 h (.c (fun t4 h1 => a_bin .and t4 (.v (.int .i64 127)) h1 (.c (fun t5 h2 => a_cint .u8 t5 h2 (.c (fun t6 h3 => a_mov t6 h3 (.c (fun t3 h4 => Q .normal ((a0::a1::a2::t3::t4::t5::t6::a7::a8::a9::b0::b1::b2::b3::b4::b5::b6::b7::b8::b9::d0::d1::d2::d3::d4::d5::d6::d7::d8::[]), h4)) ())) ())) ())) ())) := by rw [awp_eq]; kernel_rfl
noncomputable def c34_5 : Code := cr c34_3
noncomputable def c34_6 : Code := cl c34_5
theorem w34_6 : awp X n c34_6 Q ((a0::a1::a2::a3::a4::a5::a6::a7::a8::a9::b0::b1::b2::b3::b4::b5::b6::b7::b8::b9::d0::d1::d2::d3::d4::d5::d6::d7::d8::[]), h) = (a_load 1 false a1 h (.c (fun t7 h1 => a_bin .shr t7 (.v (.int .u64 7)) h1 (.c (fun t8 h2 => a_store 1 a1 t8 h2 (.c (fun _v2 h3 => Q .normal ((a0::a1::a2::a3::a4::a5::a6::t7::t8::a9::b0::b1::b2::b3::b4::b5::b6::b7::b8::b9::d0::d1::d2::d3::d4::d5::d6::d7::d8::[]), h3)) ())) ())) ())) := by rw [awp_eq]; kernel_rfl
noncomputable def c34_7 : Code := cr c34_5
noncomputable def c34_8 : Code := cl c34_7
theorem w34_8 : awp X n c34_8 Q ((a0::a1::a2::a3::a4::a5::a6::a7::a8::a9::b0::b1::b2::b3::b4::b5::b6::b7::b8::b9::d0::d1::d2::d3::d4::d5::d6::d7::d8::[]), h) = (a_mov a0 h (.c (fun t9 h1 => a_mov a3 h1 (.c (fun t10 h2 => a_callv X t9 [t10] h2 (.c (fun t11 h3 => a_un .not t11 h3 (.c (fun t12 h4 => a_mov t12 h4 (.c (fun t13 h5 => a_on t13 false (fun k => a_load 1 false a1 h5 k) h5 (.c (fun t14 h6 => a_on t13 false (fun k => a_bin .eql t14 (.v (.int .i64 0)) h6 k) h6 (.c (fun t15 h7 => a_on t13 false (fun k => a_mov t15 h7 k) h7 (.c (fun t16 h8 => a_on t16 true (fun k => a_mov a3 h8 k) h8 (.c (fun t17 h9 => a_on t16 true (fun k => a_bin .lss t17 (.v (.int .u8 64)) h9 k) h9 (.c (fun t18 h10 => a_on t13 false (fun k => a_pick t16 t18 (.v (.bool false)) h10 k) h10 (.c (fun t19 h11 => a_pick t13 (.v (.bool true)) t19 h11 (.c (fun t20 h12 => a_mov t20 h12 (.c (fun t21 h13 => a_on t21 false (fun k => a_load 1 false a1 h13 k) h13 (.c (fun t22 h14 => a_on t21 false (fun k => a_bin .eql t22 (.v (.int .i64 (-1))) h14 k) h14 (.c (fun t23 h15 => a_on t21 false (fun k => a_mov t23 h15 k) h15 (.c (fun t24 h16 => a_on t24 true (fun k => a_mov a3 h16 k) h16 (.c (fun t25 h17 => a_on t24 true (fun k => a_bin .geq t25 (.v (.int .u8 64)) h17 k) h17 (.c (fun t26 h18 => a_on t21 false (fun k => a_pick t24 t26 (.v (.bool false)) h18 k) h18 (.c (fun t27 h19 => a_pick t21 (.v (.bool true)) t27 h19 (.c (fun t28 h20 => Q .normal ((a0::a1::a2::a3::a4::a5::a6::a7::a8::t9::t10::t11::t12::t13::t14::t15::t16::t17::t18::t19::t20::t21::t22::t23::t24::t25::t26::t27::t28::[]), h20)) ())) ())) ())) ())) ())) ())) ())) ())) ())) ())) ())) ())) ())) ())) ())) ())) ())) ())) ())) ())) := by rw [awp_eq]; kernel_rfl
noncomputable def c34_9 : Code := cr c34_7
noncomputable def c34_10 : Code := cl c34_9
theorem w34_10 : awp X n c34_10 Q st = Q .ret st := by rw [awp_eq]; kernel_rfl
noncomputable def c34_11 : Code := cr c34_9
theorem w34_11 : awp X n c34_11 Q st = Q .normal st := by rw [awp_eq]; kernel_rfl
theorem w34_9 : awp X n c34_9 Q ((a0::a1::a2::a3::a4::a5::a6::a7::a8::a9::b0::b1::b2::b3::b4::b5::b6::b7::b8::b9::d0::d1::d2::d3::d4::d5::d6::d7::d8::[]), h) = a_cond d8 (awp X n c34_10 Q ((a0::a1::a2::a3::a4::a5::a6::a7::a8::a9::b0::b1::b2::b3::b4::b5::b6::b7::b8::b9::d0::d1::d2::d3::d4::d5::d6::d7::d8::[]), h)) (awp X n c34_11 Q ((a0::a1::a2::a3::a4::a5::a6::a7::a8::a9::b0::b1::b2::b3::b4::b5::b6::b7::b8::b9::d0::d1::d2::d3::d4::d5::d6::d7::d8::[]), h)) := by rw [awp_eq]; kernel_rfl
theorem w34_7 : awp X n c34_7 Q st = awp X n c34_8 (thenQ (awp X n c34_9 Q) Q) st := by rw [awp_eq]; kernel_rfl
theorem w34_5 : awp X n c34_5 Q st = awp X n c34_6 (thenQ (awp X n c34_7 Q) Q) st := by rw [awp_eq]; kernel_rfl
theorem w34_3 : awp X n c34_3 Q st = awp X n c34_4 (thenQ (awp X n c34_5 Q) Q) st := by rw [awp_eq]; kernel_rfl
theorem w34_2 : awp X n c34_2 Q st = awp X n c34_3 (blockQ 1 Q) st := by rw [awp_eq]; kernel_rfl
theorem w34_1 : awp X n c34_1 Q st = ALoop X n c34_2 Q st := by rw [awp_eq]; kernel_rfl
theorem w34_0 : awp X n c34_0 Q st = awp X n c34_1 (blockQ 0 Q) st := by rw [awp_eq]; kernel_rfl
theorem q34_ret : retQ X Try.f34 K .ret ((a0::a1::a2::a3::a4::a5::a6::a7::a8::a9::b0::b1::b2::b3::b4::b5::b6::b7::b8::b9::d0::d1::d2::d3::d4::d5::d6::d7::d8::[]), h) = (K.K (.t []) h) := by kernel_rfl
theorem q34_normal : retQ X Try.f34 K .normal ((a0::a1::a2::a3::a4::a5::a6::a7::a8::a9::b0::b1::b2::b3::b4::b5::b6::b7::b8::b9::d0::d1::d2::d3::d4::d5::d6::d7::d8::[]), h) = (K.K (.t []) h) := by kernel_rfl
theorem i34 (H : awp X h.length c34_0 (retQ X Try.f34 K) ((a0::a1::.bad::.bad::.bad::.bad::.bad::.bad::.bad::.bad::.bad::.bad::.bad::.bad::.bad::.bad::.bad::.bad::.bad::.bad::.bad::.bad::.bad::.bad::.bad::.bad::.bad::.bad::.bad::[]), h)) : ACall X 34 [a0, a1] h K := acall_intro (fn := Try.f34) (by kernel_rfl) (by kernel_rfl) (by kernel_rfl) H
noncomputable def R34 := And.intro (And.intro (And.intro (w34_4) (And.intro w34_6 w34_8)) (And.intro (And.intro w34_10 w34_11) (And.intro w34_9 w34_7))) (And.intro (And.intro (w34_5) (And.intro w34_3 w34_2)) (And.intro (And.intro w34_1 w34_0) (And.intro q34_ret q34_normal)))
/-! function 35: sindri/leb.unsigned$1 -/
noncomputable def c35_0 : Code := bodyOf Try.f35
noncomputable def c35_1 : Code := cl c35_0
noncomputable def c35_2 : Code := cl c35_1
noncomputable def c35_3 : Code := cl c35_2
noncomputable def c35_4 : Code := cl c35_3
noncomputable def c35_5 : Code := cl c35_4
theorem w35_5 : awp X n c35_5 Q ((a0::a1::a2::a3::a4::a5::a6::a7::a8::a9::b0::b1::b2::[]), h) = (a_mov a0 h (.c (fun t3 h1 => a_load 1 false a1 h1 (.c (fun t4 h2 => a_bin .and t4 (.v (.int .u64 127)) h2 (.c (fun t5 h3 => a_cint .u8 t5 h3 (.c (fun t6 h4 => a_callv X t3 [t6] h4 (.c (fun t7 h5 => a_un .not t7 h5 (.c (fun t8 h6 => Q .normal ((a0::a1::a2::t3::t4::t5::t6::t7::t8::a9::b0::b1::b2::[]), h6)) ())) ())) ())) ())) ())) ())) := by rw [awp_eq]; kernel_rfl
noncomputable def c35_6 : Code := cr c35_4
noncomputable def c35_7 : Code := cl c35_6
theorem w35_7 : awp X n c35_7 Q st = Q .ret st := by rw [awp_eq]; kernel_rfl
noncomputable def c35_8 : Code := cr c35_6
theorem w35_8 : awp X n c35_8 Q st = Q .normal st := by rw [awp_eq]; kernel_rfl
theorem w35_6 : awp X n c35_6 Q ((a0::a1::a2::a3::a4::a5::a6::a7::a8::a9::b0::b1::b2::[]), h) = a_cond a8 (awp X n c35_7 Q ((a0::a1::a2::a3::a4::a5::a6::a7::a8::a9::b0::b1::b2::[]), h)) (awp X n c35_8 Q ((a0::a1::a2::a3::a4::a5::a6::a7::a8::a9::b0::b1::b2::[]), h)) := by rw [awp_eq]; kernel_rfl
theorem w35_4 : awp X n c35_4 Q st = awp X n c35_5 (thenQ (awp X n c35_6 Q) Q) st := by rw [awp_eq]; kernel_rfl
noncomputable def c35_9 : Code := cr c35_3
noncomputable def c35_10 : Code := cl c35_9
theorem w35_10 : awp X n c35_10 Q ((a0::a1::a2::a3::a4::a5::a6::a7::a8::a9::b0::b1::b2::[]), h) = (a_load 1 false a1 h (.c (fun t9 h1 => a_bin .shr t9 (.v (.int .u64 7)) h1 (.c (fun t10 h2 => a_store 1 a1 t10 h2 (.c (fun _v2 h3 => Q .normal ((a0::a1::a2::a3::a4::a5::a6::a7::a8::t9::t10::b1::b2::[]), h3)) ())) ())) ())) := by rw [awp_eq]; kernel_rfl
noncomputable def c35_11 : Code := cr c35_9
noncomputable def c35_12 : Code := cl c35_11
theorem w35_12 : awp X n c35_12 Q ((a0::a1::a2::a3::a4::a5::a6::a7::a8::a9::b0::b1::b2::[]), h) = (a_load 1 false a1 h (.c (fun t11 h1 => a_bin .eql t11 (.v (.int .u64 0)) h1 (.c (fun t12 h2 => Q .normal ((a0::a1::a2::a3::a4::a5::a6::a7::a8::a9::b0::t11::t12::[]), h2)) ())) ())) := by rw [awp_eq]; kernel_rfl
noncomputable def c35_13 : Code := cr c35_11
noncomputable def c35_14 : Code := cl c35_13
theorem w35_14 : awp X n c35_14 Q st = Q .ret st := by rw [awp_eq]; kernel_rfl
noncomputable def c35_15 : Code := cr c35_13
theorem w35_15 : awp X n c35_15 Q st = Q .normal st := by rw [awp_eq]; kernel_rfl
theorem w35_13 : awp X n c35_13 Q ((a0::a1::a2::a3::a4::a5::a6::a7::a8::a9::b0::b1::b2::[]), h) = a_cond b2 (awp X n c35_14 Q ((a0::a1::a2::a3::a4::a5::a6::a7::a8::a9::b0::b1::b2::[]), h)) (awp X n c35_15 Q ((a0::a1::a2::a3::a4::a5::a6::a7::a8::a9::b0::b1::b2::[]), h)) := by rw [awp_eq]; kernel_rfl
theorem w35_11 : awp X n c35_11 Q st = awp X n c35_12 (thenQ (awp X n c35_13 Q) Q) st := by rw [awp_eq]; kernel_rfl
theorem w35_9 : awp X n c35_9 Q st = awp X n c35_10 (thenQ (awp X n c35_11 Q) Q) st := by rw [awp_eq]; kernel_rfl
theorem w35_3 : awp X n c35_3 Q st = awp X n c35_4 (thenQ (awp X n c35_9 Q) Q) st := by rw [awp_eq]; kernel_rfl
theorem w35_2 : awp X n c35_2 Q st = awp X n c35_3 (blockQ 1 Q) st := by rw [awp_eq]; kernel_rfl
theorem w35_1 : awp X n c35_1 Q st = ALoop X n c35_2 Q st := by rw [awp_eq]; kernel_rfl
theorem w35_0 : awp X n c35_0 Q st = awp X n c35_1 (blockQ 0 Q) st := by rw [awp_eq]; kernel_rfl
theorem q35_ret : retQ X Try.f35 K .ret ((a0::a1::a2::a3::a4::a5::a6::a7::a8::a9::b0::b1::b2::[]), h) = (K.K (.t []) h) := by kernel_rfl
theorem q35_normal : retQ X Try.f35 K .normal ((a0::a1::a2::a3::a4::a5::a6::a7::a8::a9::b0::b1::b2::[]), h) = (K.K (.t []) h) := by kernel_rfl
theorem i35 (H : awp X h.length c35_0 (retQ X Try.f35 K) ((a0::a1::.bad::.bad::.bad::.bad::.bad::.bad::.bad::.bad::.bad::.bad::.bad::[]), h)) : ACall X 35 [a0, a1] h K := acall_intro (fn := Try.f35) (by kernel_rfl) (by kernel_rfl) (by kernel_rfl) H
noncomputable def R35 := And.intro (And.intro (And.intro (And.intro w35_5 w35_7) (And.intro w35_8 w35_6)) (And.intro (And.intro w35_4 w35_10) (And.intro (w35_12) (And.intro w35_14 w35_15)))) (And.intro (And.intro (And.intro w35_13 w35_11) (And.intro w35_9 w35_3)) (And.intro (And.intro w35_2 w35_1) (And.intro (w35_0) (And.intro q35_ret q35_normal))))
end Go.Proofs.Ytlfplmcidfflfaa
