import Derived.Test.YtlngajfpplebmaaDoorEnv
set_option linter.unusedVariables false
set_option linter.defProp false
set_option maxRecDepth 100000
namespace Go.Proofs.YtlngajfpplebmaaDoor
open Go.Ab
variable (n : Nat) (h : Heap) (Q : Qt) (st : St) (K : Kt) (a0 a1 a2 a3 a4 a5 a6 a7 a8 a9 b0 b1 b2 b3 b4 b5 b6 b7 b8 b9 d0 d1 d2 d3 d4 d5 d6 : AV)
/-! function 21: sindri/length.Off -/
noncomputable def c21_0 : Code := bodyOf Tryd.f21
noncomputable def c21_1 : Code := cl c21_0
theorem w21_1 : awp X n c21_1 Q ([a0,a1,a2,a3,a4,a5,a6,a7], h) = (a_mov (.v (.int .i64 0)) h (.c (fun t2 h1 => Q .normal ([a0,a1,t2,a3,a4,a5,a6,a7], h1)) ())) := by rw [awp_eq]; kernel_rfl
noncomputable def c21_2 : Code := cr c21_0
noncomputable def c21_3 : Code := cl c21_2
noncomputable def c21_4 : Code := cl c21_3
theorem w21_4 : awp X n c21_4 Q ([a0,a1,a2,a3,a4,a5,a6,a7], h) = (a_mov a0 h (.c (fun t3 h1 => Q .normal ([a0,a1,a2,t3,a4,a5,a6,a7], h1)) ())) := by rw [awp_eq]; kernel_rfl
noncomputable def c21_5 : Code := cr c21_3
noncomputable def c21_6 : Code := cl c21_5
noncomputable def c21_7 : Code := cl c21_6
theorem w21_7 : awp X n c21_7 Q ([a0,a1,a2,a3,a4,a5,a6,a7], h) = (a_iarr 2 1 (.q [.v (.int .i64 4), .v (.int .i64 8)] 0) (.v (.int .i64 1)) h (.c (fun t4 h1 => a_load 1 false t4 h1 (.c (fun t5 h2 => a_mov t5 h2 (.c (fun t2 h3 => Q .normal ([a0,a1,t2,a3,t4,t5,a6,a7], h3)) ())) ())) ())) := by rw [awp_eq]; kernel_rfl
noncomputable def c21_8 : Code := cr c21_6
theorem w21_8 : awp X n c21_8 Q st = Q .ret st := by rw [awp_eq]; kernel_rfl
theorem w21_6 : awp X n c21_6 Q st = awp X n c21_7 (thenQ (awp X n c21_8 Q) Q) st := by rw [awp_eq]; kernel_rfl
noncomputable def c21_9 : Code := cr c21_5
theorem w21_9 : awp X n c21_9 Q st = Q .normal st := by rw [awp_eq]; kernel_rfl
theorem w21_5 : awp X n c21_5 Q ([a0,a1,a2,a3,a4,a5,a6,a7], h) = a_cond a3 (awp X n c21_6 Q ([a0,a1,a2,a3,a4,a5,a6,a7], h)) (awp X n c21_9 Q ([a0,a1,a2,a3,a4,a5,a6,a7], h)) := by rw [awp_eq]; kernel_rfl
theorem w21_3 : awp X n c21_3 Q st = awp X n c21_4 (thenQ (awp X n c21_5 Q) Q) st := by rw [awp_eq]; kernel_rfl
noncomputable def c21_10 : Code := cr c21_2
noncomputable def c21_11 : Code := cl c21_10
theorem w21_11 : awp X n c21_11 Q ([a0,a1,a2,a3,a4,a5,a6,a7], h) = (a_iarr 2 1 (.q [.v (.int .i64 4), .v (.int .i64 8)] 0) (.v (.int .i64 0)) h (.c (fun t6 h1 => a_load 1 false t6 h1 (.c (fun t7 h2 => a_mov t7 h2 (.c (fun t2 h3 => Q .normal ([a0,a1,t2,a3,a4,a5,t6,t7], h3)) ())) ())) ())) := by rw [awp_eq]; kernel_rfl
noncomputable def c21_12 : Code := cr c21_10
theorem w21_12 : awp X n c21_12 Q st = Q .ret st := by rw [awp_eq]; kernel_rfl
theorem w21_10 : awp X n c21_10 Q st = awp X n c21_11 (thenQ (awp X n c21_12 Q) Q) st := by rw [awp_eq]; kernel_rfl
theorem w21_2 : awp X n c21_2 Q st = awp X n c21_3 (thenQ (awp X n c21_10 Q) Q) st := by rw [awp_eq]; kernel_rfl
theorem w21_0 : awp X n c21_0 Q st = awp X n c21_1 (thenQ (awp X n c21_2 Q) Q) st := by rw [awp_eq]; kernel_rfl
theorem q21_ret : retQ X Tryd.f21 K .ret ([a0,a1,a2,a3,a4,a5,a6,a7], h) = (K.K a2 h) := by kernel_rfl
theorem q21_normal : retQ X Tryd.f21 K .normal ([a0,a1,a2,a3,a4,a5,a6,a7], h) = (K.K a2 h) := by kernel_rfl
theorem i21 (H : awp X h.length c21_0 (retQ X Tryd.f21 K) ([a0,.bad,.bad,.bad,.bad,.bad,.bad,.bad], h)) : ACall X 21 [a0] h K := acall_intro (fn := Tryd.f21) (by kernel_rfl) (by kernel_rfl) (by kernel_rfl) H
noncomputable def R21 := And.intro (And.intro (And.intro (w21_1) (And.intro w21_4 w21_7)) (And.intro (And.intro w21_8 w21_6) (And.intro w21_9 w21_5))) (And.intro (And.intro (And.intro w21_3 w21_11) (And.intro w21_12 w21_10)) (And.intro (And.intro w21_2 w21_0) (And.intro q21_ret q21_normal)))
/-! function 22: sindri/sindriref05.Off -/
noncomputable def c22_0 : Code := bodyOf Tryd.f22
noncomputable def c22_1 : Code := cl c22_0
theorem w22_1 : awp X n c22_1 Q ([a0,a1,a2,a3], h) = (a_mov (.v (.int .i64 0)) h (.c (fun t2 h1 => Q .normal ([a0,a1,t2,a3], h1)) ())) := by rw [awp_eq]; kernel_rfl
noncomputable def c22_2 : Code := cr c22_0
noncomputable def c22_3 : Code := cl c22_2
noncomputable def c22_4 : Code := cl c22_3
theorem w22_4 : awp X n c22_4 Q ([a0,a1,a2,a3], h) = (a_mov a0 h (.c (fun t3 h1 => Q .normal ([a0,a1,a2,t3], h1)) ())) := by rw [awp_eq]; kernel_rfl
noncomputable def c22_5 : Code := cr c22_3
noncomputable def c22_6 : Code := cl c22_5
noncomputable def c22_7 : Code := cl c22_6
theorem w22_7 : awp X n c22_7 Q ([a0,a1,a2,a3], h) = (a_mov (.v (.int .i64 8)) h (.c (fun t2 h1 => Q .normal ([a0,a1,t2,a3], h1)) ())) := by rw [awp_eq]; kernel_rfl
noncomputable def c22_8 : Code := cr c22_6
theorem w22_8 : awp X n c22_8 Q st = Q .ret st := by rw [awp_eq]; kernel_rfl
theorem w22_6 : awp X n c22_6 Q st = awp X n c22_7 (thenQ (awp X n c22_8 Q) Q) st := by rw [awp_eq]; kernel_rfl
noncomputable def c22_9 : Code := cr c22_5
theorem w22_9 : awp X n c22_9 Q st = Q .normal st := by rw [awp_eq]; kernel_rfl
theorem w22_5 : awp X n c22_5 Q ([a0,a1,a2,a3], h) = a_cond a3 (awp X n c22_6 Q ([a0,a1,a2,a3], h)) (awp X n c22_9 Q ([a0,a1,a2,a3], h)) := by rw [awp_eq]; kernel_rfl
theorem w22_3 : awp X n c22_3 Q st = awp X n c22_4 (thenQ (awp X n c22_5 Q) Q) st := by rw [awp_eq]; kernel_rfl
noncomputable def c22_10 : Code := cr c22_2
noncomputable def c22_11 : Code := cl c22_10
theorem w22_11 : awp X n c22_11 Q ([a0,a1,a2,a3], h) = (a_mov (.v (.int .i64 4)) h (.c (fun t2 h1 => Q .normal ([a0,a1,t2,a3], h1)) ())) := by rw [awp_eq]; kernel_rfl
noncomputable def c22_12 : Code := cr c22_10
theorem w22_12 : awp X n c22_12 Q st = Q .ret st := by rw [awp_eq]; kernel_rfl
theorem w22_10 : awp X n c22_10 Q st = awp X n c22_11 (thenQ (awp X n c22_12 Q) Q) st := by rw [awp_eq]; kernel_rfl
theorem w22_2 : awp X n c22_2 Q st = awp X n c22_3 (thenQ (awp X n c22_10 Q) Q) st := by rw [awp_eq]; kernel_rfl
theorem w22_0 : awp X n c22_0 Q st = awp X n c22_1 (thenQ (awp X n c22_2 Q) Q) st := by rw [awp_eq]; kernel_rfl
theorem q22_ret : retQ X Tryd.f22 K .ret ([a0,a1,a2,a3], h) = (K.K a2 h) := by kernel_rfl
theorem q22_normal : retQ X Tryd.f22 K .normal ([a0,a1,a2,a3], h) = (K.K a2 h) := by kernel_rfl
theorem i22 (H : awp X h.length c22_0 (retQ X Tryd.f22 K) ([a0,.bad,.bad,.bad], h)) : ACall X 22 [a0] h K := acall_intro (fn := Tryd.f22) (by kernel_rfl) (by kernel_rfl) (by kernel_rfl) H
noncomputable def R22 := And.intro (And.intro (And.intro (w22_1) (And.intro w22_4 w22_7)) (And.intro (And.intro w22_8 w22_6) (And.intro w22_9 w22_5))) (And.intro (And.intro (And.intro w22_3 w22_11) (And.intro w22_12 w22_10)) (And.intro (And.intro w22_2 w22_0) (And.intro q22_ret q22_normal)))
/-! function 24: sindri/sindriref05.Put -/
noncomputable def c24_0 : Code := bodyOf Tryd.f24
noncomputable def c24_1 : Code := cl c24_0
theorem w24_1 : awp X n c24_1 Q ([a0,a1,a2,a3,a4,a5,a6,a7,a8,a9,b0,b1,b2,b3,b4], h) = (a_mov (.v (.slice none 0 0)) h (.c (fun t4 h1 => a_mov (.v (.int .i64 0)) h1 (.c (fun t5 h2 => Q .normal ([a0,a1,a2,a3,t4,t5,a6,a7,a8,a9,b0,b1,b2,b3,b4], h2)) ())) ())) := by rw [awp_eq]; kernel_rfl
noncomputable def c24_2 : Code := cr c24_0
noncomputable def c24_3 : Code := cl c24_2
noncomputable def c24_4 : Code := cl c24_3
theorem w24_4 : awp X n c24_4 Q ([a0,a1,a2,a3,a4,a5,a6,a7,a8,a9,b0,b1,b2,b3,b4], h) = (a_mov a1 h (.c (fun t6 h1 => Q .normal ([a0,a1,a2,a3,a4,a5,t6,a7,a8,a9,b0,b1,b2,b3,b4], h1)) ())) := by rw [awp_eq]; kernel_rfl
noncomputable def c24_5 : Code := cr c24_3
noncomputable def c24_6 : Code := cl c24_5
noncomputable def c24_7 : Code := cl c24_6
theorem w24_7 : awp X n c24_7 Q ([a0,a1,a2,a3,a4,a5,a6,a7,a8,a9,b0,b1,b2,b3,b4], h) = (ACall X 23 [(.v (.int .u64 4294967295)), (.v (.int .i64 4))] h (.c (fun t7 h1 => a_mov a0 h1 (.c (fun t8 h2 => ACall X 23 [t8, (.v (.int .i64 8))] h2 (.c (fun t9 h3 => a_app 1 1 t7 t9 h3 (.c (fun t10 h4 => a_mov t10 h4 (.c (fun t4 h5 => a_mov (.v (.int .i64 0)) h5 (.c (fun t5 h6 => Q .normal ([a0,a1,a2,a3,t4,t5,a6,t7,t8,t9,t10,b1,b2,b3,b4], h6)) ())) ())) ())) ())) ())) ())) := by rw [awp_eq]; kernel_rfl
noncomputable def c24_8 : Code := cr c24_6
theorem w24_8 : awp X n c24_8 Q st = Q .ret st := by rw [awp_eq]; kernel_rfl
theorem w24_6 : awp X n c24_6 Q st = awp X n c24_7 (thenQ (awp X n c24_8 Q) Q) st := by rw [awp_eq]; kernel_rfl
noncomputable def c24_9 : Code := cr c24_5
theorem w24_9 : awp X n c24_9 Q st = Q .normal st := by rw [awp_eq]; kernel_rfl
theorem w24_5 : awp X n c24_5 Q ([a0,a1,a2,a3,a4,a5,a6,a7,a8,a9,b0,b1,b2,b3,b4], h) = a_cond a6 (awp X n c24_6 Q ([a0,a1,a2,a3,a4,a5,a6,a7,a8,a9,b0,b1,b2,b3,b4], h)) (awp X n c24_9 Q ([a0,a1,a2,a3,a4,a5,a6,a7,a8,a9,b0,b1,b2,b3,b4], h)) := by rw [awp_eq]; kernel_rfl
theorem w24_3 : awp X n c24_3 Q st = awp X n c24_4 (thenQ (awp X n c24_5 Q) Q) st := by rw [awp_eq]; kernel_rfl
noncomputable def c24_10 : Code := cr c24_2
noncomputable def c24_11 : Code := cl c24_10
noncomputable def c24_12 : Code := cl c24_11
theorem w24_12 : awp X n c24_12 Q ([a0,a1,a2,a3,a4,a5,a6,a7,a8,a9,b0,b1,b2,b3,b4], h) = (a_mov a0 h (.c (fun t11 h1 => a_bin .geq t11 (.v (.int .u64 4294967280)) h1 (.c (fun t12 h2 => Q .normal ([a0,a1,a2,a3,a4,a5,a6,a7,a8,a9,b0,t11,t12,b3,b4], h2)) ())) ())) := by rw [awp_eq]; kernel_rfl
noncomputable def c24_13 : Code := cr c24_11
noncomputable def c24_14 : Code := cl c24_13
noncomputable def c24_15 : Code := cl c24_14
theorem w24_15 : awp X n c24_15 Q ([a0,a1,a2,a3,a4,a5,a6,a7,a8,a9,b0,b1,b2,b3,b4], h) = (a_mov (.v (.slice none 0 0)) h (.c (fun t4 h1 => a_mov (.v (.int .i64 13)) h1 (.c (fun t5 h2 => Q .normal ([a0,a1,a2,a3,t4,t5,a6,a7,a8,a9,b0,b1,b2,b3,b4], h2)) ())) ())) := by rw [awp_eq]; kernel_rfl
noncomputable def c24_16 : Code := cr c24_14
theorem w24_16 : awp X n c24_16 Q st = Q .ret st := by rw [awp_eq]; kernel_rfl
theorem w24_14 : awp X n c24_14 Q st = awp X n c24_15 (thenQ (awp X n c24_16 Q) Q) st := by rw [awp_eq]; kernel_rfl
noncomputable def c24_17 : Code := cr c24_13
theorem w24_17 : awp X n c24_17 Q st = Q .normal st := by rw [awp_eq]; kernel_rfl
theorem w24_13 : awp X n c24_13 Q ([a0,a1,a2,a3,a4,a5,a6,a7,a8,a9,b0,b1,b2,b3,b4], h) = a_cond b2 (awp X n c24_14 Q ([a0,a1,a2,a3,a4,a5,a6,a7,a8,a9,b0,b1,b2,b3,b4], h)) (awp X n c24_17 Q ([a0,a1,a2,a3,a4,a5,a6,a7,a8,a9,b0,b1,b2,b3,b4], h)) := by rw [awp_eq]; kernel_rfl
theorem w24_11 : awp X n c24_11 Q st = awp X n c24_12 (thenQ (awp X n c24_13 Q) Q) st := by rw [awp_eq]; kernel_rfl
noncomputable def c24_18 : Code := cr c24_10
noncomputable def c24_19 : Code := cl c24_18
theorem w24_19 : awp X n c24_19 Q ([a0,a1,a2,a3,a4,a5,a6,a7,a8,a9,b0,b1,b2,b3,b4], h) = (a_mov a0 h (.c (fun t13 h1 => ACall X 23 [t13, (.v (.int .i64 4))] h1 (.c (fun t14 h2 => a_mov t14 h2 (.c (fun t4 h3 => a_mov (.v (.int .i64 0)) h3 (.c (fun t5 h4 => Q .normal ([a0,a1,a2,a3,t4,t5,a6,a7,a8,a9,b0,b1,b2,t13,t14], h4)) ())) ())) ())) ())) := by rw [awp_eq]; kernel_rfl
noncomputable def c24_20 : Code := cr c24_18
theorem w24_20 : awp X n c24_20 Q st = Q .ret st := by rw [awp_eq]; kernel_rfl
theorem w24_18 : awp X n c24_18 Q st = awp X n c24_19 (thenQ (awp X n c24_20 Q) Q) st := by rw [awp_eq]; kernel_rfl
theorem w24_10 : awp X n c24_10 Q st = awp X n c24_11 (thenQ (awp X n c24_18 Q) Q) st := by rw [awp_eq]; kernel_rfl
theorem w24_2 : awp X n c24_2 Q st = awp X n c24_3 (thenQ (awp X n c24_10 Q) Q) st := by rw [awp_eq]; kernel_rfl
theorem w24_0 : awp X n c24_0 Q st = awp X n c24_1 (thenQ (awp X n c24_2 Q) Q) st := by rw [awp_eq]; kernel_rfl
theorem q24_ret : retQ X Tryd.f24 K .ret ([a0,a1,a2,a3,a4,a5,a6,a7,a8,a9,b0,b1,b2,b3,b4], h) = (K.K (.t [a4, a5]) h) := by kernel_rfl
theorem q24_normal : retQ X Tryd.f24 K .normal ([a0,a1,a2,a3,a4,a5,a6,a7,a8,a9,b0,b1,b2,b3,b4], h) = (K.K (.t [a4, a5]) h) := by kernel_rfl
theorem i24 (H : awp X h.length c24_0 (retQ X Tryd.f24 K) ([a0,a1,.bad,.bad,.bad,.bad,.bad,.bad,.bad,.bad,.bad,.bad,.bad,.bad,.bad], h)) : ACall X 24 [a0, a1] h K := acall_intro (fn := Tryd.f24) (by kernel_rfl) (by kernel_rfl) (by kernel_rfl) H
noncomputable def R24 := And.intro (And.intro (And.intro (And.intro w24_1 w24_4) (And.intro (w24_7) (And.intro w24_8 w24_6))) (And.intro (And.intro (w24_9) (And.intro w24_5 w24_3)) (And.intro (w24_12) (And.intro w24_15 w24_16)))) (And.intro (And.intro (And.intro (w24_14) (And.intro w24_17 w24_13)) (And.intro (w24_11) (And.intro w24_19 w24_20))) (And.intro (And.intro (w24_18) (And.intro w24_10 w24_2)) (And.intro (w24_0) (And.intro q24_ret q24_normal))))
/-! function 28: sindri/sindriref05.Body -/
noncomputable def c28_0 : Code := bodyOf Tryd.f28
noncomputable def c28_1 : Code := cl c28_0
theorem w28_1 : awp X n c28_1 Q ([a0,a1,a2,a3,a4,a5,a6,a7,a8,a9,b0,b1,b2,b3,b4,b5,b6,b7,b8,b9,d0,d1], h) = (a_mov (.v (.pointer none)) h (.c (fun t2 h1 => a_mov (.v (.bool false)) h1 (.c (fun t3 h2 => Q .normal ([a0,a1,t2,t3,a4,a5,a6,a7,a8,a9,b0,b1,b2,b3,b4,b5,b6,b7,b8,b9,d0,d1], h2)) ())) ())) := by rw [awp_eq]; kernel_rfl
noncomputable def c28_2 : Code := cr c28_0
noncomputable def c28_3 : Code := cl c28_2
theorem w28_3 : awp X n c28_3 Q ([a0,a1,a2,a3,a4,a5,a6,a7,a8,a9,b0,b1,b2,b3,b4,b5,b6,b7,b8,b9,d0,d1], h) = (a_mov a0 h (.c (fun t8 h1 => ACall X 44 [t8] h1 (.c (fun t9 h2 => a_mov t9 h2 (.c (fun t7 h3 => a_ext 0 t7 h3 (.c (fun t10 h4 => a_ext 1 t7 h4 (.c (fun t11 h5 => a_mov t10 h5 (.c (fun t4 h6 => a_mov t11 h6 (.c (fun t5 h7 => Q .normal ([a0,a1,a2,a3,t4,t5,a6,t7,t8,t9,t10,t11,b2,b3,b4,b5,b6,b7,b8,b9,d0,d1], h7)) ())) ())) ())) ())) ())) ())) ())) := by rw [awp_eq]; kernel_rfl
noncomputable def c28_4 : Code := cr c28_2
noncomputable def c28_5 : Code := cl c28_4
theorem w28_5 : awp X n c28_5 Q ([a0,a1,a2,a3,a4,a5,a6,a7,a8,a9,b0,b1,b2,b3,b4,b5,b6,b7,b8,b9,d0,d1], h) = (a_mov a0 h (.c (fun t12 h1 => a_mov a4 h1 (.c (fun t13 h2 => ACall X 45 [t12, t13] h2 (.c (fun t14 h3 => a_mov t14 h3 (.c (fun t6 h4 => Q .normal ([a0,a1,a2,a3,a4,a5,t6,a7,a8,a9,b0,b1,t12,t13,t14,b5,b6,b7,b8,b9,d0,d1], h4)) ())) ())) ())) ())) := by rw [awp_eq]; kernel_rfl
noncomputable def c28_6 : Code := cr c28_4
noncomputable def c28_7 : Code := cl c28_6
noncomputable def c28_8 : Code := cl c28_7
theorem w28_8 : awp X n c28_8 Q ([a0,a1,a2,a3,a4,a5,a6,a7,a8,a9,b0,b1,b2,b3,b4,b5,b6,b7,b8,b9,d0,d1], h) = (a_mov a6 h (.c (fun t15 h1 => a_nilc t15 h1 (.c (fun t16 h2 => a_fa 2 t16 h2 (.c (fun t17 h3 => a_load 1 false t17 h3 (.c (fun t18 h4 => a_bin .neq t18 (.v (.int .i64 0)) h4 (.c (fun t19 h5 => Q .normal ([a0,a1,a2,a3,a4,a5,a6,a7,a8,a9,b0,b1,b2,b3,b4,t15,t16,t17,t18,t19,d0,d1], h5)) ())) ())) ())) ())) ())) := by rw [awp_eq]; kernel_rfl
noncomputable def c28_9 : Code := cr c28_7
noncomputable def c28_10 : Code := cl c28_9
theorem w28_10 : awp X n c28_10 Q ([a0,a1,a2,a3,a4,a5,a6,a7,a8,a9,b0,b1,b2,b3,b4,b5,b6,b7,b8,b9,d0,d1], h) = (a_mov (.v (.bool false)) h (.c (fun t5 h1 => Q .normal ([a0,a1,a2,a3,a4,t5,a6,a7,a8,a9,b0,b1,b2,b3,b4,b5,b6,b7,b8,b9,d0,d1], h1)) ())) := by rw [awp_eq]; kernel_rfl
noncomputable def c28_11 : Code := cr c28_9
theorem w28_11 : awp X n c28_11 Q st = Q .normal st := by rw [awp_eq]; kernel_rfl
theorem w28_9 : awp X n c28_9 Q ([a0,a1,a2,a3,a4,a5,a6,a7,a8,a9,b0,b1,b2,b3,b4,b5,b6,b7,b8,b9,d0,d1], h) = a_cond b9 (awp X n c28_10 Q ([a0,a1,a2,a3,a4,a5,a6,a7,a8,a9,b0,b1,b2,b3,b4,b5,b6,b7,b8,b9,d0,d1], h)) (awp X n c28_11 Q ([a0,a1,a2,a3,a4,a5,a6,a7,a8,a9,b0,b1,b2,b3,b4,b5,b6,b7,b8,b9,d0,d1], h)) := by rw [awp_eq]; kernel_rfl
theorem w28_7 : awp X n c28_7 Q st = awp X n c28_8 (thenQ (awp X n c28_9 Q) Q) st := by rw [awp_eq]; kernel_rfl
noncomputable def c28_12 : Code := cr c28_6
noncomputable def c28_13 : Code := cl c28_12
theorem w28_13 : awp X n c28_13 Q ([a0,a1,a2,a3,a4,a5,a6,a7,a8,a9,b0,b1,b2,b3,b4,b5,b6,b7,b8,b9,d0,d1], h) = (a_mov a6 h (.c (fun t20 h1 => a_mov a5 h1 (.c (fun t21 h2 => a_mov t20 h2 (.c (fun t2 h3 => a_mov t21 h3 (.c (fun t3 h4 => Q .normal ([a0,a1,t2,t3,a4,a5,a6,a7,a8,a9,b0,b1,b2,b3,b4,b5,b6,b7,b8,b9,t20,t21], h4)) ())) ())) ())) ())) := by rw [awp_eq]; kernel_rfl
noncomputable def c28_14 : Code := cr c28_12
theorem w28_14 : awp X n c28_14 Q st = Q .ret st := by rw [awp_eq]; kernel_rfl
theorem w28_12 : awp X n c28_12 Q st = awp X n c28_13 (thenQ (awp X n c28_14 Q) Q) st := by rw [awp_eq]; kernel_rfl
theorem w28_6 : awp X n c28_6 Q st = awp X n c28_7 (thenQ (awp X n c28_12 Q) Q) st := by rw [awp_eq]; kernel_rfl
theorem w28_4 : awp X n c28_4 Q st = awp X n c28_5 (thenQ (awp X n c28_6 Q) Q) st := by rw [awp_eq]; kernel_rfl
theorem w28_2 : awp X n c28_2 Q st = awp X n c28_3 (thenQ (awp X n c28_4 Q) Q) st := by rw [awp_eq]; kernel_rfl
theorem w28_0 : awp X n c28_0 Q st = awp X n c28_1 (thenQ (awp X n c28_2 Q) Q) st := by rw [awp_eq]; kernel_rfl
theorem q28_ret : retQ X Tryd.f28 K .ret ([a0,a1,a2,a3,a4,a5,a6,a7,a8,a9,b0,b1,b2,b3,b4,b5,b6,b7,b8,b9,d0,d1], h) = (K.K (.t [a2, a3]) h) := by kernel_rfl
theorem q28_normal : retQ X Tryd.f28 K .normal ([a0,a1,a2,a3,a4,a5,a6,a7,a8,a9,b0,b1,b2,b3,b4,b5,b6,b7,b8,b9,d0,d1], h) = (K.K (.t [a2, a3]) h) := by kernel_rfl
theorem i28 (H : awp X h.length c28_0 (retQ X Tryd.f28 K) ([a0,.bad,.bad,.bad,.bad,.bad,.bad,.bad,.bad,.bad,.bad,.bad,.bad,.bad,.bad,.bad,.bad,.bad,.bad,.bad,.bad,.bad], h)) : ACall X 28 [a0] h K := acall_intro (fn := Tryd.f28) (by kernel_rfl) (by kernel_rfl) (by kernel_rfl) H
noncomputable def R28 := And.intro (And.intro (And.intro (And.intro w28_1 w28_3) (And.intro w28_5 w28_8)) (And.intro (And.intro w28_10 w28_11) (And.intro w28_9 w28_7))) (And.intro (And.intro (And.intro w28_13 w28_14) (And.intro w28_12 w28_6)) (And.intro (And.intro w28_4 w28_2) (And.intro (w28_0) (And.intro q28_ret q28_normal))))
/-! function 39: sindri/length.Wrap -/
noncomputable def c39_0 : Code := bodyOf Tryd.f39
noncomputable def c39_1 : Code := cl c39_0
theorem w39_1 : awp X n c39_1 Q ([a0,a1,a2,a3,a4,a5,a6,a7,a8,a9,b0,b1,b2,b3,b4,b5,b6,b7,b8,b9,d0,d1,d2,d3,d4], h) = (a_mov (.v (.slice none 0 0)) h (.c (fun t6 h1 => a_mov (.v (.int .i64 0)) h1 (.c (fun t7 h2 => Q .normal ([a0,a1,a2,a3,a4,a5,t6,t7,a8,a9,b0,b1,b2,b3,b4,b5,b6,b7,b8,b9,d0,d1,d2,d3,d4], h2)) ())) ())) := by rw [awp_eq]; kernel_rfl
noncomputable def c39_2 : Code := cr c39_0
noncomputable def c39_3 : Code := cl c39_2
theorem w39_3 : awp X n c39_3 Q ([a0,a1,a2,a3,a4,a5,a6,a7,a8,a9,b0,b1,b2,b3,b4,b5,b6,b7,b8,b9,d0,d1,d2,d3,d4], h) = (a_mov a0 h (.c (fun t10 h1 => a_mov a2 h1 (.c (fun t11 h2 => a_len t11 h2 (.c (fun t12 h3 => a_cint .u64 t12 h3 (.c (fun t13 h4 => a_mov a1 h4 (.c (fun t14 h5 => ACall X 46 [t10, t13, t14] h5 (.c (fun t15 h6 => a_mov t15 h6 (.c (fun t9 h7 => a_ext 0 t9 h7 (.c (fun t16 h8 => a_ext 1 t9 h8 (.c (fun t17 h9 => a_mov t16 h9 (.c (fun t0 h10 => a_mov t17 h10 (.c (fun t8 h11 => Q .normal ([t0,a1,a2,a3,a4,a5,a6,a7,t8,t9,t10,t11,t12,t13,t14,t15,t16,t17,b8,b9,d0,d1,d2,d3,d4], h11)) ())) ())) ())) ())) ())) ())) ())) ())) ())) ())) ())) := by rw [awp_eq]; kernel_rfl
noncomputable def c39_4 : Code := cr c39_2
noncomputable def c39_5 : Code := cl c39_4
noncomputable def c39_6 : Code := cl c39_5
theorem w39_6 : awp X n c39_6 Q ([a0,a1,a2,a3,a4,a5,a6,a7,a8,a9,b0,b1,b2,b3,b4,b5,b6,b7,b8,b9,d0,d1,d2,d3,d4], h) = (a_mov a8 h (.c (fun t18 h1 => a_bin .neq t18 (.v (.int .i64 0)) h1 (.c (fun t19 h2 => Q .normal ([a0,a1,a2,a3,a4,a5,a6,a7,a8,a9,b0,b1,b2,b3,b4,b5,b6,b7,t18,t19,d0,d1,d2,d3,d4], h2)) ())) ())) := by rw [awp_eq]; kernel_rfl
noncomputable def c39_7 : Code := cr c39_5
noncomputable def c39_8 : Code := cl c39_7
noncomputable def c39_9 : Code := cl c39_8
theorem w39_9 : awp X n c39_9 Q ([a0,a1,a2,a3,a4,a5,a6,a7,a8,a9,b0,b1,b2,b3,b4,b5,b6,b7,b8,b9,d0,d1,d2,d3,d4], h) = (a_mov a0 h (.c (fun t20 h1 => a_mov a8 h1 (.c (fun t21 h2 => a_mov t20 h2 (.c (fun t6 h3 => a_mov t21 h3 (.c (fun t7 h4 => Q .normal ([a0,a1,a2,a3,a4,a5,t6,t7,a8,a9,b0,b1,b2,b3,b4,b5,b6,b7,b8,b9,t20,t21,d2,d3,d4], h4)) ())) ())) ())) ())) := by rw [awp_eq]; kernel_rfl
noncomputable def c39_10 : Code := cr c39_8
theorem w39_10 : awp X n c39_10 Q st = Q .ret st := by rw [awp_eq]; kernel_rfl
theorem w39_8 : awp X n c39_8 Q st = awp X n c39_9 (thenQ (awp X n c39_10 Q) Q) st := by rw [awp_eq]; kernel_rfl
noncomputable def c39_11 : Code := cr c39_7
theorem w39_11 : awp X n c39_11 Q st = Q .normal st := by rw [awp_eq]; kernel_rfl
theorem w39_7 : awp X n c39_7 Q ([a0,a1,a2,a3,a4,a5,a6,a7,a8,a9,b0,b1,b2,b3,b4,b5,b6,b7,b8,b9,d0,d1,d2,d3,d4], h) = a_cond b9 (awp X n c39_8 Q ([a0,a1,a2,a3,a4,a5,a6,a7,a8,a9,b0,b1,b2,b3,b4,b5,b6,b7,b8,b9,d0,d1,d2,d3,d4], h)) (awp X n c39_11 Q ([a0,a1,a2,a3,a4,a5,a6,a7,a8,a9,b0,b1,b2,b3,b4,b5,b6,b7,b8,b9,d0,d1,d2,d3,d4], h)) := by rw [awp_eq]; kernel_rfl
theorem w39_5 : awp X n c39_5 Q st = awp X n c39_6 (thenQ (awp X n c39_7 Q) Q) st := by rw [awp_eq]; kernel_rfl
noncomputable def c39_12 : Code := cr c39_4
noncomputable def c39_13 : Code := cl c39_12
theorem w39_13 : awp X n c39_13 Q ([a0,a1,a2,a3,a4,a5,a6,a7,a8,a9,b0,b1,b2,b3,b4,b5,b6,b7,b8,b9,d0,d1,d2,d3,d4], h) = (a_mov a0 h (.c (fun t22 h1 => a_mov a2 h1 (.c (fun t23 h2 => a_app 1 1 t22 t23 h2 (.c (fun t24 h3 => a_mov t24 h3 (.c (fun t6 h4 => a_mov (.v (.int .i64 0)) h4 (.c (fun t7 h5 => Q .normal ([a0,a1,a2,a3,a4,a5,t6,t7,a8,a9,b0,b1,b2,b3,b4,b5,b6,b7,b8,b9,d0,d1,t22,t23,t24], h5)) ())) ())) ())) ())) ())) := by rw [awp_eq]; kernel_rfl
noncomputable def c39_14 : Code := cr c39_12
theorem w39_14 : awp X n c39_14 Q st = Q .ret st := by rw [awp_eq]; kernel_rfl
theorem w39_12 : awp X n c39_12 Q st = awp X n c39_13 (thenQ (awp X n c39_14 Q) Q) st := by rw [awp_eq]; kernel_rfl
theorem w39_4 : awp X n c39_4 Q st = awp X n c39_5 (thenQ (awp X n c39_12 Q) Q) st := by rw [awp_eq]; kernel_rfl
theorem w39_2 : awp X n c39_2 Q st = awp X n c39_3 (thenQ (awp X n c39_4 Q) Q) st := by rw [awp_eq]; kernel_rfl
theorem w39_0 : awp X n c39_0 Q st = awp X n c39_1 (thenQ (awp X n c39_2 Q) Q) st := by rw [awp_eq]; kernel_rfl
theorem q39_ret : retQ X Tryd.f39 K .ret ([a0,a1,a2,a3,a4,a5,a6,a7,a8,a9,b0,b1,b2,b3,b4,b5,b6,b7,b8,b9,d0,d1,d2,d3,d4], h) = (K.K (.t [a6, a7]) h) := by kernel_rfl
theorem q39_normal : retQ X Tryd.f39 K .normal ([a0,a1,a2,a3,a4,a5,a6,a7,a8,a9,b0,b1,b2,b3,b4,b5,b6,b7,b8,b9,d0,d1,d2,d3,d4], h) = (K.K (.t [a6, a7]) h) := by kernel_rfl
theorem i39 (H : awp X h.length c39_0 (retQ X Tryd.f39 K) ([a0,a1,a2,.bad,.bad,.bad,.bad,.bad,.bad,.bad,.bad,.bad,.bad,.bad,.bad,.bad,.bad,.bad,.bad,.bad,.bad,.bad,.bad,.bad,.bad], h)) : ACall X 39 [a0, a1, a2] h K := acall_intro (fn := Tryd.f39) (by kernel_rfl) (by kernel_rfl) (by kernel_rfl) H
noncomputable def R39 := And.intro (And.intro (And.intro (And.intro w39_1 w39_3) (And.intro w39_6 w39_9)) (And.intro (And.intro w39_10 w39_8) (And.intro w39_11 w39_7))) (And.intro (And.intro (And.intro w39_5 w39_13) (And.intro w39_14 w39_12)) (And.intro (And.intro w39_4 w39_2) (And.intro (w39_0) (And.intro q39_ret q39_normal))))
/-! function 42: sindri/length.Body -/
noncomputable def c42_0 : Code := bodyOf Tryd.f42
noncomputable def c42_1 : Code := cl c42_0
theorem w42_1 : awp X n c42_1 Q ([a0,a1,a2,a3,a4,a5,a6,a7,a8,a9,b0,b1,b2,b3,b4,b5,b6,b7,b8,b9], h) = (a_mov (.v (.pointer none)) h (.c (fun t2 h1 => a_mov (.v (.bool false)) h1 (.c (fun t3 h2 => Q .normal ([a0,a1,t2,t3,a4,a5,a6,a7,a8,a9,b0,b1,b2,b3,b4,b5,b6,b7,b8,b9], h2)) ())) ())) := by rw [awp_eq]; kernel_rfl
noncomputable def c42_2 : Code := cr c42_0
noncomputable def c42_3 : Code := cl c42_2
theorem w42_3 : awp X n c42_3 Q ([a0,a1,a2,a3,a4,a5,a6,a7,a8,a9,b0,b1,b2,b3,b4,b5,b6,b7,b8,b9], h) = (a_mov a0 h (.c (fun t6 h1 => ACall X 47 [t6] h1 (.c (fun t7 h2 => a_mov t7 h2 (.c (fun t5 h3 => a_ext 0 t5 h3 (.c (fun t8 h4 => a_ext 1 t5 h4 (.c (fun t9 h5 => a_mov t8 h5 (.c (fun t4 h6 => a_mov t9 h6 (.c (fun t3 h7 => Q .normal ([a0,a1,a2,t3,t4,t5,t6,t7,t8,t9,b0,b1,b2,b3,b4,b5,b6,b7,b8,b9], h7)) ())) ())) ())) ())) ())) ())) ())) := by rw [awp_eq]; kernel_rfl
noncomputable def c42_4 : Code := cr c42_2
noncomputable def c42_5 : Code := cl c42_4
theorem w42_5 : awp X n c42_5 Q ([a0,a1,a2,a3,a4,a5,a6,a7,a8,a9,b0,b1,b2,b3,b4,b5,b6,b7,b8,b9], h) = (a_mov a0 h (.c (fun t10 h1 => a_mov a4 h1 (.c (fun t11 h2 => ACall X 48 [t10, t11] h2 (.c (fun t12 h3 => a_mov t12 h3 (.c (fun t2 h4 => Q .normal ([a0,a1,t2,a3,a4,a5,a6,a7,a8,a9,t10,t11,t12,b3,b4,b5,b6,b7,b8,b9], h4)) ())) ())) ())) ())) := by rw [awp_eq]; kernel_rfl
noncomputable def c42_6 : Code := cr c42_4
noncomputable def c42_7 : Code := cl c42_6
theorem w42_7 : awp X n c42_7 Q ([a0,a1,a2,a3,a4,a5,a6,a7,a8,a9,b0,b1,b2,b3,b4,b5,b6,b7,b8,b9], h) = (a_mov a2 h (.c (fun t13 h1 => a_mov a3 h1 (.c (fun t14 h2 => a_mov t14 h2 (.c (fun t15 h3 => a_on t15 true (fun k => a_mov a2 h3 k) h3 (.c (fun t16 h4 => a_on t15 true (fun k => ACall X 34 [t16] h4 k) h4 (.c (fun t17 h5 => a_on t15 true (fun k => a_bin .eql t17 (.v (.int .i64 0)) h5 k) h5 (.c (fun t18 h6 => a_pick t15 t18 (.v (.bool false)) h6 (.c (fun t19 h7 => a_mov t13 h7 (.c (fun t2 h8 => a_mov t19 h8 (.c (fun t3 h9 => Q .normal ([a0,a1,t2,t3,a4,a5,a6,a7,a8,a9,b0,b1,b2,t13,t14,t15,t16,t17,t18,t19], h9)) ())) ())) ())) ())) ())) ())) ())) ())) ())) := by rw [awp_eq]; kernel_rfl
noncomputable def c42_8 : Code := cr c42_6
theorem w42_8 : awp X n c42_8 Q st = Q .ret st := by rw [awp_eq]; kernel_rfl
theorem w42_6 : awp X n c42_6 Q st = awp X n c42_7 (thenQ (awp X n c42_8 Q) Q) st := by rw [awp_eq]; kernel_rfl
theorem w42_4 : awp X n c42_4 Q st = awp X n c42_5 (thenQ (awp X n c42_6 Q) Q) st := by rw [awp_eq]; kernel_rfl
theorem w42_2 : awp X n c42_2 Q st = awp X n c42_3 (thenQ (awp X n c42_4 Q) Q) st := by rw [awp_eq]; kernel_rfl
theorem w42_0 : awp X n c42_0 Q st = awp X n c42_1 (thenQ (awp X n c42_2 Q) Q) st := by rw [awp_eq]; kernel_rfl
theorem q42_ret : retQ X Tryd.f42 K .ret ([a0,a1,a2,a3,a4,a5,a6,a7,a8,a9,b0,b1,b2,b3,b4,b5,b6,b7,b8,b9], h) = (K.K (.t [a2, a3]) h) := by kernel_rfl
theorem q42_normal : retQ X Tryd.f42 K .normal ([a0,a1,a2,a3,a4,a5,a6,a7,a8,a9,b0,b1,b2,b3,b4,b5,b6,b7,b8,b9], h) = (K.K (.t [a2, a3]) h) := by kernel_rfl
theorem i42 (H : awp X h.length c42_0 (retQ X Tryd.f42 K) ([a0,.bad,.bad,.bad,.bad,.bad,.bad,.bad,.bad,.bad,.bad,.bad,.bad,.bad,.bad,.bad,.bad,.bad,.bad,.bad], h)) : ACall X 42 [a0] h K := acall_intro (fn := Tryd.f42) (by kernel_rfl) (by kernel_rfl) (by kernel_rfl) H
noncomputable def R42 := And.intro (And.intro (And.intro w42_1 w42_3) (And.intro (w42_5) (And.intro w42_7 w42_8))) (And.intro (And.intro (w42_6) (And.intro w42_4 w42_2)) (And.intro (w42_0) (And.intro q42_ret q42_normal)))
/-! function 44: sindri/sindriref05.Take -/
noncomputable def c44_0 : Code := bodyOf Tryd.f44
noncomputable def c44_1 : Code := cl c44_0
theorem w44_1 : awp X n c44_1 Q ([a0,a1,a2,a3,a4,a5,a6,a7,a8,a9,b0,b1,b2,b3,b4,b5,b6,b7,b8,b9,d0,d1], h) = (a_mov (.v (.int .u64 0)) h (.c (fun t2 h1 => a_mov (.v (.bool false)) h1 (.c (fun t3 h2 => Q .normal ([a0,a1,t2,t3,a4,a5,a6,a7,a8,a9,b0,b1,b2,b3,b4,b5,b6,b7,b8,b9,d0,d1], h2)) ())) ())) := by rw [awp_eq]; kernel_rfl
noncomputable def c44_2 : Code := cr c44_0
noncomputable def c44_3 : Code := cl c44_2
theorem w44_3 : awp X n c44_3 Q ([a0,a1,a2,a3,a4,a5,a6,a7,a8,a9,b0,b1,b2,b3,b4,b5,b6,b7,b8,b9,d0,d1], h) = (a_mov a0 h (.c (fun t5 h1 => ACall X 29 [t5, (.v (.int .i64 4))] h1 (.c (fun t6 h2 => a_mov t6 h2 (.c (fun t4 h3 => Q .normal ([a0,a1,a2,a3,t4,t5,t6,a7,a8,a9,b0,b1,b2,b3,b4,b5,b6,b7,b8,b9,d0,d1], h3)) ())) ())) ())) := by rw [awp_eq]; kernel_rfl
noncomputable def c44_4 : Code := cr c44_2
noncomputable def c44_5 : Code := cl c44_4
noncomputable def c44_6 : Code := cl c44_5
theorem w44_6 : awp X n c44_6 Q ([a0,a1,a2,a3,a4,a5,a6,a7,a8,a9,b0,b1,b2,b3,b4,b5,b6,b7,b8,b9,d0,d1], h) = (a_mov a4 h (.c (fun t7 h1 => a_bin .lss t7 (.v (.int .u64 4294967280)) h1 (.c (fun t8 h2 => Q .normal ([a0,a1,a2,a3,a4,a5,a6,t7,t8,a9,b0,b1,b2,b3,b4,b5,b6,b7,b8,b9,d0,d1], h2)) ())) ())) := by rw [awp_eq]; kernel_rfl
noncomputable def c44_7 : Code := cr c44_5
noncomputable def c44_8 : Code := cl c44_7
noncomputable def c44_9 : Code := cl c44_8
theorem w44_9 : awp X n c44_9 Q ([a0,a1,a2,a3,a4,a5,a6,a7,a8,a9,b0,b1,b2,b3,b4,b5,b6,b7,b8,b9,d0,d1], h) = (a_mov a4 h (.c (fun t9 h1 => a_mov t9 h1 (.c (fun t2 h2 => a_mov (.v (.bool false)) h2 (.c (fun t3 h3 => Q .normal ([a0,a1,t2,t3,a4,a5,a6,a7,a8,t9,b0,b1,b2,b3,b4,b5,b6,b7,b8,b9,d0,d1], h3)) ())) ())) ())) := by rw [awp_eq]; kernel_rfl
noncomputable def c44_10 : Code := cr c44_8
theorem w44_10 : awp X n c44_10 Q st = Q .ret st := by rw [awp_eq]; kernel_rfl
theorem w44_8 : awp X n c44_8 Q st = awp X n c44_9 (thenQ (awp X n c44_10 Q) Q) st := by rw [awp_eq]; kernel_rfl
noncomputable def c44_11 : Code := cr c44_7
theorem w44_11 : awp X n c44_11 Q st = Q .normal st := by rw [awp_eq]; kernel_rfl
theorem w44_7 : awp X n c44_7 Q ([a0,a1,a2,a3,a4,a5,a6,a7,a8,a9,b0,b1,b2,b3,b4,b5,b6,b7,b8,b9,d0,d1], h) = a_cond a8 (awp X n c44_8 Q ([a0,a1,a2,a3,a4,a5,a6,a7,a8,a9,b0,b1,b2,b3,b4,b5,b6,b7,b8,b9,d0,d1], h)) (awp X n c44_11 Q ([a0,a1,a2,a3,a4,a5,a6,a7,a8,a9,b0,b1,b2,b3,b4,b5,b6,b7,b8,b9,d0,d1], h)) := by rw [awp_eq]; kernel_rfl
theorem w44_5 : awp X n c44_5 Q st = awp X n c44_6 (thenQ (awp X n c44_7 Q) Q) st := by rw [awp_eq]; kernel_rfl
noncomputable def c44_12 : Code := cr c44_4
noncomputable def c44_13 : Code := cl c44_12
noncomputable def c44_14 : Code := cl c44_13
theorem w44_14 : awp X n c44_14 Q ([a0,a1,a2,a3,a4,a5,a6,a7,a8,a9,b0,b1,b2,b3,b4,b5,b6,b7,b8,b9,d0,d1], h) = (a_mov a4 h (.c (fun t10 h1 => a_bin .neq t10 (.v (.int .u64 4294967295)) h1 (.c (fun t11 h2 => Q .normal ([a0,a1,a2,a3,a4,a5,a6,a7,a8,a9,t10,t11,b2,b3,b4,b5,b6,b7,b8,b9,d0,d1], h2)) ())) ())) := by rw [awp_eq]; kernel_rfl
noncomputable def c44_15 : Code := cr c44_13
noncomputable def c44_16 : Code := cl c44_15
noncomputable def c44_17 : Code := cl c44_16
theorem w44_17 : awp X n c44_17 Q ([a0,a1,a2,a3,a4,a5,a6,a7,a8,a9,b0,b1,b2,b3,b4,b5,b6,b7,b8,b9,d0,d1], h) = (a_mov a0 h (.c (fun t12 h1 => ACall X 49 [t12, (.v (.int .i64 13))] h1 (.c (fun t13 h2 => Q .normal ([a0,a1,a2,a3,a4,a5,a6,a7,a8,a9,b0,b1,t12,t13,b4,b5,b6,b7,b8,b9,d0,d1], h2)) ())) ())) := by rw [awp_eq]; kernel_rfl
noncomputable def c44_18 : Code := cr c44_16
noncomputable def c44_19 : Code := cl c44_18
theorem w44_19 : awp X n c44_19 Q ([a0,a1,a2,a3,a4,a5,a6,a7,a8,a9,b0,b1,b2,b3,b4,b5,b6,b7,b8,b9,d0,d1], h) = (a_mov (.v (.int .u64 0)) h (.c (fun t2 h1 => a_mov (.v (.bool false)) h1 (.c (fun t3 h2 => Q .normal ([a0,a1,t2,t3,a4,a5,a6,a7,a8,a9,b0,b1,b2,b3,b4,b5,b6,b7,b8,b9,d0,d1], h2)) ())) ())) := by rw [awp_eq]; kernel_rfl
noncomputable def c44_20 : Code := cr c44_18
theorem w44_20 : awp X n c44_20 Q st = Q .ret st := by rw [awp_eq]; kernel_rfl
theorem w44_18 : awp X n c44_18 Q st = awp X n c44_19 (thenQ (awp X n c44_20 Q) Q) st := by rw [awp_eq]; kernel_rfl
theorem w44_16 : awp X n c44_16 Q st = awp X n c44_17 (thenQ (awp X n c44_18 Q) Q) st := by rw [awp_eq]; kernel_rfl
noncomputable def c44_21 : Code := cr c44_15
theorem w44_21 : awp X n c44_21 Q st = Q .normal st := by rw [awp_eq]; kernel_rfl
theorem w44_15 : awp X n c44_15 Q ([a0,a1,a2,a3,a4,a5,a6,a7,a8,a9,b0,b1,b2,b3,b4,b5,b6,b7,b8,b9,d0,d1], h) = a_cond b1 (awp X n c44_16 Q ([a0,a1,a2,a3,a4,a5,a6,a7,a8,a9,b0,b1,b2,b3,b4,b5,b6,b7,b8,b9,d0,d1], h)) (awp X n c44_21 Q ([a0,a1,a2,a3,a4,a5,a6,a7,a8,a9,b0,b1,b2,b3,b4,b5,b6,b7,b8,b9,d0,d1], h)) := by rw [awp_eq]; kernel_rfl
theorem w44_13 : awp X n c44_13 Q st = awp X n c44_14 (thenQ (awp X n c44_15 Q) Q) st := by rw [awp_eq]; kernel_rfl
noncomputable def c44_22 : Code := cr c44_12
noncomputable def c44_23 : Code := cl c44_22
theorem w44_23 : awp X n c44_23 Q ([a0,a1,a2,a3,a4,a5,a6,a7,a8,a9,b0,b1,b2,b3,b4,b5,b6,b7,b8,b9,d0,d1], h) = (a_mov a0 h (.c (fun t14 h1 => ACall X 29 [t14, (.v (.int .i64 8))] h1 (.c (fun t15 h2 => a_mov t15 h2 (.c (fun t4 h3 => Q .normal ([a0,a1,a2,a3,t4,a5,a6,a7,a8,a9,b0,b1,b2,b3,t14,t15,b6,b7,b8,b9,d0,d1], h3)) ())) ())) ())) := by rw [awp_eq]; kernel_rfl
noncomputable def c44_24 : Code := cr c44_22
noncomputable def c44_25 : Code := cl c44_24
theorem w44_25 : awp X n c44_25 Q ([a0,a1,a2,a3,a4,a5,a6,a7,a8,a9,b0,b1,b2,b3,b4,b5,b6,b7,b8,b9,d0,d1], h) = (a_mov a4 h (.c (fun t16 h1 => a_mov a0 h1 (.c (fun t17 h2 => a_nilc t17 h2 (.c (fun t18 h3 => a_fa 2 t18 h3 (.c (fun t19 h4 => a_load 1 false t19 h4 (.c (fun t20 h5 => a_bin .eql t20 (.v (.int .i64 0)) h5 (.c (fun t21 h6 => a_mov t16 h6 (.c (fun t2 h7 => a_mov t21 h7 (.c (fun t3 h8 => Q .normal ([a0,a1,t2,t3,a4,a5,a6,a7,a8,a9,b0,b1,b2,b3,b4,b5,t16,t17,t18,t19,t20,t21], h8)) ())) ())) ())) ())) ())) ())) ())) ())) := by rw [awp_eq]; kernel_rfl
noncomputable def c44_26 : Code := cr c44_24
theorem w44_26 : awp X n c44_26 Q st = Q .ret st := by rw [awp_eq]; kernel_rfl
theorem w44_24 : awp X n c44_24 Q st = awp X n c44_25 (thenQ (awp X n c44_26 Q) Q) st := by rw [awp_eq]; kernel_rfl
theorem w44_22 : awp X n c44_22 Q st = awp X n c44_23 (thenQ (awp X n c44_24 Q) Q) st := by rw [awp_eq]; kernel_rfl
theorem w44_12 : awp X n c44_12 Q st = awp X n c44_13 (thenQ (awp X n c44_22 Q) Q) st := by rw [awp_eq]; kernel_rfl
theorem w44_4 : awp X n c44_4 Q st = awp X n c44_5 (thenQ (awp X n c44_12 Q) Q) st := by rw [awp_eq]; kernel_rfl
theorem w44_2 : awp X n c44_2 Q st = awp X n c44_3 (thenQ (awp X n c44_4 Q) Q) st := by rw [awp_eq]; kernel_rfl
theorem w44_0 : awp X n c44_0 Q st = awp X n c44_1 (thenQ (awp X n c44_2 Q) Q) st := by rw [awp_eq]; kernel_rfl
theorem q44_ret : retQ X Tryd.f44 K .ret ([a0,a1,a2,a3,a4,a5,a6,a7,a8,a9,b0,b1,b2,b3,b4,b5,b6,b7,b8,b9,d0,d1], h) = (K.K (.t [a2, a3]) h) := by kernel_rfl
theorem q44_normal : retQ X Tryd.f44 K .normal ([a0,a1,a2,a3,a4,a5,a6,a7,a8,a9,b0,b1,b2,b3,b4,b5,b6,b7,b8,b9,d0,d1], h) = (K.K (.t [a2, a3]) h) := by kernel_rfl
theorem i44 (H : awp X h.length c44_0 (retQ X Tryd.f44 K) ([a0,.bad,.bad,.bad,.bad,.bad,.bad,.bad,.bad,.bad,.bad,.bad,.bad,.bad,.bad,.bad,.bad,.bad,.bad,.bad,.bad,.bad], h)) : ACall X 44 [a0] h K := acall_intro (fn := Tryd.f44) (by kernel_rfl) (by kernel_rfl) (by kernel_rfl) H
noncomputable def R44 := And.intro (And.intro (And.intro (And.intro (w44_1) (And.intro w44_3 w44_6)) (And.intro (And.intro w44_9 w44_10) (And.intro w44_8 w44_11))) (And.intro (And.intro (w44_7) (And.intro w44_5 w44_14)) (And.intro (And.intro w44_17 w44_19) (And.intro w44_20 w44_18)))) (And.intro (And.intro (And.intro (w44_16) (And.intro w44_21 w44_15)) (And.intro (And.intro w44_13 w44_23) (And.intro w44_25 w44_26))) (And.intro (And.intro (And.intro w44_24 w44_22) (And.intro w44_12 w44_4)) (And.intro (And.intro w44_2 w44_0) (And.intro q44_ret q44_normal))))
/-! function 46: sindri/length.Put -/
noncomputable def c46_0 : Code := bodyOf Tryd.f46
noncomputable def c46_1 : Code := cl c46_0
theorem w46_1 : awp X n c46_1 Q ([a0,a1,a2,a3,a4,a5,a6,a7,a8,a9,b0,b1,b2,b3,b4,b5,b6,b7,b8,b9,d0,d1,d2,d3], h) = (a_mov (.v (.slice none 0 0)) h (.c (fun t6 h1 => a_mov (.v (.int .i64 0)) h1 (.c (fun t7 h2 => Q .normal ([a0,a1,a2,a3,a4,a5,t6,t7,a8,a9,b0,b1,b2,b3,b4,b5,b6,b7,b8,b9,d0,d1,d2,d3], h2)) ())) ())) := by rw [awp_eq]; kernel_rfl
noncomputable def c46_2 : Code := cr c46_0
noncomputable def c46_3 : Code := cl c46_2
noncomputable def c46_4 : Code := cl c46_3
theorem w46_4 : awp X n c46_4 Q ([a0,a1,a2,a3,a4,a5,a6,a7,a8,a9,b0,b1,b2,b3,b4,b5,b6,b7,b8,b9,d0,d1,d2,d3], h) = (a_mov a2 h (.c (fun t8 h1 => a_un .not t8 h1 (.c (fun t9 h2 => a_mov t9 h2 (.c (fun t10 h3 => a_on t10 true (fun k => a_mov a1 h3 k) h3 (.c (fun t11 h4 => a_on t10 true (fun k => a_bin .geq t11 (.v (.int .u64 4294967280)) h4 k) h4 (.c (fun t12 h5 => a_pick t10 t12 (.v (.bool false)) h5 (.c (fun t13 h6 => Q .normal ([a0,a1,a2,a3,a4,a5,a6,a7,t8,t9,t10,t11,t12,t13,b4,b5,b6,b7,b8,b9,d0,d1,d2,d3], h6)) ())) ())) ())) ())) ())) ())) := by rw [awp_eq]; kernel_rfl
noncomputable def c46_5 : Code := cr c46_3
noncomputable def c46_6 : Code := cl c46_5
noncomputable def c46_7 : Code := cl c46_6
theorem w46_7 : awp X n c46_7 Q ([a0,a1,a2,a3,a4,a5,a6,a7,a8,a9,b0,b1,b2,b3,b4,b5,b6,b7,b8,b9,d0,d1,d2,d3], h) = (a_mov a0 h (.c (fun t14 h1 => a_mov t14 h1 (.c (fun t6 h2 => a_mov (.v (.int .i64 13)) h2 (.c (fun t7 h3 => Q .normal ([a0,a1,a2,a3,a4,a5,t6,t7,a8,a9,b0,b1,b2,b3,t14,b5,b6,b7,b8,b9,d0,d1,d2,d3], h3)) ())) ())) ())) := by rw [awp_eq]; kernel_rfl
noncomputable def c46_8 : Code := cr c46_6
theorem w46_8 : awp X n c46_8 Q st = Q .ret st := by rw [awp_eq]; kernel_rfl
theorem w46_6 : awp X n c46_6 Q st = awp X n c46_7 (thenQ (awp X n c46_8 Q) Q) st := by rw [awp_eq]; kernel_rfl
noncomputable def c46_9 : Code := cr c46_5
theorem w46_9 : awp X n c46_9 Q st = Q .normal st := by rw [awp_eq]; kernel_rfl
theorem w46_5 : awp X n c46_5 Q ([a0,a1,a2,a3,a4,a5,a6,a7,a8,a9,b0,b1,b2,b3,b4,b5,b6,b7,b8,b9,d0,d1,d2,d3], h) = a_cond b3 (awp X n c46_6 Q ([a0,a1,a2,a3,a4,a5,a6,a7,a8,a9,b0,b1,b2,b3,b4,b5,b6,b7,b8,b9,d0,d1,d2,d3], h)) (awp X n c46_9 Q ([a0,a1,a2,a3,a4,a5,a6,a7,a8,a9,b0,b1,b2,b3,b4,b5,b6,b7,b8,b9,d0,d1,d2,d3], h)) := by rw [awp_eq]; kernel_rfl
theorem w46_3 : awp X n c46_3 Q st = awp X n c46_4 (thenQ (awp X n c46_5 Q) Q) st := by rw [awp_eq]; kernel_rfl
noncomputable def c46_10 : Code := cr c46_2
noncomputable def c46_11 : Code := cl c46_10
noncomputable def c46_12 : Code := cl c46_11
theorem w46_12 : awp X n c46_12 Q ([a0,a1,a2,a3,a4,a5,a6,a7,a8,a9,b0,b1,b2,b3,b4,b5,b6,b7,b8,b9,d0,d1,d2,d3], h) = (a_mov a2 h (.c (fun t15 h1 => Q .normal ([a0,a1,a2,a3,a4,a5,a6,a7,a8,a9,b0,b1,b2,b3,b4,t15,b6,b7,b8,b9,d0,d1,d2,d3], h1)) ())) := by rw [awp_eq]; kernel_rfl
noncomputable def c46_13 : Code := cr c46_11
noncomputable def c46_14 : Code := cl c46_13
theorem w46_14 : awp X n c46_14 Q ([a0,a1,a2,a3,a4,a5,a6,a7,a8,a9,b0,b1,b2,b3,b4,b5,b6,b7,b8,b9,d0,d1,d2,d3], h) = (a_mov a0 h (.c (fun t16 h1 => ACall X 21 [(.v (.bool false))] h1 (.c (fun t17 h2 => ACall X 38 [t16, (.v (.int .u64 4294967295)), t17] h2 (.c (fun t18 h3 => a_mov t18 h3 (.c (fun t0 h4 => Q .normal ([t0,a1,a2,a3,a4,a5,a6,a7,a8,a9,b0,b1,b2,b3,b4,b5,t16,t17,t18,b9,d0,d1,d2,d3], h4)) ())) ())) ())) ())) := by rw [awp_eq]; kernel_rfl
noncomputable def c46_15 : Code := cr c46_13
theorem w46_15 : awp X n c46_15 Q st = Q .normal st := by rw [awp_eq]; kernel_rfl
theorem w46_13 : awp X n c46_13 Q ([a0,a1,a2,a3,a4,a5,a6,a7,a8,a9,b0,b1,b2,b3,b4,b5,b6,b7,b8,b9,d0,d1,d2,d3], h) = a_cond b5 (awp X n c46_14 Q ([a0,a1,a2,a3,a4,a5,a6,a7,a8,a9,b0,b1,b2,b3,b4,b5,b6,b7,b8,b9,d0,d1,d2,d3], h)) (awp X n c46_15 Q ([a0,a1,a2,a3,a4,a5,a6,a7,a8,a9,b0,b1,b2,b3,b4,b5,b6,b7,b8,b9,d0,d1,d2,d3], h)) := by rw [awp_eq]; kernel_rfl
theorem w46_11 : awp X n c46_11 Q st = awp X n c46_12 (thenQ (awp X n c46_13 Q) Q) st := by rw [awp_eq]; kernel_rfl
noncomputable def c46_16 : Code := cr c46_10
noncomputable def c46_17 : Code := cl c46_16
theorem w46_17 : awp X n c46_17 Q ([a0,a1,a2,a3,a4,a5,a6,a7,a8,a9,b0,b1,b2,b3,b4,b5,b6,b7,b8,b9,d0,d1,d2,d3], h) = (a_mov a0 h (.c (fun t19 h1 => a_mov a1 h1 (.c (fun t20 h2 => a_mov a2 h2 (.c (fun t21 h3 => ACall X 21 [t21] h3 (.c (fun t22 h4 => ACall X 38 [t19, t20, t22] h4 (.c (fun t23 h5 => a_mov t23 h5 (.c (fun t6 h6 => a_mov (.v (.int .i64 0)) h6 (.c (fun t7 h7 => Q .normal ([a0,a1,a2,a3,a4,a5,t6,t7,a8,a9,b0,b1,b2,b3,b4,b5,b6,b7,b8,t19,t20,t21,t22,t23], h7)) ())) ())) ())) ())) ())) ())) ())) := by rw [awp_eq]; kernel_rfl
noncomputable def c46_18 : Code := cr c46_16
theorem w46_18 : awp X n c46_18 Q st = Q .ret st := by rw [awp_eq]; kernel_rfl
theorem w46_16 : awp X n c46_16 Q st = awp X n c46_17 (thenQ (awp X n c46_18 Q) Q) st := by rw [awp_eq]; kernel_rfl
theorem w46_10 : awp X n c46_10 Q st = awp X n c46_11 (thenQ (awp X n c46_16 Q) Q) st := by rw [awp_eq]; kernel_rfl
theorem w46_2 : awp X n c46_2 Q st = awp X n c46_3 (thenQ (awp X n c46_10 Q) Q) st := by rw [awp_eq]; kernel_rfl
theorem w46_0 : awp X n c46_0 Q st = awp X n c46_1 (thenQ (awp X n c46_2 Q) Q) st := by rw [awp_eq]; kernel_rfl
theorem q46_ret : retQ X Tryd.f46 K .ret ([a0,a1,a2,a3,a4,a5,a6,a7,a8,a9,b0,b1,b2,b3,b4,b5,b6,b7,b8,b9,d0,d1,d2,d3], h) = (K.K (.t [a6, a7]) h) := by kernel_rfl
theorem q46_normal : retQ X Tryd.f46 K .normal ([a0,a1,a2,a3,a4,a5,a6,a7,a8,a9,b0,b1,b2,b3,b4,b5,b6,b7,b8,b9,d0,d1,d2,d3], h) = (K.K (.t [a6, a7]) h) := by kernel_rfl
theorem i46 (H : awp X h.length c46_0 (retQ X Tryd.f46 K) ([a0,a1,a2,.bad,.bad,.bad,.bad,.bad,.bad,.bad,.bad,.bad,.bad,.bad,.bad,.bad,.bad,.bad,.bad,.bad,.bad,.bad,.bad,.bad], h)) : ACall X 46 [a0, a1, a2] h K := acall_intro (fn := Tryd.f46) (by kernel_rfl) (by kernel_rfl) (by kernel_rfl) H
noncomputable def R46 := And.intro (And.intro (And.intro (And.intro w46_1 w46_4) (And.intro (w46_7) (And.intro w46_8 w46_6))) (And.intro (And.intro w46_9 w46_5) (And.intro (w46_3) (And.intro w46_12 w46_14)))) (And.intro (And.intro (And.intro w46_15 w46_13) (And.intro (w46_11) (And.intro w46_17 w46_18))) (And.intro (And.intro (w46_16) (And.intro w46_10 w46_2)) (And.intro (w46_0) (And.intro q46_ret q46_normal))))
/-! function 47: sindri/length.Take -/
noncomputable def c47_0 : Code := bodyOf Tryd.f47
noncomputable def c47_1 : Code := cl c47_0
theorem w47_1 : awp X n c47_1 Q ([a0,a1,a2,a3,a4,a5,a6,a7,a8,a9,b0,b1,b2,b3,b4,b5,b6,b7,b8,b9,d0,d1,d2,d3,d4,d5,d6], h) = (a_mov (.v (.int .u64 0)) h (.c (fun t2 h1 => a_mov (.v (.bool false)) h1 (.c (fun t3 h2 => Q .normal ([a0,a1,t2,t3,a4,a5,a6,a7,a8,a9,b0,b1,b2,b3,b4,b5,b6,b7,b8,b9,d0,d1,d2,d3,d4,d5,d6], h2)) ())) ())) := by rw [awp_eq]; kernel_rfl
noncomputable def c47_2 : Code := cr c47_0
noncomputable def c47_3 : Code := cl c47_2
theorem w47_3 : awp X n c47_3 Q ([a0,a1,a2,a3,a4,a5,a6,a7,a8,a9,b0,b1,b2,b3,b4,b5,b6,b7,b8,b9,d0,d1,d2,d3,d4,d5,d6], h) = (a_mov a0 h (.c (fun t4 h1 => ACall X 21 [(.v (.bool false))] h1 (.c (fun t5 h2 => ACall X 19 [t4, t5] h2 (.c (fun t6 h3 => a_mov t6 h3 (.c (fun t2 h4 => Q .normal ([a0,a1,t2,a3,t4,t5,t6,a7,a8,a9,b0,b1,b2,b3,b4,b5,b6,b7,b8,b9,d0,d1,d2,d3,d4,d5,d6], h4)) ())) ())) ())) ())) := by rw [awp_eq]; kernel_rfl
noncomputable def c47_4 : Code := cr c47_2
noncomputable def c47_5 : Code := cl c47_4
noncomputable def c47_6 : Code := cl c47_5
noncomputable def c47_7 : Code := cl c47_6
theorem w47_7 : awp X n c47_7 Q ([a0,a1,a2,a3,a4,a5,a6,a7,a8,a9,b0,b1,b2,b3,b4,b5,b6,b7,b8,b9,d0,d1,d2,d3,d4,d5,d6], h) = (a_mov a0 h (.c (fun t8 h1 => ACall X 34 [t8] h1 (.c (fun t9 h2 => a_bin .neq t9 (.v (.int .i64 0)) h2 (.c (fun t10 h3 => a_mov t10 h3 (.c (fun t7 h4 => Q .normal ([a0,a1,a2,a3,a4,a5,a6,t7,t8,t9,t10,b1,b2,b3,b4,b5,b6,b7,b8,b9,d0,d1,d2,d3,d4,d5,d6], h4)) ())) ())) ())) ())) := by rw [awp_eq]; kernel_rfl
noncomputable def c47_8 : Code := cr c47_6
noncomputable def c47_9 : Code := cl c47_8
noncomputable def c47_10 : Code := cl c47_9
theorem w47_10 : awp X n c47_10 Q ([a0,a1,a2,a3,a4,a5,a6,a7,a8,a9,b0,b1,b2,b3,b4,b5,b6,b7,b8,b9,d0,d1,d2,d3,d4,d5,d6], h) = (a_mov (.v (.int .u64 0)) h (.c (fun t2 h1 => a_mov (.v (.bool false)) h1 (.c (fun t3 h2 => Q .normal ([a0,a1,t2,t3,a4,a5,a6,a7,a8,a9,b0,b1,b2,b3,b4,b5,b6,b7,b8,b9,d0,d1,d2,d3,d4,d5,d6], h2)) ())) ())) := by rw [awp_eq]; kernel_rfl
noncomputable def c47_11 : Code := cr c47_9
theorem w47_11 : awp X n c47_11 Q st = Q .ret st := by rw [awp_eq]; kernel_rfl
theorem w47_9 : awp X n c47_9 Q st = awp X n c47_10 (thenQ (awp X n c47_11 Q) Q) st := by rw [awp_eq]; kernel_rfl
noncomputable def c47_12 : Code := cr c47_8
noncomputable def c47_13 : Code := cl c47_12
theorem w47_13 : awp X n c47_13 Q ([a0,a1,a2,a3,a4,a5,a6,a7,a8,a9,b0,b1,b2,b3,b4,b5,b6,b7,b8,b9,d0,d1,d2,d3,d4,d5,d6], h) = (a_mov a2 h (.c (fun t12 h1 => a_bin .lss t12 (.v (.int .u64 4294967280)) h1 (.c (fun t13 h2 => a_mov t13 h2 (.c (fun t11 h3 => Q .normal ([a0,a1,a2,a3,a4,a5,a6,a7,a8,a9,b0,t11,t12,t13,b4,b5,b6,b7,b8,b9,d0,d1,d2,d3,d4,d5,d6], h3)) ())) ())) ())) := by rw [awp_eq]; kernel_rfl
noncomputable def c47_14 : Code := cr c47_12
noncomputable def c47_15 : Code := cl c47_14
noncomputable def c47_16 : Code := cl c47_15
theorem w47_16 : awp X n c47_16 Q ([a0,a1,a2,a3,a4,a5,a6,a7,a8,a9,b0,b1,b2,b3,b4,b5,b6,b7,b8,b9,d0,d1,d2,d3,d4,d5,d6], h) = (a_mov a2 h (.c (fun t14 h1 => a_mov t14 h1 (.c (fun t2 h2 => a_mov (.v (.bool false)) h2 (.c (fun t3 h3 => Q .normal ([a0,a1,t2,t3,a4,a5,a6,a7,a8,a9,b0,b1,b2,b3,t14,b5,b6,b7,b8,b9,d0,d1,d2,d3,d4,d5,d6], h3)) ())) ())) ())) := by rw [awp_eq]; kernel_rfl
noncomputable def c47_17 : Code := cr c47_15
theorem w47_17 : awp X n c47_17 Q st = Q .ret st := by rw [awp_eq]; kernel_rfl
theorem w47_15 : awp X n c47_15 Q st = awp X n c47_16 (thenQ (awp X n c47_17 Q) Q) st := by rw [awp_eq]; kernel_rfl
noncomputable def c47_18 : Code := cr c47_14
noncomputable def c47_19 : Code := cl c47_18
theorem w47_19 : awp X n c47_19 Q ([a0,a1,a2,a3,a4,a5,a6,a7,a8,a9,b0,b1,b2,b3,b4,b5,b6,b7,b8,b9,d0,d1,d2,d3,d4,d5,d6], h) = (a_mov a2 h (.c (fun t16 h1 => a_bin .neq t16 (.v (.int .u64 4294967295)) h1 (.c (fun t17 h2 => a_mov t17 h2 (.c (fun t15 h3 => Q .normal ([a0,a1,a2,a3,a4,a5,a6,a7,a8,a9,b0,b1,b2,b3,b4,t15,t16,t17,b8,b9,d0,d1,d2,d3,d4,d5,d6], h3)) ())) ())) ())) := by rw [awp_eq]; kernel_rfl
noncomputable def c47_20 : Code := cr c47_18
noncomputable def c47_21 : Code := cl c47_20
noncomputable def c47_22 : Code := cl c47_21
theorem w47_22 : awp X n c47_22 Q ([a0,a1,a2,a3,a4,a5,a6,a7,a8,a9,b0,b1,b2,b3,b4,b5,b6,b7,b8,b9,d0,d1,d2,d3,d4,d5,d6], h) = (a_mov a0 h (.c (fun t18 h1 => ACall X 35 [t18, (.v (.int .i64 13))] h1 (.c (fun t19 h2 => Q .normal ([a0,a1,a2,a3,a4,a5,a6,a7,a8,a9,b0,b1,b2,b3,b4,b5,b6,b7,t18,t19,d0,d1,d2,d3,d4,d5,d6], h2)) ())) ())) := by rw [awp_eq]; kernel_rfl
noncomputable def c47_23 : Code := cr c47_21
noncomputable def c47_24 : Code := cl c47_23
theorem w47_24 : awp X n c47_24 Q ([a0,a1,a2,a3,a4,a5,a6,a7,a8,a9,b0,b1,b2,b3,b4,b5,b6,b7,b8,b9,d0,d1,d2,d3,d4,d5,d6], h) = (a_mov (.v (.int .u64 0)) h (.c (fun t2 h1 => a_mov (.v (.bool false)) h1 (.c (fun t3 h2 => Q .normal ([a0,a1,t2,t3,a4,a5,a6,a7,a8,a9,b0,b1,b2,b3,b4,b5,b6,b7,b8,b9,d0,d1,d2,d3,d4,d5,d6], h2)) ())) ())) := by rw [awp_eq]; kernel_rfl
noncomputable def c47_25 : Code := cr c47_23
theorem w47_25 : awp X n c47_25 Q st = Q .ret st := by rw [awp_eq]; kernel_rfl
theorem w47_23 : awp X n c47_23 Q st = awp X n c47_24 (thenQ (awp X n c47_25 Q) Q) st := by rw [awp_eq]; kernel_rfl
theorem w47_21 : awp X n c47_21 Q st = awp X n c47_22 (thenQ (awp X n c47_23 Q) Q) st := by rw [awp_eq]; kernel_rfl
noncomputable def c47_26 : Code := cr c47_20
theorem w47_26 : awp X n c47_26 Q st = Q .normal st := by rw [awp_eq]; kernel_rfl
theorem w47_20 : awp X n c47_20 Q ([a0,a1,a2,a3,a4,a5,a6,a7,a8,a9,b0,b1,b2,b3,b4,b5,b6,b7,b8,b9,d0,d1,d2,d3,d4,d5,d6], h) = a_cond b5 (awp X n c47_21 Q ([a0,a1,a2,a3,a4,a5,a6,a7,a8,a9,b0,b1,b2,b3,b4,b5,b6,b7,b8,b9,d0,d1,d2,d3,d4,d5,d6], h)) (awp X n c47_26 Q ([a0,a1,a2,a3,a4,a5,a6,a7,a8,a9,b0,b1,b2,b3,b4,b5,b6,b7,b8,b9,d0,d1,d2,d3,d4,d5,d6], h)) := by rw [awp_eq]; kernel_rfl
theorem w47_18 : awp X n c47_18 Q st = awp X n c47_19 (thenQ (awp X n c47_20 Q) Q) st := by rw [awp_eq]; kernel_rfl
theorem w47_14 : awp X n c47_14 Q ([a0,a1,a2,a3,a4,a5,a6,a7,a8,a9,b0,b1,b2,b3,b4,b5,b6,b7,b8,b9,d0,d1,d2,d3,d4,d5,d6], h) = a_cond b1 (awp X n c47_15 Q ([a0,a1,a2,a3,a4,a5,a6,a7,a8,a9,b0,b1,b2,b3,b4,b5,b6,b7,b8,b9,d0,d1,d2,d3,d4,d5,d6], h)) (awp X n c47_18 Q ([a0,a1,a2,a3,a4,a5,a6,a7,a8,a9,b0,b1,b2,b3,b4,b5,b6,b7,b8,b9,d0,d1,d2,d3,d4,d5,d6], h)) := by rw [awp_eq]; kernel_rfl
theorem w47_12 : awp X n c47_12 Q st = awp X n c47_13 (thenQ (awp X n c47_14 Q) Q) st := by rw [awp_eq]; kernel_rfl
theorem w47_8 : awp X n c47_8 Q ([a0,a1,a2,a3,a4,a5,a6,a7,a8,a9,b0,b1,b2,b3,b4,b5,b6,b7,b8,b9,d0,d1,d2,d3,d4,d5,d6], h) = a_cond a7 (awp X n c47_9 Q ([a0,a1,a2,a3,a4,a5,a6,a7,a8,a9,b0,b1,b2,b3,b4,b5,b6,b7,b8,b9,d0,d1,d2,d3,d4,d5,d6], h)) (awp X n c47_12 Q ([a0,a1,a2,a3,a4,a5,a6,a7,a8,a9,b0,b1,b2,b3,b4,b5,b6,b7,b8,b9,d0,d1,d2,d3,d4,d5,d6], h)) := by rw [awp_eq]; kernel_rfl
theorem w47_6 : awp X n c47_6 Q st = awp X n c47_7 (thenQ (awp X n c47_8 Q) Q) st := by rw [awp_eq]; kernel_rfl
theorem w47_5 : awp X n c47_5 Q st = awp X n c47_6 (blockQ 0 Q) st := by rw [awp_eq]; kernel_rfl
noncomputable def c47_27 : Code := cr c47_4
noncomputable def c47_28 : Code := cl c47_27
theorem w47_28 : awp X n c47_28 Q ([a0,a1,a2,a3,a4,a5,a6,a7,a8,a9,b0,b1,b2,b3,b4,b5,b6,b7,b8,b9,d0,d1,d2,d3,d4,d5,d6], h) = (a_mov a0 h (.c (fun t20 h1 => ACall X 21 [(.v (.bool true))] h1 (.c (fun t21 h2 => ACall X 19 [t20, t21] h2 (.c (fun t22 h3 => a_mov t22 h3 (.c (fun t2 h4 => Q .normal ([a0,a1,t2,a3,a4,a5,a6,a7,a8,a9,b0,b1,b2,b3,b4,b5,b6,b7,b8,b9,t20,t21,t22,d3,d4,d5,d6], h4)) ())) ())) ())) ())) := by rw [awp_eq]; kernel_rfl
noncomputable def c47_29 : Code := cr c47_27
noncomputable def c47_30 : Code := cl c47_29
theorem w47_30 : awp X n c47_30 Q ([a0,a1,a2,a3,a4,a5,a6,a7,a8,a9,b0,b1,b2,b3,b4,b5,b6,b7,b8,b9,d0,d1,d2,d3,d4,d5,d6], h) = (a_mov a2 h (.c (fun t23 h1 => a_mov a0 h1 (.c (fun t24 h2 => ACall X 34 [t24] h2 (.c (fun t25 h3 => a_bin .eql t25 (.v (.int .i64 0)) h3 (.c (fun t26 h4 => a_mov t23 h4 (.c (fun t2 h5 => a_mov t26 h5 (.c (fun t3 h6 => Q .normal ([a0,a1,t2,t3,a4,a5,a6,a7,a8,a9,b0,b1,b2,b3,b4,b5,b6,b7,b8,b9,d0,d1,d2,t23,t24,t25,t26], h6)) ())) ())) ())) ())) ())) ())) := by rw [awp_eq]; kernel_rfl
noncomputable def c47_31 : Code := cr c47_29
theorem w47_31 : awp X n c47_31 Q st = Q .ret st := by rw [awp_eq]; kernel_rfl
theorem w47_29 : awp X n c47_29 Q st = awp X n c47_30 (thenQ (awp X n c47_31 Q) Q) st := by rw [awp_eq]; kernel_rfl
theorem w47_27 : awp X n c47_27 Q st = awp X n c47_28 (thenQ (awp X n c47_29 Q) Q) st := by rw [awp_eq]; kernel_rfl
theorem w47_4 : awp X n c47_4 Q st = awp X n c47_5 (thenQ (awp X n c47_27 Q) Q) st := by rw [awp_eq]; kernel_rfl
theorem w47_2 : awp X n c47_2 Q st = awp X n c47_3 (thenQ (awp X n c47_4 Q) Q) st := by rw [awp_eq]; kernel_rfl
theorem w47_0 : awp X n c47_0 Q st = awp X n c47_1 (thenQ (awp X n c47_2 Q) Q) st := by rw [awp_eq]; kernel_rfl
theorem q47_ret : retQ X Tryd.f47 K .ret ([a0,a1,a2,a3,a4,a5,a6,a7,a8,a9,b0,b1,b2,b3,b4,b5,b6,b7,b8,b9,d0,d1,d2,d3,d4,d5,d6], h) = (K.K (.t [a2, a3]) h) := by kernel_rfl
theorem q47_normal : retQ X Tryd.f47 K .normal ([a0,a1,a2,a3,a4,a5,a6,a7,a8,a9,b0,b1,b2,b3,b4,b5,b6,b7,b8,b9,d0,d1,d2,d3,d4,d5,d6], h) = (K.K (.t [a2, a3]) h) := by kernel_rfl
theorem i47 (H : awp X h.length c47_0 (retQ X Tryd.f47 K) ([a0,.bad,.bad,.bad,.bad,.bad,.bad,.bad,.bad,.bad,.bad,.bad,.bad,.bad,.bad,.bad,.bad,.bad,.bad,.bad,.bad,.bad,.bad,.bad,.bad,.bad,.bad], h)) : ACall X 47 [a0] h K := acall_intro (fn := Tryd.f47) (by kernel_rfl) (by kernel_rfl) (by kernel_rfl) H
noncomputable def R47 := And.intro (And.intro (And.intro (And.intro (And.intro w47_1 w47_3) (And.intro w47_7 w47_10)) (And.intro (And.intro w47_11 w47_9) (And.intro w47_13 w47_16))) (And.intro (And.intro (And.intro w47_17 w47_15) (And.intro w47_19 w47_22)) (And.intro (And.intro w47_24 w47_25) (And.intro (w47_23) (And.intro w47_21 w47_26))))) (And.intro (And.intro (And.intro (And.intro w47_20 w47_18) (And.intro w47_14 w47_12)) (And.intro (And.intro w47_8 w47_6) (And.intro w47_5 w47_28))) (And.intro (And.intro (And.intro w47_30 w47_31) (And.intro w47_29 w47_27)) (And.intro (And.intro w47_4 w47_2) (And.intro (w47_0) (And.intro q47_ret q47_normal)))))
end Go.Proofs.YtlngajfpplebmaaDoor
