import Derived.Test.YtlngajfpplebmaaDoorEnv
set_option linter.unusedVariables false
set_option linter.defProp false
set_option maxRecDepth 100000
namespace Go.Proofs.YtlngajfpplebmaaDoor
open Go.Ab
variable (n : Nat) (h : Heap) (Q : Qt) (st : St) (K : Kt) (a0 a1 a2 a3 a4 a5 a6 a7 a8 a9 b0 b1 b2 b3 b4 b5 b6 b7 b8 b9 d0 d1 d2 d3 d4 d5 d6 d7 d8 d9 e0 e1 e2 e3 e4 e5 e6 e7 e8 e9 f0 f1 f2 f3 f4 f5 f6 f7 f8 f9 g0 g1 g2 g3 g4 g5 g6 g7 g8 g9 : AV)
/-! function 17: sindri/cursor.New -/
noncomputable def c17_0 : Code := bodyOf Tryd.f17
noncomputable def c17_1 : Code := cl c17_0
theorem w17_1 : awp X n c17_1 Q ([a0,a1,a2,a3,a4,a5,a6,a7], h) = (a_mov (.v (.pointer none)) h (.c (fun t2 h1 => Q .normal ([a0,a1,t2,a3,a4,a5,a6,a7], h1)) ())) := by rw [awp_eq]; kernel_rfl
noncomputable def c17_2 : Code := cr c17_0
noncomputable def c17_3 : Code := cl c17_2
theorem w17_3 : awp X n c17_3 Q ([a0,a1,a2,a3,a4,a5,a6,a7], h) = (a_lit 1 0 [] [] h (.c (fun t3 h1 => a_mov a0 h1 (.c (fun t4 h2 => a_app 1 1 t3 t4 h2 (.c (fun t5 h3 => a_build [.v (.slice none 0 0), .v (.int .i64 0), .v (.bool false), .v (.int .i64 0)] [(0, 1, t5), (2, 1, (.v (.bool true)))] h3 (.c (fun t6 h4 => a_box t6 h4 (.c (fun t7 h5 => a_mov t7 h5 (.c (fun t2 h6 => Q .normal ([a0,a1,t2,t3,t4,t5,t6,t7], h6)) ())) ())) ())) ())) ())) ())) := by rw [awp_eq]; kernel_rfl
noncomputable def c17_4 : Code := cr c17_2
theorem w17_4 : awp X n c17_4 Q st = Q .ret st := by rw [awp_eq]; kernel_rfl
theorem w17_2 : awp X n c17_2 Q st = awp X n c17_3 (thenQ (awp X n c17_4 Q) Q) st := by rw [awp_eq]; kernel_rfl
theorem w17_0 : awp X n c17_0 Q st = awp X n c17_1 (thenQ (awp X n c17_2 Q) Q) st := by rw [awp_eq]; kernel_rfl
theorem q17_ret : retQ X Tryd.f17 K .ret ([a0,a1,a2,a3,a4,a5,a6,a7], h) = (K.K a2 h) := by kernel_rfl
theorem q17_normal : retQ X Tryd.f17 K .normal ([a0,a1,a2,a3,a4,a5,a6,a7], h) = (K.K a2 h) := by kernel_rfl
theorem i17 (H : awp X h.length c17_0 (retQ X Tryd.f17 K) ([a0,.bad,.bad,.bad,.bad,.bad,.bad,.bad], h)) : ACall X 17 [a0] h K := acall_intro (fn := Tryd.f17) (by kernel_rfl) (by kernel_rfl) (by kernel_rfl) H
noncomputable def R17 := And.intro (And.intro (w17_1) (And.intro w17_3 w17_4)) (And.intro (And.intro w17_2 w17_0) (And.intro q17_ret q17_normal))
/-! function 18: (*sindri/cursor.Cursor).Seek -/
noncomputable def c18_0 : Code := bodyOf Tryd.f18
noncomputable def c18_1 : Code := cl c18_0
noncomputable def c18_2 : Code := cl c18_1
theorem w18_2 : awp X n c18_2 Q ([a0,a1,a2,a3,a4,a5,a6,a7,a8,a9,b0,b1,b2,b3,b4,b5,b6,b7,b8,b9,d0,d1,d2,d3], h) = (a_mov a0 h (.c (fun t10 h1 => ACall X 34 [t10] h1 (.c (fun t11 h2 => a_bin .neq t11 (.v (.int .i64 0)) h2 (.c (fun t12 h3 => a_mov t12 h3 (.c (fun t9 h4 => Q .normal ([a0,a1,a2,a3,a4,a5,a6,a7,a8,t9,t10,t11,t12,b3,b4,b5,b6,b7,b8,b9,d0,d1,d2,d3], h4)) ())) ())) ())) ())) := by rw [awp_eq]; kernel_rfl
noncomputable def c18_3 : Code := cr c18_1
noncomputable def c18_4 : Code := cl c18_3
theorem w18_4 : awp X n c18_4 Q st = Q .normal st := by rw [awp_eq]; kernel_rfl
noncomputable def c18_5 : Code := cr c18_3
noncomputable def c18_6 : Code := cl c18_5
theorem w18_6 : awp X n c18_6 Q ([a0,a1,a2,a3,a4,a5,a6,a7,a8,a9,b0,b1,b2,b3,b4,b5,b6,b7,b8,b9,d0,d1,d2,d3], h) = (a_mov a1 h (.c (fun t14 h1 => a_mov a0 h1 (.c (fun t15 h2 => a_nilc t15 h2 (.c (fun t16 h3 => a_fa 0 t16 h3 (.c (fun t17 h4 => a_load 1 false t17 h4 (.c (fun t18 h5 => a_len t18 h5 (.c (fun t19 h6 => a_cint .u64 t19 h6 (.c (fun t20 h7 => a_bin .gtr t14 t20 h7 (.c (fun t21 h8 => a_mov t21 h8 (.c (fun t13 h9 => Q .normal ([a0,a1,a2,a3,a4,a5,a6,a7,a8,a9,b0,b1,b2,t13,t14,t15,t16,t17,t18,t19,t20,t21,d2,d3], h9)) ())) ())) ())) ())) ())) ())) ())) ())) ())) := by rw [awp_eq]; kernel_rfl
noncomputable def c18_7 : Code := cr c18_5
noncomputable def c18_8 : Code := cl c18_7
theorem w18_8 : awp X n c18_8 Q ([a0,a1,a2,a3,a4,a5,a6,a7,a8,a9,b0,b1,b2,b3,b4,b5,b6,b7,b8,b9,d0,d1,d2,d3], h) = (a_mov a0 h (.c (fun t22 h1 => ACall X 35 [t22, (.v (.int .i64 10))] h1 (.c (fun t23 h2 => Q .normal ([a0,a1,a2,a3,a4,a5,a6,a7,a8,a9,b0,b1,b2,b3,b4,b5,b6,b7,b8,b9,d0,d1,t22,t23], h2)) ())) ())) := by rw [awp_eq]; kernel_rfl
noncomputable def c18_9 : Code := cr c18_7
theorem w18_9 : awp X n c18_9 Q ([a0,a1,a2,a3,a4,a5,a6,a7,a8,a9,b0,b1,b2,b3,b4,b5,b6,b7,b8,b9,d0,d1,d2,d3], h) = (a_mov a0 h (.c (fun t4 h1 => a_mov a1 h1 (.c (fun t5 h2 => a_cint .i64 t5 h2 (.c (fun t6 h3 => a_nilc t4 h3 (.c (fun t7 h4 => a_fa 1 t7 h4 (.c (fun t8 h5 => a_store 1 t8 t6 h5 (.c (fun _v5 h6 => Q .normal ([a0,a1,a2,a3,t4,t5,t6,t7,t8,a9,b0,b1,b2,b3,b4,b5,b6,b7,b8,b9,d0,d1,d2,d3], h6)) ())) ())) ())) ())) ())) ())) := by rw [awp_eq]; kernel_rfl
theorem w18_7 : awp X n c18_7 Q ([a0,a1,a2,a3,a4,a5,a6,a7,a8,a9,b0,b1,b2,b3,b4,b5,b6,b7,b8,b9,d0,d1,d2,d3], h) = a_cond b3 (awp X n c18_8 Q ([a0,a1,a2,a3,a4,a5,a6,a7,a8,a9,b0,b1,b2,b3,b4,b5,b6,b7,b8,b9,d0,d1,d2,d3], h)) (awp X n c18_9 Q ([a0,a1,a2,a3,a4,a5,a6,a7,a8,a9,b0,b1,b2,b3,b4,b5,b6,b7,b8,b9,d0,d1,d2,d3], h)) := by rw [awp_eq]; kernel_rfl
theorem w18_5 : awp X n c18_5 Q st = awp X n c18_6 (thenQ (awp X n c18_7 Q) Q) st := by rw [awp_eq]; kernel_rfl
theorem w18_3 : awp X n c18_3 Q ([a0,a1,a2,a3,a4,a5,a6,a7,a8,a9,b0,b1,b2,b3,b4,b5,b6,b7,b8,b9,d0,d1,d2,d3], h) = a_cond a9 (awp X n c18_4 Q ([a0,a1,a2,a3,a4,a5,a6,a7,a8,a9,b0,b1,b2,b3,b4,b5,b6,b7,b8,b9,d0,d1,d2,d3], h)) (awp X n c18_5 Q ([a0,a1,a2,a3,a4,a5,a6,a7,a8,a9,b0,b1,b2,b3,b4,b5,b6,b7,b8,b9,d0,d1,d2,d3], h)) := by rw [awp_eq]; kernel_rfl
theorem w18_1 : awp X n c18_1 Q st = awp X n c18_2 (thenQ (awp X n c18_3 Q) Q) st := by rw [awp_eq]; kernel_rfl
theorem w18_0 : awp X n c18_0 Q st = awp X n c18_1 (blockQ 0 Q) st := by rw [awp_eq]; kernel_rfl
theorem q18_ret : retQ X Tryd.f18 K .ret ([a0,a1,a2,a3,a4,a5,a6,a7,a8,a9,b0,b1,b2,b3,b4,b5,b6,b7,b8,b9,d0,d1,d2,d3], h) = (K.K (.t []) h) := by kernel_rfl
theorem q18_normal : retQ X Tryd.f18 K .normal ([a0,a1,a2,a3,a4,a5,a6,a7,a8,a9,b0,b1,b2,b3,b4,b5,b6,b7,b8,b9,d0,d1,d2,d3], h) = (K.K (.t []) h) := by kernel_rfl
theorem i18 (H : awp X h.length c18_0 (retQ X Tryd.f18 K) ([a0,a1,.bad,.bad,.bad,.bad,.bad,.bad,.bad,.bad,.bad,.bad,.bad,.bad,.bad,.bad,.bad,.bad,.bad,.bad,.bad,.bad,.bad,.bad], h)) : ACall X 18 [a0, a1] h K := acall_intro (fn := Tryd.f18) (by kernel_rfl) (by kernel_rfl) (by kernel_rfl) H
noncomputable def R18 := And.intro (And.intro (And.intro (w18_2) (And.intro w18_4 w18_6)) (And.intro (w18_8) (And.intro w18_9 w18_7))) (And.intro (And.intro (w18_5) (And.intro w18_3 w18_1)) (And.intro (w18_0) (And.intro q18_ret q18_normal)))
/-! function 19: (*sindri/cursor.Cursor).Uint -/
noncomputable def c19_0 : Code := bodyOf Tryd.f19
noncomputable def c19_1 : Code := cl c19_0
theorem w19_1 : awp X n c19_1 Q ([a0,a1,a2,a3,a4,a5,a6,a7,a8,a9,b0,b1,b2,b3,b4,b5,b6,b7,b8,b9,d0,d1,d2,d3,d4,d5,d6,d7,d8], h) = (a_mov (.v (.int .u64 0)) h (.c (fun t4 h1 => Q .normal ([a0,a1,a2,a3,t4,a5,a6,a7,a8,a9,b0,b1,b2,b3,b4,b5,b6,b7,b8,b9,d0,d1,d2,d3,d4,d5,d6,d7,d8], h1)) ())) := by rw [awp_eq]; kernel_rfl
noncomputable def c19_2 : Code := cr c19_0
noncomputable def c19_3 : Code := cl c19_2
theorem w19_3 : awp X n c19_3 Q ([a0,a1,a2,a3,a4,a5,a6,a7,a8,a9,b0,b1,b2,b3,b4,b5,b6,b7,b8,b9,d0,d1,d2,d3,d4,d5,d6,d7,d8], h) = (a_mov (.v (.int .u64 0)) h (.c (fun t5 h1 => Q .normal ([a0,a1,a2,a3,a4,t5,a6,a7,a8,a9,b0,b1,b2,b3,b4,b5,b6,b7,b8,b9,d0,d1,d2,d3,d4,d5,d6,d7,d8], h1)) ())) := by rw [awp_eq]; kernel_rfl
noncomputable def c19_4 : Code := cr c19_2
noncomputable def c19_5 : Code := cl c19_4
noncomputable def c19_6 : Code := cl c19_5
theorem w19_6 : awp X n c19_6 Q ([a0,a1,a2,a3,a4,a5,a6,a7,a8,a9,b0,b1,b2,b3,b4,b5,b6,b7,b8,b9,d0,d1,d2,d3,d4,d5,d6,d7,d8], h) = (a_mov a0 h (.c (fun t8 h1 => a_mov a1 h1 (.c (fun t9 h2 => ACall X 37 [t9] h2 (.c (fun t10 h3 => a_cint .u64 t10 h3 (.c (fun t11 h4 => ACall X 36 [t8, t11] h4 (.c (fun t12 h5 => a_len t12 h5 (.c (fun t13 h6 => a_mov (.v (.int .i64 0)) h6 (.c (fun t14 h7 => Q .normal ([a0,a1,a2,a3,a4,a5,a6,a7,t8,t9,t10,t11,t12,t13,t14,b5,b6,b7,b8,b9,d0,d1,d2,d3,d4,d5,d6,d7,d8], h7)) ())) ())) ())) ())) ())) ())) ())) := by rw [awp_eq]; kernel_rfl
noncomputable def c19_7 : Code := cr c19_5
noncomputable def c19_8 : Code := cl c19_7
noncomputable def c19_9 : Code := cl c19_8
noncomputable def c19_10 : Code := cl c19_9
theorem w19_10 : awp X n c19_10 Q ([a0,a1,a2,a3,a4,a5,a6,a7,a8,a9,b0,b1,b2,b3,b4,b5,b6,b7,b8,b9,d0,d1,d2,d3,d4,d5,d6,d7,d8], h) = (a_bin .lss b4 b3 h (.c (fun t15 h1 => Q .normal ([a0,a1,a2,a3,a4,a5,a6,a7,a8,a9,b0,b1,b2,b3,b4,t15,b6,b7,b8,b9,d0,d1,d2,d3,d4,d5,d6,d7,d8], h1)) ())) := by rw [awp_eq]; kernel_rfl
noncomputable def c19_11 : Code := cr c19_9
noncomputable def c19_12 : Code := cl c19_11
noncomputable def c19_13 : Code := cl c19_12
theorem w19_13 : awp X n c19_13 Q st = Q .normal st := by rw [awp_eq]; kernel_rfl
noncomputable def c19_14 : Code := cr c19_12
theorem w19_14 : awp X n c19_14 Q st = Q (.exit 0) st := by rw [awp_eq]; kernel_rfl
theorem w19_12 : awp X n c19_12 Q ([a0,a1,a2,a3,a4,a5,a6,a7,a8,a9,b0,b1,b2,b3,b4,b5,b6,b7,b8,b9,d0,d1,d2,d3,d4,d5,d6,d7,d8], h) = a_cond b5 (awp X n c19_13 Q ([a0,a1,a2,a3,a4,a5,a6,a7,a8,a9,b0,b1,b2,b3,b4,b5,b6,b7,b8,b9,d0,d1,d2,d3,d4,d5,d6,d7,d8], h)) (awp X n c19_14 Q ([a0,a1,a2,a3,a4,a5,a6,a7,a8,a9,b0,b1,b2,b3,b4,b5,b6,b7,b8,b9,d0,d1,d2,d3,d4,d5,d6,d7,d8], h)) := by rw [awp_eq]; kernel_rfl
noncomputable def c19_15 : Code := cr c19_11
noncomputable def c19_16 : Code := cl c19_15
noncomputable def c19_17 : Code := cl c19_16
noncomputable def c19_18 : Code := cl c19_17
theorem w19_18 : awp X n c19_18 Q ([a0,a1,a2,a3,a4,a5,a6,a7,a8,a9,b0,b1,b2,b3,b4,b5,b6,b7,b8,b9,d0,d1,d2,d3,d4,d5,d6,d7,d8], h) = (a_mov b4 h (.c (fun t16 h1 => a_ia 1 b2 b4 h1 (.c (fun t17 h2 => a_load 1 false t17 h2 (.c (fun t18 h3 => a_mov t16 h3 (.c (fun t6 h4 => a_mov t18 h4 (.c (fun t7 h5 => Q .normal ([a0,a1,a2,a3,a4,a5,t6,t7,a8,a9,b0,b1,b2,b3,b4,b5,t16,t17,t18,b9,d0,d1,d2,d3,d4,d5,d6,d7,d8], h5)) ())) ())) ())) ())) ())) := by rw [awp_eq]; kernel_rfl
noncomputable def c19_19 : Code := cr c19_17
theorem w19_19 : awp X n c19_19 Q ([a0,a1,a2,a3,a4,a5,a6,a7,a8,a9,b0,b1,b2,b3,b4,b5,b6,b7,b8,b9,d0,d1,d2,d3,d4,d5,d6,d7,d8], h) = (a_mov a5 h (.c (fun t19 h1 => a_mov a7 h1 (.c (fun t20 h2 => a_cint .u64 t20 h2 (.c (fun t21 h3 => a_mov a6 h3 (.c (fun t22 h4 => a_bin .mul (.v (.int .i64 8)) t22 h4 (.c (fun t23 h5 => a_cint .u64 t23 h5 (.c (fun t24 h6 => a_bin .shl t21 t24 h6 (.c (fun t25 h7 => a_bin .or t19 t25 h7 (.c (fun t26 h8 => a_mov t26 h8 (.c (fun t5 h9 => Q .normal ([a0,a1,a2,a3,a4,t5,a6,a7,a8,a9,b0,b1,b2,b3,b4,b5,b6,b7,b8,t19,t20,t21,t22,t23,t24,t25,t26,d7,d8], h9)) ())) ())) ())) ())) ())) ())) ())) ())) ())) := by rw [awp_eq]; kernel_rfl
theorem w19_17 : awp X n c19_17 Q st = awp X n c19_18 (thenQ (awp X n c19_19 Q) Q) st := by rw [awp_eq]; kernel_rfl
theorem w19_16 : awp X n c19_16 Q st = awp X n c19_17 (blockQ 1 Q) st := by rw [awp_eq]; kernel_rfl
noncomputable def c19_20 : Code := cr c19_15
theorem w19_20 : awp X n c19_20 Q ([a0,a1,a2,a3,a4,a5,a6,a7,a8,a9,b0,b1,b2,b3,b4,b5,b6,b7,b8,b9,d0,d1,d2,d3,d4,d5,d6,d7,d8], h) = (a_bin .add b4 (.v (.int .i64 1)) h (.c (fun t27 h1 => a_mov t27 h1 (.c (fun t14 h2 => Q .normal ([a0,a1,a2,a3,a4,a5,a6,a7,a8,a9,b0,b1,b2,b3,t14,b5,b6,b7,b8,b9,d0,d1,d2,d3,d4,d5,d6,t27,d8], h2)) ())) ())) := by rw [awp_eq]; kernel_rfl
theorem w19_15 : awp X n c19_15 Q st = awp X n c19_16 (thenQ (awp X n c19_20 Q) Q) st := by rw [awp_eq]; kernel_rfl
theorem w19_11 : awp X n c19_11 Q st = awp X n c19_12 (thenQ (awp X n c19_15 Q) Q) st := by rw [awp_eq]; kernel_rfl
theorem w19_9 : awp X n c19_9 Q st = awp X n c19_10 (thenQ (awp X n c19_11 Q) Q) st := by rw [awp_eq]; kernel_rfl
theorem w19_8 : awp X n c19_8 Q st = ALoop X n c19_9 Q st := by rw [awp_eq]; kernel_rfl
theorem w19_7 : awp X n c19_7 Q st = awp X n c19_8 (blockQ 0 Q) st := by rw [awp_eq]; kernel_rfl
theorem w19_5 : awp X n c19_5 Q st = awp X n c19_6 (thenQ (awp X n c19_7 Q) Q) st := by rw [awp_eq]; kernel_rfl
noncomputable def c19_21 : Code := cr c19_4
noncomputable def c19_22 : Code := cl c19_21
theorem w19_22 : awp X n c19_22 Q ([a0,a1,a2,a3,a4,a5,a6,a7,a8,a9,b0,b1,b2,b3,b4,b5,b6,b7,b8,b9,d0,d1,d2,d3,d4,d5,d6,d7,d8], h) = (a_mov a5 h (.c (fun t28 h1 => a_mov t28 h1 (.c (fun t4 h2 => Q .normal ([a0,a1,a2,a3,t4,a5,a6,a7,a8,a9,b0,b1,b2,b3,b4,b5,b6,b7,b8,b9,d0,d1,d2,d3,d4,d5,d6,d7,t28], h2)) ())) ())) := by rw [awp_eq]; kernel_rfl
noncomputable def c19_23 : Code := cr c19_21
theorem w19_23 : awp X n c19_23 Q st = Q .ret st := by rw [awp_eq]; kernel_rfl
theorem w19_21 : awp X n c19_21 Q st = awp X n c19_22 (thenQ (awp X n c19_23 Q) Q) st := by rw [awp_eq]; kernel_rfl
theorem w19_4 : awp X n c19_4 Q st = awp X n c19_5 (thenQ (awp X n c19_21 Q) Q) st := by rw [awp_eq]; kernel_rfl
theorem w19_2 : awp X n c19_2 Q st = awp X n c19_3 (thenQ (awp X n c19_4 Q) Q) st := by rw [awp_eq]; kernel_rfl
theorem w19_0 : awp X n c19_0 Q st = awp X n c19_1 (thenQ (awp X n c19_2 Q) Q) st := by rw [awp_eq]; kernel_rfl
theorem q19_ret : retQ X Tryd.f19 K .ret ([a0,a1,a2,a3,a4,a5,a6,a7,a8,a9,b0,b1,b2,b3,b4,b5,b6,b7,b8,b9,d0,d1,d2,d3,d4,d5,d6,d7,d8], h) = (K.K a4 h) := by kernel_rfl
theorem q19_normal : retQ X Tryd.f19 K .normal ([a0,a1,a2,a3,a4,a5,a6,a7,a8,a9,b0,b1,b2,b3,b4,b5,b6,b7,b8,b9,d0,d1,d2,d3,d4,d5,d6,d7,d8], h) = (K.K a4 h) := by kernel_rfl
theorem i19 (H : awp X h.length c19_0 (retQ X Tryd.f19 K) ([a0,a1,.bad,.bad,.bad,.bad,.bad,.bad,.bad,.bad,.bad,.bad,.bad,.bad,.bad,.bad,.bad,.bad,.bad,.bad,.bad,.bad,.bad,.bad,.bad,.bad,.bad,.bad,.bad], h)) : ACall X 19 [a0, a1] h K := acall_intro (fn := Tryd.f19) (by kernel_rfl) (by kernel_rfl) (by kernel_rfl) H
noncomputable def R19 := And.intro (And.intro (And.intro (And.intro (w19_1) (And.intro w19_3 w19_6)) (And.intro (w19_10) (And.intro w19_13 w19_14))) (And.intro (And.intro (w19_12) (And.intro w19_18 w19_19)) (And.intro (And.intro w19_17 w19_16) (And.intro w19_20 w19_15)))) (And.intro (And.intro (And.intro (w19_11) (And.intro w19_9 w19_8)) (And.intro (w19_7) (And.intro w19_5 w19_22))) (And.intro (And.intro (w19_23) (And.intro w19_21 w19_4)) (And.intro (And.intro w19_2 w19_0) (And.intro q19_ret q19_normal))))
/-! function 27: (*sindri/cursor.Cursor).U16 -/
noncomputable def c27_0 : Code := bodyOf Tryd.f27
noncomputable def c27_1 : Code := cl c27_0
theorem w27_1 : awp X n c27_1 Q ([a0,a1,a2,a3,a4], h) = (a_mov (.v (.int .u64 0)) h (.c (fun t2 h1 => Q .normal ([a0,a1,t2,a3,a4], h1)) ())) := by rw [awp_eq]; kernel_rfl
noncomputable def c27_2 : Code := cr c27_0
noncomputable def c27_3 : Code := cl c27_2
theorem w27_3 : awp X n c27_3 Q ([a0,a1,a2,a3,a4], h) = (a_mov a0 h (.c (fun t3 h1 => ACall X 19 [t3, (.v (.int .i64 2))] h1 (.c (fun t4 h2 => a_mov t4 h2 (.c (fun t2 h3 => Q .normal ([a0,a1,t2,t3,t4], h3)) ())) ())) ())) := by rw [awp_eq]; kernel_rfl
noncomputable def c27_4 : Code := cr c27_2
theorem w27_4 : awp X n c27_4 Q st = Q .ret st := by rw [awp_eq]; kernel_rfl
theorem w27_2 : awp X n c27_2 Q st = awp X n c27_3 (thenQ (awp X n c27_4 Q) Q) st := by rw [awp_eq]; kernel_rfl
theorem w27_0 : awp X n c27_0 Q st = awp X n c27_1 (thenQ (awp X n c27_2 Q) Q) st := by rw [awp_eq]; kernel_rfl
theorem q27_ret : retQ X Tryd.f27 K .ret ([a0,a1,a2,a3,a4], h) = (K.K a2 h) := by kernel_rfl
theorem q27_normal : retQ X Tryd.f27 K .normal ([a0,a1,a2,a3,a4], h) = (K.K a2 h) := by kernel_rfl
theorem i27 (H : awp X h.length c27_0 (retQ X Tryd.f27 K) ([a0,.bad,.bad,.bad,.bad], h)) : ACall X 27 [a0] h K := acall_intro (fn := Tryd.f27) (by kernel_rfl) (by kernel_rfl) (by kernel_rfl) H
noncomputable def R27 := And.intro (And.intro (w27_1) (And.intro w27_3 w27_4)) (And.intro (And.intro w27_2 w27_0) (And.intro q27_ret q27_normal))
/-! function 29: (*sindri/sindriref01.C).Uint -/
noncomputable def c29_0 : Code := bodyOf Tryd.f29
noncomputable def c29_1 : Code := cl c29_0
theorem w29_1 : awp X n c29_1 Q ([a0,a1,a2,a3,a4,a5,a6,a7,a8,a9,b0,b1,b2,b3,b4,b5,b6,b7,b8,b9,d0,d1,d2,d3,d4,d5,d6,d7,d8,d9,e0,e1,e2,e3,e4,e5,e6,e7,e8,e9,f0,f1,f2,f3,f4,f5,f6,f7,f8,f9,g0,g1,g2,g3,g4,g5,g6,g7,g8,g9], h) = (a_mov (.v (.int .u64 0)) h (.c (fun t4 h1 => Q .normal ([a0,a1,a2,a3,t4,a5,a6,a7,a8,a9,b0,b1,b2,b3,b4,b5,b6,b7,b8,b9,d0,d1,d2,d3,d4,d5,d6,d7,d8,d9,e0,e1,e2,e3,e4,e5,e6,e7,e8,e9,f0,f1,f2,f3,f4,f5,f6,f7,f8,f9,g0,g1,g2,g3,g4,g5,g6,g7,g8,g9], h1)) ())) := by rw [awp_eq]; kernel_rfl
noncomputable def c29_2 : Code := cr c29_0
noncomputable def c29_3 : Code := cl c29_2
theorem w29_3 : awp X n c29_3 Q ([a0,a1,a2,a3,a4,a5,a6,a7,a8,a9,b0,b1,b2,b3,b4,b5,b6,b7,b8,b9,d0,d1,d2,d3,d4,d5,d6,d7,d8,d9,e0,e1,e2,e3,e4,e5,e6,e7,e8,e9,f0,f1,f2,f3,f4,f5,f6,f7,f8,f9,g0,g1,g2,g3,g4,g5,g6,g7,g8,g9], h) = (a_mov a1 h (.c (fun t7 h1 => ACall X 40 [t7] h1 (.c (fun t8 h2 => a_mov t8 h2 (.c (fun t1 h3 => Q .normal ([a0,t1,a2,a3,a4,a5,a6,t7,t8,a9,b0,b1,b2,b3,b4,b5,b6,b7,b8,b9,d0,d1,d2,d3,d4,d5,d6,d7,d8,d9,e0,e1,e2,e3,e4,e5,e6,e7,e8,e9,f0,f1,f2,f3,f4,f5,f6,f7,f8,f9,g0,g1,g2,g3,g4,g5,g6,g7,g8,g9], h3)) ())) ())) ())) := by rw [awp_eq]; kernel_rfl
noncomputable def c29_4 : Code := cr c29_2
noncomputable def c29_5 : Code := cl c29_4
noncomputable def c29_6 : Code := cl c29_5
theorem w29_6 : awp X n c29_6 Q ([a0,a1,a2,a3,a4,a5,a6,a7,a8,a9,b0,b1,b2,b3,b4,b5,b6,b7,b8,b9,d0,d1,d2,d3,d4,d5,d6,d7,d8,d9,e0,e1,e2,e3,e4,e5,e6,e7,e8,e9,f0,f1,f2,f3,f4,f5,f6,f7,f8,f9,g0,g1,g2,g3,g4,g5,g6,g7,g8,g9], h) = (a_mov a0 h (.c (fun t9 h1 => a_nilc t9 h1 (.c (fun t10 h2 => a_fa 2 t10 h2 (.c (fun t11 h3 => a_load 1 false t11 h3 (.c (fun t12 h4 => a_bin .eql t12 (.v (.int .i64 0)) h4 (.c (fun t13 h5 => a_mov t13 h5 (.c (fun t14 h6 => a_on t14 true (fun k => a_mov a1 h6 k) h6 (.c (fun t15 h7 => a_on t14 true (fun k => a_mov a0 h7 k) h7 (.c (fun t16 h8 => a_on t14 true (fun k => ACall X 30 [t16] h8 k) h8 (.c (fun t17 h9 => a_on t14 true (fun k => a_bin .gtr t15 t17 h9 k) h9 (.c (fun t18 h10 => a_pick t14 t18 (.v (.bool false)) h10 (.c (fun t19 h11 => Q .normal ([a0,a1,a2,a3,a4,a5,a6,a7,a8,t9,t10,t11,t12,t13,t14,t15,t16,t17,t18,t19,d0,d1,d2,d3,d4,d5,d6,d7,d8,d9,e0,e1,e2,e3,e4,e5,e6,e7,e8,e9,f0,f1,f2,f3,f4,f5,f6,f7,f8,f9,g0,g1,g2,g3,g4,g5,g6,g7,g8,g9], h11)) ())) ())) ())) ())) ())) ())) ())) ())) ())) ())) ())) := by rw [awp_eq]; kernel_rfl
noncomputable def c29_7 : Code := cr c29_5
noncomputable def c29_8 : Code := cl c29_7
theorem w29_8 : awp X n c29_8 Q ([a0,a1,a2,a3,a4,a5,a6,a7,a8,a9,b0,b1,b2,b3,b4,b5,b6,b7,b8,b9,d0,d1,d2,d3,d4,d5,d6,d7,d8,d9,e0,e1,e2,e3,e4,e5,e6,e7,e8,e9,f0,f1,f2,f3,f4,f5,f6,f7,f8,f9,g0,g1,g2,g3,g4,g5,g6,g7,g8,g9], h) = (a_mov a0 h (.c (fun t20 h1 => a_nilc t20 h1 (.c (fun t21 h2 => a_fa 2 t21 h2 (.c (fun t22 h3 => a_store 1 t22 (.v (.int .i64 10)) h3 (.c (fun _v3 h4 => Q .normal ([a0,a1,a2,a3,a4,a5,a6,a7,a8,a9,b0,b1,b2,b3,b4,b5,b6,b7,b8,b9,t20,t21,t22,d3,d4,d5,d6,d7,d8,d9,e0,e1,e2,e3,e4,e5,e6,e7,e8,e9,f0,f1,f2,f3,f4,f5,f6,f7,f8,f9,g0,g1,g2,g3,g4,g5,g6,g7,g8,g9], h4)) ())) ())) ())) ())) := by rw [awp_eq]; kernel_rfl
noncomputable def c29_9 : Code := cr c29_7
theorem w29_9 : awp X n c29_9 Q st = Q .normal st := by rw [awp_eq]; kernel_rfl
theorem w29_7 : awp X n c29_7 Q ([a0,a1,a2,a3,a4,a5,a6,a7,a8,a9,b0,b1,b2,b3,b4,b5,b6,b7,b8,b9,d0,d1,d2,d3,d4,d5,d6,d7,d8,d9,e0,e1,e2,e3,e4,e5,e6,e7,e8,e9,f0,f1,f2,f3,f4,f5,f6,f7,f8,f9,g0,g1,g2,g3,g4,g5,g6,g7,g8,g9], h) = a_cond b9 (awp X n c29_8 Q ([a0,a1,a2,a3,a4,a5,a6,a7,a8,a9,b0,b1,b2,b3,b4,b5,b6,b7,b8,b9,d0,d1,d2,d3,d4,d5,d6,d7,d8,d9,e0,e1,e2,e3,e4,e5,e6,e7,e8,e9,f0,f1,f2,f3,f4,f5,f6,f7,f8,f9,g0,g1,g2,g3,g4,g5,g6,g7,g8,g9], h)) (awp X n c29_9 Q ([a0,a1,a2,a3,a4,a5,a6,a7,a8,a9,b0,b1,b2,b3,b4,b5,b6,b7,b8,b9,d0,d1,d2,d3,d4,d5,d6,d7,d8,d9,e0,e1,e2,e3,e4,e5,e6,e7,e8,e9,f0,f1,f2,f3,f4,f5,f6,f7,f8,f9,g0,g1,g2,g3,g4,g5,g6,g7,g8,g9], h)) := by rw [awp_eq]; kernel_rfl
theorem w29_5 : awp X n c29_5 Q st = awp X n c29_6 (thenQ (awp X n c29_7 Q) Q) st := by rw [awp_eq]; kernel_rfl
noncomputable def c29_10 : Code := cr c29_4
noncomputable def c29_11 : Code := cl c29_10
noncomputable def c29_12 : Code := cl c29_11
theorem w29_12 : awp X n c29_12 Q ([a0,a1,a2,a3,a4,a5,a6,a7,a8,a9,b0,b1,b2,b3,b4,b5,b6,b7,b8,b9,d0,d1,d2,d3,d4,d5,d6,d7,d8,d9,e0,e1,e2,e3,e4,e5,e6,e7,e8,e9,f0,f1,f2,f3,f4,f5,f6,f7,f8,f9,g0,g1,g2,g3,g4,g5,g6,g7,g8,g9], h) = (a_mov a0 h (.c (fun t23 h1 => a_nilc t23 h1 (.c (fun t24 h2 => a_fa 2 t24 h2 (.c (fun t25 h3 => a_load 1 false t25 h3 (.c (fun t26 h4 => a_bin .neq t26 (.v (.int .i64 0)) h4 (.c (fun t27 h5 => Q .normal ([a0,a1,a2,a3,a4,a5,a6,a7,a8,a9,b0,b1,b2,b3,b4,b5,b6,b7,b8,b9,d0,d1,d2,t23,t24,t25,t26,t27,d8,d9,e0,e1,e2,e3,e4,e5,e6,e7,e8,e9,f0,f1,f2,f3,f4,f5,f6,f7,f8,f9,g0,g1,g2,g3,g4,g5,g6,g7,g8,g9], h5)) ())) ())) ())) ())) ())) := by rw [awp_eq]; kernel_rfl
noncomputable def c29_13 : Code := cr c29_11
noncomputable def c29_14 : Code := cl c29_13
noncomputable def c29_15 : Code := cl c29_14
theorem w29_15 : awp X n c29_15 Q ([a0,a1,a2,a3,a4,a5,a6,a7,a8,a9,b0,b1,b2,b3,b4,b5,b6,b7,b8,b9,d0,d1,d2,d3,d4,d5,d6,d7,d8,d9,e0,e1,e2,e3,e4,e5,e6,e7,e8,e9,f0,f1,f2,f3,f4,f5,f6,f7,f8,f9,g0,g1,g2,g3,g4,g5,g6,g7,g8,g9], h) = (a_mov (.v (.int .u64 0)) h (.c (fun t4 h1 => Q .normal ([a0,a1,a2,a3,t4,a5,a6,a7,a8,a9,b0,b1,b2,b3,b4,b5,b6,b7,b8,b9,d0,d1,d2,d3,d4,d5,d6,d7,d8,d9,e0,e1,e2,e3,e4,e5,e6,e7,e8,e9,f0,f1,f2,f3,f4,f5,f6,f7,f8,f9,g0,g1,g2,g3,g4,g5,g6,g7,g8,g9], h1)) ())) := by rw [awp_eq]; kernel_rfl
noncomputable def c29_16 : Code := cr c29_14
theorem w29_16 : awp X n c29_16 Q st = Q .ret st := by rw [awp_eq]; kernel_rfl
theorem w29_14 : awp X n c29_14 Q st = awp X n c29_15 (thenQ (awp X n c29_16 Q) Q) st := by rw [awp_eq]; kernel_rfl
noncomputable def c29_17 : Code := cr c29_13
theorem w29_17 : awp X n c29_17 Q st = Q .normal st := by rw [awp_eq]; kernel_rfl
theorem w29_13 : awp X n c29_13 Q ([a0,a1,a2,a3,a4,a5,a6,a7,a8,a9,b0,b1,b2,b3,b4,b5,b6,b7,b8,b9,d0,d1,d2,d3,d4,d5,d6,d7,d8,d9,e0,e1,e2,e3,e4,e5,e6,e7,e8,e9,f0,f1,f2,f3,f4,f5,f6,f7,f8,f9,g0,g1,g2,g3,g4,g5,g6,g7,g8,g9], h) = a_cond d7 (awp X n c29_14 Q ([a0,a1,a2,a3,a4,a5,a6,a7,a8,a9,b0,b1,b2,b3,b4,b5,b6,b7,b8,b9,d0,d1,d2,d3,d4,d5,d6,d7,d8,d9,e0,e1,e2,e3,e4,e5,e6,e7,e8,e9,f0,f1,f2,f3,f4,f5,f6,f7,f8,f9,g0,g1,g2,g3,g4,g5,g6,g7,g8,g9], h)) (awp X n c29_17 Q ([a0,a1,a2,a3,a4,a5,a6,a7,a8,a9,b0,b1,b2,b3,b4,b5,b6,b7,b8,b9,d0,d1,d2,d3,d4,d5,d6,d7,d8,d9,e0,e1,e2,e3,e4,e5,e6,e7,e8,e9,f0,f1,f2,f3,f4,f5,f6,f7,f8,f9,g0,g1,g2,g3,g4,g5,g6,g7,g8,g9], h)) := by rw [awp_eq]; kernel_rfl
theorem w29_11 : awp X n c29_11 Q st = awp X n c29_12 (thenQ (awp X n c29_13 Q) Q) st := by rw [awp_eq]; kernel_rfl
noncomputable def c29_18 : Code := cr c29_10
noncomputable def c29_19 : Code := cl c29_18
theorem w29_19 : awp X n c29_19 Q ([a0,a1,a2,a3,a4,a5,a6,a7,a8,a9,b0,b1,b2,b3,b4,b5,b6,b7,b8,b9,d0,d1,d2,d3,d4,d5,d6,d7,d8,d9,e0,e1,e2,e3,e4,e5,e6,e7,e8,e9,f0,f1,f2,f3,f4,f5,f6,f7,f8,f9,g0,g1,g2,g3,g4,g5,g6,g7,g8,g9], h) = (a_mov (.v (.int .u64 0)) h (.c (fun t5 h1 => Q .normal ([a0,a1,a2,a3,a4,t5,a6,a7,a8,a9,b0,b1,b2,b3,b4,b5,b6,b7,b8,b9,d0,d1,d2,d3,d4,d5,d6,d7,d8,d9,e0,e1,e2,e3,e4,e5,e6,e7,e8,e9,f0,f1,f2,f3,f4,f5,f6,f7,f8,f9,g0,g1,g2,g3,g4,g5,g6,g7,g8,g9], h1)) ())) := by rw [awp_eq]; kernel_rfl
noncomputable def c29_20 : Code := cr c29_18
noncomputable def c29_21 : Code := cl c29_20
noncomputable def c29_22 : Code := cl c29_21
theorem w29_22 : awp X n c29_22 Q ([a0,a1,a2,a3,a4,a5,a6,a7,a8,a9,b0,b1,b2,b3,b4,b5,b6,b7,b8,b9,d0,d1,d2,d3,d4,d5,d6,d7,d8,d9,e0,e1,e2,e3,e4,e5,e6,e7,e8,e9,f0,f1,f2,f3,f4,f5,f6,f7,f8,f9,g0,g1,g2,g3,g4,g5,g6,g7,g8,g9], h) = (a_mov a1 h (.c (fun t28 h1 => a_bin .sub t28 (.v (.int .i64 1)) h1 (.c (fun t29 h2 => a_mov t29 h2 (.c (fun t6 h3 => Q .normal ([a0,a1,a2,a3,a4,a5,t6,a7,a8,a9,b0,b1,b2,b3,b4,b5,b6,b7,b8,b9,d0,d1,d2,d3,d4,d5,d6,d7,t28,t29,e0,e1,e2,e3,e4,e5,e6,e7,e8,e9,f0,f1,f2,f3,f4,f5,f6,f7,f8,f9,g0,g1,g2,g3,g4,g5,g6,g7,g8,g9], h3)) ())) ())) ())) := by rw [awp_eq]; kernel_rfl
noncomputable def c29_23 : Code := cr c29_21
noncomputable def c29_24 : Code := cl c29_23
noncomputable def c29_25 : Code := cl c29_24
noncomputable def c29_26 : Code := cl c29_25
noncomputable def c29_27 : Code := cl c29_26
theorem w29_27 : awp X n c29_27 Q ([a0,a1,a2,a3,a4,a5,a6,a7,a8,a9,b0,b1,b2,b3,b4,b5,b6,b7,b8,b9,d0,d1,d2,d3,d4,d5,d6,d7,d8,d9,e0,e1,e2,e3,e4,e5,e6,e7,e8,e9,f0,f1,f2,f3,f4,f5,f6,f7,f8,f9,g0,g1,g2,g3,g4,g5,g6,g7,g8,g9], h) = (a_mov a6 h (.c (fun t30 h1 => a_bin .geq t30 (.v (.int .i64 0)) h1 (.c (fun t31 h2 => Q .normal ([a0,a1,a2,a3,a4,a5,a6,a7,a8,a9,b0,b1,b2,b3,b4,b5,b6,b7,b8,b9,d0,d1,d2,d3,d4,d5,d6,d7,d8,d9,t30,t31,e2,e3,e4,e5,e6,e7,e8,e9,f0,f1,f2,f3,f4,f5,f6,f7,f8,f9,g0,g1,g2,g3,g4,g5,g6,g7,g8,g9], h2)) ())) ())) := by rw [awp_eq]; kernel_rfl
noncomputable def c29_28 : Code := cr c29_26
noncomputable def c29_29 : Code := cl c29_28
theorem w29_29 : awp X n c29_29 Q st = Q .normal st := by rw [awp_eq]; kernel_rfl
noncomputable def c29_30 : Code := cr c29_28
theorem w29_30 : awp X n c29_30 Q st = Q (.exit 0) st := by rw [awp_eq]; kernel_rfl
theorem w29_28 : awp X n c29_28 Q ([a0,a1,a2,a3,a4,a5,a6,a7,a8,a9,b0,b1,b2,b3,b4,b5,b6,b7,b8,b9,d0,d1,d2,d3,d4,d5,d6,d7,d8,d9,e0,e1,e2,e3,e4,e5,e6,e7,e8,e9,f0,f1,f2,f3,f4,f5,f6,f7,f8,f9,g0,g1,g2,g3,g4,g5,g6,g7,g8,g9], h) = a_cond e1 (awp X n c29_29 Q ([a0,a1,a2,a3,a4,a5,a6,a7,a8,a9,b0,b1,b2,b3,b4,b5,b6,b7,b8,b9,d0,d1,d2,d3,d4,d5,d6,d7,d8,d9,e0,e1,e2,e3,e4,e5,e6,e7,e8,e9,f0,f1,f2,f3,f4,f5,f6,f7,f8,f9,g0,g1,g2,g3,g4,g5,g6,g7,g8,g9], h)) (awp X n c29_30 Q ([a0,a1,a2,a3,a4,a5,a6,a7,a8,a9,b0,b1,b2,b3,b4,b5,b6,b7,b8,b9,d0,d1,d2,d3,d4,d5,d6,d7,d8,d9,e0,e1,e2,e3,e4,e5,e6,e7,e8,e9,f0,f1,f2,f3,f4,f5,f6,f7,f8,f9,g0,g1,g2,g3,g4,g5,g6,g7,g8,g9], h)) := by rw [awp_eq]; kernel_rfl
theorem w29_26 : awp X n c29_26 Q st = awp X n c29_27 (thenQ (awp X n c29_28 Q) Q) st := by rw [awp_eq]; kernel_rfl
noncomputable def c29_31 : Code := cr c29_25
noncomputable def c29_32 : Code := cl c29_31
noncomputable def c29_33 : Code := cl c29_32
theorem w29_33 : awp X n c29_33 Q ([a0,a1,a2,a3,a4,a5,a6,a7,a8,a9,b0,b1,b2,b3,b4,b5,b6,b7,b8,b9,d0,d1,d2,d3,d4,d5,d6,d7,d8,d9,e0,e1,e2,e3,e4,e5,e6,e7,e8,e9,f0,f1,f2,f3,f4,f5,f6,f7,f8,f9,g0,g1,g2,g3,g4,g5,g6,g7,g8,g9], h) = (a_mov a5 h (.c (fun t34 h1 => a_bin .mul t34 (.v (.int .u64 256)) h1 (.c (fun t35 h2 => a_mov a0 h2 (.c (fun t36 h3 => a_nilc t36 h3 (.c (fun t37 h4 => a_fa 0 t37 h4 (.c (fun t38 h5 => a_load 1 false t38 h5 (.c (fun t39 h6 => a_mov a0 h6 (.c (fun t40 h7 => a_nilc t40 h7 (.c (fun t41 h8 => a_fa 1 t41 h8 (.c (fun t42 h9 => a_load 1 false t42 h9 (.c (fun t43 h10 => a_mov a6 h10 (.c (fun t44 h11 => a_bin .add t43 t44 h11 (.c (fun t45 h12 => a_ia 1 t39 t45 h12 (.c (fun t46 h13 => a_load 1 false t46 h13 (.c (fun t47 h14 => a_cint .u64 t47 h14 (.c (fun t48 h15 => a_bin .add t35 t48 h15 (.c (fun t49 h16 => a_mov t49 h16 (.c (fun t5 h17 => Q .normal ([a0,a1,a2,a3,a4,t5,a6,a7,a8,a9,b0,b1,b2,b3,b4,b5,b6,b7,b8,b9,d0,d1,d2,d3,d4,d5,d6,d7,d8,d9,e0,e1,e2,e3,t34,t35,t36,t37,t38,t39,t40,t41,t42,t43,t44,t45,t46,t47,t48,t49,g0,g1,g2,g3,g4,g5,g6,g7,g8,g9], h17)) ())) ())) ())) ())) ())) ())) ())) ())) ())) ())) ())) ())) ())) ())) ())) ())) ())) := by rw [awp_eq]; kernel_rfl
theorem w29_32 : awp X n c29_32 Q st = awp X n c29_33 (blockQ 1 Q) st := by rw [awp_eq]; kernel_rfl
noncomputable def c29_34 : Code := cr c29_31
theorem w29_34 : awp X n c29_34 Q ([a0,a1,a2,a3,a4,a5,a6,a7,a8,a9,b0,b1,b2,b3,b4,b5,b6,b7,b8,b9,d0,d1,d2,d3,d4,d5,d6,d7,d8,d9,e0,e1,e2,e3,e4,e5,e6,e7,e8,e9,f0,f1,f2,f3,f4,f5,f6,f7,f8,f9,g0,g1,g2,g3,g4,g5,g6,g7,g8,g9], h) = (a_mov a6 h (.c (fun t32 h1 => a_bin .sub t32 (.v (.int .i64 1)) h1 (.c (fun t33 h2 => a_mov t33 h2 (.c (fun t6 h3 => Q .normal ([a0,a1,a2,a3,a4,a5,t6,a7,a8,a9,b0,b1,b2,b3,b4,b5,b6,b7,b8,b9,d0,d1,d2,d3,d4,d5,d6,d7,d8,d9,e0,e1,t32,t33,e4,e5,e6,e7,e8,e9,f0,f1,f2,f3,f4,f5,f6,f7,f8,f9,g0,g1,g2,g3,g4,g5,g6,g7,g8,g9], h3)) ())) ())) ())) := by rw [awp_eq]; kernel_rfl
theorem w29_31 : awp X n c29_31 Q st = awp X n c29_32 (thenQ (awp X n c29_34 Q) Q) st := by rw [awp_eq]; kernel_rfl
theorem w29_25 : awp X n c29_25 Q st = awp X n c29_26 (thenQ (awp X n c29_31 Q) Q) st := by rw [awp_eq]; kernel_rfl
theorem w29_24 : awp X n c29_24 Q st = ALoop X n c29_25 Q st := by rw [awp_eq]; kernel_rfl
theorem w29_23 : awp X n c29_23 Q st = awp X n c29_24 (blockQ 0 Q) st := by rw [awp_eq]; kernel_rfl
theorem w29_21 : awp X n c29_21 Q st = awp X n c29_22 (thenQ (awp X n c29_23 Q) Q) st := by rw [awp_eq]; kernel_rfl
noncomputable def c29_35 : Code := cr c29_20
noncomputable def c29_36 : Code := cl c29_35
theorem w29_36 : awp X n c29_36 Q ([a0,a1,a2,a3,a4,a5,a6,a7,a8,a9,b0,b1,b2,b3,b4,b5,b6,b7,b8,b9,d0,d1,d2,d3,d4,d5,d6,d7,d8,d9,e0,e1,e2,e3,e4,e5,e6,e7,e8,e9,f0,f1,f2,f3,f4,f5,f6,f7,f8,f9,g0,g1,g2,g3,g4,g5,g6,g7,g8,g9], h) = (a_mov a0 h (.c (fun t50 h1 => a_mov a0 h1 (.c (fun t51 h2 => a_nilc t51 h2 (.c (fun t52 h3 => a_fa 1 t52 h3 (.c (fun t53 h4 => a_load 1 false t53 h4 (.c (fun t54 h5 => a_mov a1 h5 (.c (fun t55 h6 => a_bin .add t54 t55 h6 (.c (fun t56 h7 => a_nilc t50 h7 (.c (fun t57 h8 => a_fa 1 t57 h8 (.c (fun t58 h9 => a_store 1 t58 t56 h9 (.c (fun _v9 h10 => Q .normal ([a0,a1,a2,a3,a4,a5,a6,a7,a8,a9,b0,b1,b2,b3,b4,b5,b6,b7,b8,b9,d0,d1,d2,d3,d4,d5,d6,d7,d8,d9,e0,e1,e2,e3,e4,e5,e6,e7,e8,e9,f0,f1,f2,f3,f4,f5,f6,f7,f8,f9,t50,t51,t52,t53,t54,t55,t56,t57,t58,g9], h10)) ())) ())) ())) ())) ())) ())) ())) ())) ())) ())) := by rw [awp_eq]; kernel_rfl
noncomputable def c29_37 : Code := cr c29_35
noncomputable def c29_38 : Code := cl c29_37
theorem w29_38 : awp X n c29_38 Q ([a0,a1,a2,a3,a4,a5,a6,a7,a8,a9,b0,b1,b2,b3,b4,b5,b6,b7,b8,b9,d0,d1,d2,d3,d4,d5,d6,d7,d8,d9,e0,e1,e2,e3,e4,e5,e6,e7,e8,e9,f0,f1,f2,f3,f4,f5,f6,f7,f8,f9,g0,g1,g2,g3,g4,g5,g6,g7,g8,g9], h) = (a_mov a5 h (.c (fun t59 h1 => a_mov t59 h1 (.c (fun t4 h2 => Q .normal ([a0,a1,a2,a3,t4,a5,a6,a7,a8,a9,b0,b1,b2,b3,b4,b5,b6,b7,b8,b9,d0,d1,d2,d3,d4,d5,d6,d7,d8,d9,e0,e1,e2,e3,e4,e5,e6,e7,e8,e9,f0,f1,f2,f3,f4,f5,f6,f7,f8,f9,g0,g1,g2,g3,g4,g5,g6,g7,g8,t59], h2)) ())) ())) := by rw [awp_eq]; kernel_rfl
noncomputable def c29_39 : Code := cr c29_37
theorem w29_39 : awp X n c29_39 Q st = Q .ret st := by rw [awp_eq]; kernel_rfl
theorem w29_37 : awp X n c29_37 Q st = awp X n c29_38 (thenQ (awp X n c29_39 Q) Q) st := by rw [awp_eq]; kernel_rfl
theorem w29_35 : awp X n c29_35 Q st = awp X n c29_36 (thenQ (awp X n c29_37 Q) Q) st := by rw [awp_eq]; kernel_rfl
theorem w29_20 : awp X n c29_20 Q st = awp X n c29_21 (thenQ (awp X n c29_35 Q) Q) st := by rw [awp_eq]; kernel_rfl
theorem w29_18 : awp X n c29_18 Q st = awp X n c29_19 (thenQ (awp X n c29_20 Q) Q) st := by rw [awp_eq]; kernel_rfl
theorem w29_10 : awp X n c29_10 Q st = awp X n c29_11 (thenQ (awp X n c29_18 Q) Q) st := by rw [awp_eq]; kernel_rfl
theorem w29_4 : awp X n c29_4 Q st = awp X n c29_5 (thenQ (awp X n c29_10 Q) Q) st := by rw [awp_eq]; kernel_rfl
theorem w29_2 : awp X n c29_2 Q st = awp X n c29_3 (thenQ (awp X n c29_4 Q) Q) st := by rw [awp_eq]; kernel_rfl
theorem w29_0 : awp X n c29_0 Q st = awp X n c29_1 (thenQ (awp X n c29_2 Q) Q) st := by rw [awp_eq]; kernel_rfl
theorem q29_ret : retQ X Tryd.f29 K .ret ([a0,a1,a2,a3,a4,a5,a6,a7,a8,a9,b0,b1,b2,b3,b4,b5,b6,b7,b8,b9,d0,d1,d2,d3,d4,d5,d6,d7,d8,d9,e0,e1,e2,e3,e4,e5,e6,e7,e8,e9,f0,f1,f2,f3,f4,f5,f6,f7,f8,f9,g0,g1,g2,g3,g4,g5,g6,g7,g8,g9], h) = (K.K a4 h) := by kernel_rfl
theorem q29_normal : retQ X Tryd.f29 K .normal ([a0,a1,a2,a3,a4,a5,a6,a7,a8,a9,b0,b1,b2,b3,b4,b5,b6,b7,b8,b9,d0,d1,d2,d3,d4,d5,d6,d7,d8,d9,e0,e1,e2,e3,e4,e5,e6,e7,e8,e9,f0,f1,f2,f3,f4,f5,f6,f7,f8,f9,g0,g1,g2,g3,g4,g5,g6,g7,g8,g9], h) = (K.K a4 h) := by kernel_rfl
theorem i29 (H : awp X h.length c29_0 (retQ X Tryd.f29 K) ([a0,a1,.bad,.bad,.bad,.bad,.bad,.bad,.bad,.bad,.bad,.bad,.bad,.bad,.bad,.bad,.bad,.bad,.bad,.bad,.bad,.bad,.bad,.bad,.bad,.bad,.bad,.bad,.bad,.bad,.bad,.bad,.bad,.bad,.bad,.bad,.bad,.bad,.bad,.bad,.bad,.bad,.bad,.bad,.bad,.bad,.bad,.bad,.bad,.bad,.bad,.bad,.bad,.bad,.bad,.bad,.bad,.bad,.bad,.bad], h)) : ACall X 29 [a0, a1] h K := acall_intro (fn := Tryd.f29) (by kernel_rfl) (by kernel_rfl) (by kernel_rfl) H
noncomputable def R29 := And.intro (And.intro (And.intro (And.intro (And.intro w29_1 w29_3) (And.intro (w29_6) (And.intro w29_8 w29_9))) (And.intro (And.intro w29_7 w29_5) (And.intro (w29_12) (And.intro w29_15 w29_16)))) (And.intro (And.intro (And.intro w29_14 w29_17) (And.intro (w29_13) (And.intro w29_11 w29_19))) (And.intro (And.intro (w29_22) (And.intro w29_27 w29_29)) (And.intro (w29_30) (And.intro w29_28 w29_26))))) (And.intro (And.intro (And.intro (And.intro w29_33 w29_32) (And.intro (w29_34) (And.intro w29_31 w29_25))) (And.intro (And.intro w29_24 w29_23) (And.intro (w29_21) (And.intro w29_36 w29_38)))) (And.intro (And.intro (And.intro w29_39 w29_37) (And.intro (w29_35) (And.intro w29_20 w29_18))) (And.intro (And.intro (w29_10) (And.intro w29_4 w29_2)) (And.intro (w29_0) (And.intro q29_ret q29_normal)))))
/-! function 30: (*sindri/sindriref01.C).Left -/
noncomputable def c30_0 : Code := bodyOf Tryd.f30
noncomputable def c30_1 : Code := cl c30_0
theorem w30_1 : awp X n c30_1 Q ([a0,a1,a2,a3,a4,a5,a6,a7,a8,a9,b0,b1,b2,b3,b4,b5,b6,b7], h) = (a_mov (.v (.int .i64 0)) h (.c (fun t2 h1 => Q .normal ([a0,a1,t2,a3,a4,a5,a6,a7,a8,a9,b0,b1,b2,b3,b4,b5,b6,b7], h1)) ())) := by rw [awp_eq]; kernel_rfl
noncomputable def c30_2 : Code := cr c30_0
noncomputable def c30_3 : Code := cl c30_2
noncomputable def c30_4 : Code := cl c30_3
theorem w30_4 : awp X n c30_4 Q ([a0,a1,a2,a3,a4,a5,a6,a7,a8,a9,b0,b1,b2,b3,b4,b5,b6,b7], h) = (a_mov a0 h (.c (fun t3 h1 => a_nilc t3 h1 (.c (fun t4 h2 => a_fa 2 t4 h2 (.c (fun t5 h3 => a_load 1 false t5 h3 (.c (fun t6 h4 => a_bin .neq t6 (.v (.int .i64 0)) h4 (.c (fun t7 h5 => Q .normal ([a0,a1,a2,t3,t4,t5,t6,t7,a8,a9,b0,b1,b2,b3,b4,b5,b6,b7], h5)) ())) ())) ())) ())) ())) := by rw [awp_eq]; kernel_rfl
noncomputable def c30_5 : Code := cr c30_3
noncomputable def c30_6 : Code := cl c30_5
noncomputable def c30_7 : Code := cl c30_6
theorem w30_7 : awp X n c30_7 Q ([a0,a1,a2,a3,a4,a5,a6,a7,a8,a9,b0,b1,b2,b3,b4,b5,b6,b7], h) = (a_mov (.v (.int .i64 0)) h (.c (fun t2 h1 => Q .normal ([a0,a1,t2,a3,a4,a5,a6,a7,a8,a9,b0,b1,b2,b3,b4,b5,b6,b7], h1)) ())) := by rw [awp_eq]; kernel_rfl
noncomputable def c30_8 : Code := cr c30_6
theorem w30_8 : awp X n c30_8 Q st = Q .ret st := by rw [awp_eq]; kernel_rfl
theorem w30_6 : awp X n c30_6 Q st = awp X n c30_7 (thenQ (awp X n c30_8 Q) Q) st := by rw [awp_eq]; kernel_rfl
noncomputable def c30_9 : Code := cr c30_5
theorem w30_9 : awp X n c30_9 Q st = Q .normal st := by rw [awp_eq]; kernel_rfl
theorem w30_5 : awp X n c30_5 Q ([a0,a1,a2,a3,a4,a5,a6,a7,a8,a9,b0,b1,b2,b3,b4,b5,b6,b7], h) = a_cond a7 (awp X n c30_6 Q ([a0,a1,a2,a3,a4,a5,a6,a7,a8,a9,b0,b1,b2,b3,b4,b5,b6,b7], h)) (awp X n c30_9 Q ([a0,a1,a2,a3,a4,a5,a6,a7,a8,a9,b0,b1,b2,b3,b4,b5,b6,b7], h)) := by rw [awp_eq]; kernel_rfl
theorem w30_3 : awp X n c30_3 Q st = awp X n c30_4 (thenQ (awp X n c30_5 Q) Q) st := by rw [awp_eq]; kernel_rfl
noncomputable def c30_10 : Code := cr c30_2
noncomputable def c30_11 : Code := cl c30_10
theorem w30_11 : awp X n c30_11 Q ([a0,a1,a2,a3,a4,a5,a6,a7,a8,a9,b0,b1,b2,b3,b4,b5,b6,b7], h) = (a_mov a0 h (.c (fun t8 h1 => a_nilc t8 h1 (.c (fun t9 h2 => a_fa 0 t9 h2 (.c (fun t10 h3 => a_load 1 false t10 h3 (.c (fun t11 h4 => a_len t11 h4 (.c (fun t12 h5 => a_mov a0 h5 (.c (fun t13 h6 => a_nilc t13 h6 (.c (fun t14 h7 => a_fa 1 t14 h7 (.c (fun t15 h8 => a_load 1 false t15 h8 (.c (fun t16 h9 => a_bin .sub t12 t16 h9 (.c (fun t17 h10 => a_mov t17 h10 (.c (fun t2 h11 => Q .normal ([a0,a1,t2,a3,a4,a5,a6,a7,t8,t9,t10,t11,t12,t13,t14,t15,t16,t17], h11)) ())) ())) ())) ())) ())) ())) ())) ())) ())) ())) ())) := by rw [awp_eq]; kernel_rfl
noncomputable def c30_12 : Code := cr c30_10
theorem w30_12 : awp X n c30_12 Q st = Q .ret st := by rw [awp_eq]; kernel_rfl
theorem w30_10 : awp X n c30_10 Q st = awp X n c30_11 (thenQ (awp X n c30_12 Q) Q) st := by rw [awp_eq]; kernel_rfl
theorem w30_2 : awp X n c30_2 Q st = awp X n c30_3 (thenQ (awp X n c30_10 Q) Q) st := by rw [awp_eq]; kernel_rfl
theorem w30_0 : awp X n c30_0 Q st = awp X n c30_1 (thenQ (awp X n c30_2 Q) Q) st := by rw [awp_eq]; kernel_rfl
theorem q30_ret : retQ X Tryd.f30 K .ret ([a0,a1,a2,a3,a4,a5,a6,a7,a8,a9,b0,b1,b2,b3,b4,b5,b6,b7], h) = (K.K a2 h) := by kernel_rfl
theorem q30_normal : retQ X Tryd.f30 K .normal ([a0,a1,a2,a3,a4,a5,a6,a7,a8,a9,b0,b1,b2,b3,b4,b5,b6,b7], h) = (K.K a2 h) := by kernel_rfl
theorem i30 (H : awp X h.length c30_0 (retQ X Tryd.f30 K) ([a0,.bad,.bad,.bad,.bad,.bad,.bad,.bad,.bad,.bad,.bad,.bad,.bad,.bad,.bad,.bad,.bad,.bad], h)) : ACall X 30 [a0] h K := acall_intro (fn := Tryd.f30) (by kernel_rfl) (by kernel_rfl) (by kernel_rfl) H
noncomputable def R30 := And.intro (And.intro (And.intro (w30_1) (And.intro w30_4 w30_7)) (And.intro (And.intro w30_8 w30_6) (And.intro w30_9 w30_5))) (And.intro (And.intro (And.intro w30_3 w30_11) (And.intro w30_12 w30_10)) (And.intro (And.intro w30_2 w30_0) (And.intro q30_ret q30_normal)))
/-! function 32: (*sindri/cursor.Cursor).U8 -/
noncomputable def c32_0 : Code := bodyOf Tryd.f32
noncomputable def c32_1 : Code := cl c32_0
theorem w32_1 : awp X n c32_1 Q ([a0,a1,a2,a3,a4], h) = (a_mov (.v (.int .u64 0)) h (.c (fun t2 h1 => Q .normal ([a0,a1,t2,a3,a4], h1)) ())) := by rw [awp_eq]; kernel_rfl
noncomputable def c32_2 : Code := cr c32_0
noncomputable def c32_3 : Code := cl c32_2
theorem w32_3 : awp X n c32_3 Q ([a0,a1,a2,a3,a4], h) = (a_mov a0 h (.c (fun t3 h1 => ACall X 19 [t3, (.v (.int .i64 1))] h1 (.c (fun t4 h2 => a_mov t4 h2 (.c (fun t2 h3 => Q .normal ([a0,a1,t2,t3,t4], h3)) ())) ())) ())) := by rw [awp_eq]; kernel_rfl
noncomputable def c32_4 : Code := cr c32_2
theorem w32_4 : awp X n c32_4 Q st = Q .ret st := by rw [awp_eq]; kernel_rfl
theorem w32_2 : awp X n c32_2 Q st = awp X n c32_3 (thenQ (awp X n c32_4 Q) Q) st := by rw [awp_eq]; kernel_rfl
theorem w32_0 : awp X n c32_0 Q st = awp X n c32_1 (thenQ (awp X n c32_2 Q) Q) st := by rw [awp_eq]; kernel_rfl
theorem q32_ret : retQ X Tryd.f32 K .ret ([a0,a1,a2,a3,a4], h) = (K.K a2 h) := by kernel_rfl
theorem q32_normal : retQ X Tryd.f32 K .normal ([a0,a1,a2,a3,a4], h) = (K.K a2 h) := by kernel_rfl
theorem i32 (H : awp X h.length c32_0 (retQ X Tryd.f32 K) ([a0,.bad,.bad,.bad,.bad], h)) : ACall X 32 [a0] h K := acall_intro (fn := Tryd.f32) (by kernel_rfl) (by kernel_rfl) (by kernel_rfl) H
noncomputable def R32 := And.intro (And.intro (w32_1) (And.intro w32_3 w32_4)) (And.intro (And.intro w32_2 w32_0) (And.intro q32_ret q32_normal))
/-! function 34: (*sindri/cursor.Cursor).Err -/
noncomputable def c34_0 : Code := bodyOf Tryd.f34
noncomputable def c34_1 : Code := cl c34_0
theorem w34_1 : awp X n c34_1 Q ([a0,a1,a2,a3,a4,a5,a6,a7,a8,a9,b0,b1,b2,b3,b4,b5], h) = (a_mov (.v (.int .i64 0)) h (.c (fun t2 h1 => Q .normal ([a0,a1,t2,a3,a4,a5,a6,a7,a8,a9,b0,b1,b2,b3,b4,b5], h1)) ())) := by rw [awp_eq]; kernel_rfl
noncomputable def c34_2 : Code := cr c34_0
noncomputable def c34_3 : Code := cl c34_2
noncomputable def c34_4 : Code := cl c34_3
theorem w34_4 : awp X n c34_4 Q ([a0,a1,a2,a3,a4,a5,a6,a7,a8,a9,b0,b1,b2,b3,b4,b5], h) = (a_mov a0 h (.c (fun t3 h1 => a_eqp false t3 (.v (.pointer none)) h1 (.c (fun t4 h2 => a_mov t4 h2 (.c (fun t5 h3 => a_on t5 false (fun k => a_mov a0 h3 k) h3 (.c (fun t6 h4 => a_on t5 false (fun k => a_nilc t6 h4 k) h4 (.c (fun t7 h5 => a_on t5 false (fun k => a_fa 2 t7 h5 k) h5 (.c (fun t8 h6 => a_on t5 false (fun k => a_load 1 false t8 h6 k) h6 (.c (fun t9 h7 => a_on t5 false (fun k => a_un .not t9 h7 k) h7 (.c (fun t10 h8 => a_pick t5 (.v (.bool true)) t10 h8 (.c (fun t11 h9 => Q .normal ([a0,a1,a2,t3,t4,t5,t6,t7,t8,t9,t10,t11,b2,b3,b4,b5], h9)) ())) ())) ())) ())) ())) ())) ())) ())) ())) := by rw [awp_eq]; kernel_rfl
noncomputable def c34_5 : Code := cr c34_3
noncomputable def c34_6 : Code := cl c34_5
noncomputable def c34_7 : Code := cl c34_6
theorem w34_7 : awp X n c34_7 Q ([a0,a1,a2,a3,a4,a5,a6,a7,a8,a9,b0,b1,b2,b3,b4,b5], h) = (a_mov (.v (.int .i64 1)) h (.c (fun t2 h1 => Q .normal ([a0,a1,t2,a3,a4,a5,a6,a7,a8,a9,b0,b1,b2,b3,b4,b5], h1)) ())) := by rw [awp_eq]; kernel_rfl
noncomputable def c34_8 : Code := cr c34_6
theorem w34_8 : awp X n c34_8 Q st = Q .ret st := by rw [awp_eq]; kernel_rfl
theorem w34_6 : awp X n c34_6 Q st = awp X n c34_7 (thenQ (awp X n c34_8 Q) Q) st := by rw [awp_eq]; kernel_rfl
noncomputable def c34_9 : Code := cr c34_5
theorem w34_9 : awp X n c34_9 Q st = Q .normal st := by rw [awp_eq]; kernel_rfl
theorem w34_5 : awp X n c34_5 Q ([a0,a1,a2,a3,a4,a5,a6,a7,a8,a9,b0,b1,b2,b3,b4,b5], h) = a_cond b1 (awp X n c34_6 Q ([a0,a1,a2,a3,a4,a5,a6,a7,a8,a9,b0,b1,b2,b3,b4,b5], h)) (awp X n c34_9 Q ([a0,a1,a2,a3,a4,a5,a6,a7,a8,a9,b0,b1,b2,b3,b4,b5], h)) := by rw [awp_eq]; kernel_rfl
theorem w34_3 : awp X n c34_3 Q st = awp X n c34_4 (thenQ (awp X n c34_5 Q) Q) st := by rw [awp_eq]; kernel_rfl
noncomputable def c34_10 : Code := cr c34_2
noncomputable def c34_11 : Code := cl c34_10
theorem w34_11 : awp X n c34_11 Q ([a0,a1,a2,a3,a4,a5,a6,a7,a8,a9,b0,b1,b2,b3,b4,b5], h) = (a_mov a0 h (.c (fun t12 h1 => a_nilc t12 h1 (.c (fun t13 h2 => a_fa 3 t13 h2 (.c (fun t14 h3 => a_load 1 false t14 h3 (.c (fun t15 h4 => a_mov t15 h4 (.c (fun t2 h5 => Q .normal ([a0,a1,t2,a3,a4,a5,a6,a7,a8,a9,b0,b1,t12,t13,t14,t15], h5)) ())) ())) ())) ())) ())) := by rw [awp_eq]; kernel_rfl
noncomputable def c34_12 : Code := cr c34_10
theorem w34_12 : awp X n c34_12 Q st = Q .ret st := by rw [awp_eq]; kernel_rfl
theorem w34_10 : awp X n c34_10 Q st = awp X n c34_11 (thenQ (awp X n c34_12 Q) Q) st := by rw [awp_eq]; kernel_rfl
theorem w34_2 : awp X n c34_2 Q st = awp X n c34_3 (thenQ (awp X n c34_10 Q) Q) st := by rw [awp_eq]; kernel_rfl
theorem w34_0 : awp X n c34_0 Q st = awp X n c34_1 (thenQ (awp X n c34_2 Q) Q) st := by rw [awp_eq]; kernel_rfl
theorem q34_ret : retQ X Tryd.f34 K .ret ([a0,a1,a2,a3,a4,a5,a6,a7,a8,a9,b0,b1,b2,b3,b4,b5], h) = (K.K a2 h) := by kernel_rfl
theorem q34_normal : retQ X Tryd.f34 K .normal ([a0,a1,a2,a3,a4,a5,a6,a7,a8,a9,b0,b1,b2,b3,b4,b5], h) = (K.K a2 h) := by kernel_rfl
theorem i34 (H : awp X h.length c34_0 (retQ X Tryd.f34 K) ([a0,.bad,.bad,.bad,.bad,.bad,.bad,.bad,.bad,.bad,.bad,.bad,.bad,.bad,.bad,.bad], h)) : ACall X 34 [a0] h K := acall_intro (fn := Tryd.f34) (by kernel_rfl) (by kernel_rfl) (by kernel_rfl) H
noncomputable def R34 := And.intro (And.intro (And.intro (w34_1) (And.intro w34_4 w34_7)) (And.intro (And.intro w34_8 w34_6) (And.intro w34_9 w34_5))) (And.intro (And.intro (And.intro w34_3 w34_11) (And.intro w34_12 w34_10)) (And.intro (And.intro w34_2 w34_0) (And.intro q34_ret q34_normal)))
/-! function 35: (*sindri/cursor.Cursor).Fail -/
noncomputable def c35_0 : Code := bodyOf Tryd.f35
noncomputable def c35_1 : Code := cl c35_0
theorem w35_1 : awp X n c35_1 Q ([a0,a1,a2,a3,a4,a5,a6,a7,a8,a9,b0], h) = (a_mov a0 h (.c (fun t4 h1 => ACall X 34 [t4] h1 (.c (fun t5 h2 => a_bin .eql t5 (.v (.int .i64 0)) h2 (.c (fun t6 h3 => Q .normal ([a0,a1,a2,a3,t4,t5,t6,a7,a8,a9,b0], h3)) ())) ())) ())) := by rw [awp_eq]; kernel_rfl
noncomputable def c35_2 : Code := cr c35_0
noncomputable def c35_3 : Code := cl c35_2
theorem w35_3 : awp X n c35_3 Q ([a0,a1,a2,a3,a4,a5,a6,a7,a8,a9,b0], h) = (a_mov a0 h (.c (fun t7 h1 => a_mov a1 h1 (.c (fun t8 h2 => a_nilc t7 h2 (.c (fun t9 h3 => a_fa 3 t9 h3 (.c (fun t10 h4 => a_store 1 t10 t8 h4 (.c (fun _v4 h5 => Q .normal ([a0,a1,a2,a3,a4,a5,a6,t7,t8,t9,t10], h5)) ())) ())) ())) ())) ())) := by rw [awp_eq]; kernel_rfl
noncomputable def c35_4 : Code := cr c35_2
theorem w35_4 : awp X n c35_4 Q st = Q .normal st := by rw [awp_eq]; kernel_rfl
theorem w35_2 : awp X n c35_2 Q ([a0,a1,a2,a3,a4,a5,a6,a7,a8,a9,b0], h) = a_cond a6 (awp X n c35_3 Q ([a0,a1,a2,a3,a4,a5,a6,a7,a8,a9,b0], h)) (awp X n c35_4 Q ([a0,a1,a2,a3,a4,a5,a6,a7,a8,a9,b0], h)) := by rw [awp_eq]; kernel_rfl
theorem w35_0 : awp X n c35_0 Q st = awp X n c35_1 (thenQ (awp X n c35_2 Q) Q) st := by rw [awp_eq]; kernel_rfl
theorem q35_ret : retQ X Tryd.f35 K .ret ([a0,a1,a2,a3,a4,a5,a6,a7,a8,a9,b0], h) = (K.K (.t []) h) := by kernel_rfl
theorem q35_normal : retQ X Tryd.f35 K .normal ([a0,a1,a2,a3,a4,a5,a6,a7,a8,a9,b0], h) = (K.K (.t []) h) := by kernel_rfl
theorem i35 (H : awp X h.length c35_0 (retQ X Tryd.f35 K) ([a0,a1,.bad,.bad,.bad,.bad,.bad,.bad,.bad,.bad,.bad], h)) : ACall X 35 [a0, a1] h K := acall_intro (fn := Tryd.f35) (by kernel_rfl) (by kernel_rfl) (by kernel_rfl) H
noncomputable def R35 := And.intro (And.intro (w35_1) (And.intro w35_3 w35_4)) (And.intro (And.intro w35_2 w35_0) (And.intro q35_ret q35_normal))
/-! function 36: (*sindri/cursor.Cursor).next -/
noncomputable def c36_0 : Code := bodyOf Tryd.f36
noncomputable def c36_1 : Code := cl c36_0
theorem w36_1 : awp X n c36_1 Q ([a0,a1,a2,a3,a4,a5,a6,a7,a8,a9,b0,b1,b2,b3,b4,b5,b6,b7,b8,b9,d0,d1,d2,d3,d4,d5,d6,d7,d8,d9,e0,e1,e2,e3,e4,e5,e6,e7,e8,e9,f0,f1,f2,f3,f4,f5,f6,f7,f8], h) = (a_mov (.v (.slice none 0 0)) h (.c (fun t4 h1 => Q .normal ([a0,a1,a2,a3,t4,a5,a6,a7,a8,a9,b0,b1,b2,b3,b4,b5,b6,b7,b8,b9,d0,d1,d2,d3,d4,d5,d6,d7,d8,d9,e0,e1,e2,e3,e4,e5,e6,e7,e8,e9,f0,f1,f2,f3,f4,f5,f6,f7,f8], h1)) ())) := by rw [awp_eq]; kernel_rfl
noncomputable def c36_2 : Code := cr c36_0
noncomputable def c36_3 : Code := cl c36_2
noncomputable def c36_4 : Code := cl c36_3
theorem w36_4 : awp X n c36_4 Q ([a0,a1,a2,a3,a4,a5,a6,a7,a8,a9,b0,b1,b2,b3,b4,b5,b6,b7,b8,b9,d0,d1,d2,d3,d4,d5,d6,d7,d8,d9,e0,e1,e2,e3,e4,e5,e6,e7,e8,e9,f0,f1,f2,f3,f4,f5,f6,f7,f8], h) = (a_mov a0 h (.c (fun t6 h1 => ACall X 34 [t6] h1 (.c (fun t7 h2 => a_bin .neq t7 (.v (.int .i64 0)) h2 (.c (fun t8 h3 => Q .normal ([a0,a1,a2,a3,a4,a5,t6,t7,t8,a9,b0,b1,b2,b3,b4,b5,b6,b7,b8,b9,d0,d1,d2,d3,d4,d5,d6,d7,d8,d9,e0,e1,e2,e3,e4,e5,e6,e7,e8,e9,f0,f1,f2,f3,f4,f5,f6,f7,f8], h3)) ())) ())) ())) := by rw [awp_eq]; kernel_rfl
noncomputable def c36_5 : Code := cr c36_3
noncomputable def c36_6 : Code := cl c36_5
noncomputable def c36_7 : Code := cl c36_6
theorem w36_7 : awp X n c36_7 Q ([a0,a1,a2,a3,a4,a5,a6,a7,a8,a9,b0,b1,b2,b3,b4,b5,b6,b7,b8,b9,d0,d1,d2,d3,d4,d5,d6,d7,d8,d9,e0,e1,e2,e3,e4,e5,e6,e7,e8,e9,f0,f1,f2,f3,f4,f5,f6,f7,f8], h) = (a_mov (.v (.slice none 0 0)) h (.c (fun t4 h1 => Q .normal ([a0,a1,a2,a3,t4,a5,a6,a7,a8,a9,b0,b1,b2,b3,b4,b5,b6,b7,b8,b9,d0,d1,d2,d3,d4,d5,d6,d7,d8,d9,e0,e1,e2,e3,e4,e5,e6,e7,e8,e9,f0,f1,f2,f3,f4,f5,f6,f7,f8], h1)) ())) := by rw [awp_eq]; kernel_rfl
noncomputable def c36_8 : Code := cr c36_6
theorem w36_8 : awp X n c36_8 Q st = Q .ret st := by rw [awp_eq]; kernel_rfl
theorem w36_6 : awp X n c36_6 Q st = awp X n c36_7 (thenQ (awp X n c36_8 Q) Q) st := by rw [awp_eq]; kernel_rfl
noncomputable def c36_9 : Code := cr c36_5
theorem w36_9 : awp X n c36_9 Q st = Q .normal st := by rw [awp_eq]; kernel_rfl
theorem w36_5 : awp X n c36_5 Q ([a0,a1,a2,a3,a4,a5,a6,a7,a8,a9,b0,b1,b2,b3,b4,b5,b6,b7,b8,b9,d0,d1,d2,d3,d4,d5,d6,d7,d8,d9,e0,e1,e2,e3,e4,e5,e6,e7,e8,e9,f0,f1,f2,f3,f4,f5,f6,f7,f8], h) = a_cond a8 (awp X n c36_6 Q ([a0,a1,a2,a3,a4,a5,a6,a7,a8,a9,b0,b1,b2,b3,b4,b5,b6,b7,b8,b9,d0,d1,d2,d3,d4,d5,d6,d7,d8,d9,e0,e1,e2,e3,e4,e5,e6,e7,e8,e9,f0,f1,f2,f3,f4,f5,f6,f7,f8], h)) (awp X n c36_9 Q ([a0,a1,a2,a3,a4,a5,a6,a7,a8,a9,b0,b1,b2,b3,b4,b5,b6,b7,b8,b9,d0,d1,d2,d3,d4,d5,d6,d7,d8,d9,e0,e1,e2,e3,e4,e5,e6,e7,e8,e9,f0,f1,f2,f3,f4,f5,f6,f7,f8], h)) := by rw [awp_eq]; kernel_rfl
theorem w36_3 : awp X n c36_3 Q st = awp X n c36_4 (thenQ (awp X n c36_5 Q) Q) st := by rw [awp_eq]; kernel_rfl
noncomputable def c36_10 : Code := cr c36_2
noncomputable def c36_11 : Code := cl c36_10
noncomputable def c36_12 : Code := cl c36_11
theorem w36_12 : awp X n c36_12 Q ([a0,a1,a2,a3,a4,a5,a6,a7,a8,a9,b0,b1,b2,b3,b4,b5,b6,b7,b8,b9,d0,d1,d2,d3,d4,d5,d6,d7,d8,d9,e0,e1,e2,e3,e4,e5,e6,e7,e8,e9,f0,f1,f2,f3,f4,f5,f6,f7,f8], h) = (a_mov a1 h (.c (fun t9 h1 => a_mov a0 h1 (.c (fun t10 h2 => ACall X 41 [t10] h2 (.c (fun t11 h3 => a_cint .u64 t11 h3 (.c (fun t12 h4 => a_bin .gtr t9 t12 h4 (.c (fun t13 h5 => Q .normal ([a0,a1,a2,a3,a4,a5,a6,a7,a8,t9,t10,t11,t12,t13,b4,b5,b6,b7,b8,b9,d0,d1,d2,d3,d4,d5,d6,d7,d8,d9,e0,e1,e2,e3,e4,e5,e6,e7,e8,e9,f0,f1,f2,f3,f4,f5,f6,f7,f8], h5)) ())) ())) ())) ())) ())) := by rw [awp_eq]; kernel_rfl
noncomputable def c36_13 : Code := cr c36_11
noncomputable def c36_14 : Code := cl c36_13
noncomputable def c36_15 : Code := cl c36_14
theorem w36_15 : awp X n c36_15 Q ([a0,a1,a2,a3,a4,a5,a6,a7,a8,a9,b0,b1,b2,b3,b4,b5,b6,b7,b8,b9,d0,d1,d2,d3,d4,d5,d6,d7,d8,d9,e0,e1,e2,e3,e4,e5,e6,e7,e8,e9,f0,f1,f2,f3,f4,f5,f6,f7,f8], h) = (a_mov a0 h (.c (fun t14 h1 => ACall X 35 [t14, (.v (.int .i64 10))] h1 (.c (fun t15 h2 => Q .normal ([a0,a1,a2,a3,a4,a5,a6,a7,a8,a9,b0,b1,b2,b3,t14,t15,b6,b7,b8,b9,d0,d1,d2,d3,d4,d5,d6,d7,d8,d9,e0,e1,e2,e3,e4,e5,e6,e7,e8,e9,f0,f1,f2,f3,f4,f5,f6,f7,f8], h2)) ())) ())) := by rw [awp_eq]; kernel_rfl
noncomputable def c36_16 : Code := cr c36_14
noncomputable def c36_17 : Code := cl c36_16
theorem w36_17 : awp X n c36_17 Q ([a0,a1,a2,a3,a4,a5,a6,a7,a8,a9,b0,b1,b2,b3,b4,b5,b6,b7,b8,b9,d0,d1,d2,d3,d4,d5,d6,d7,d8,d9,e0,e1,e2,e3,e4,e5,e6,e7,e8,e9,f0,f1,f2,f3,f4,f5,f6,f7,f8], h) = (a_mov (.v (.slice none 0 0)) h (.c (fun t4 h1 => Q .normal ([a0,a1,a2,a3,t4,a5,a6,a7,a8,a9,b0,b1,b2,b3,b4,b5,b6,b7,b8,b9,d0,d1,d2,d3,d4,d5,d6,d7,d8,d9,e0,e1,e2,e3,e4,e5,e6,e7,e8,e9,f0,f1,f2,f3,f4,f5,f6,f7,f8], h1)) ())) := by rw [awp_eq]; kernel_rfl
noncomputable def c36_18 : Code := cr c36_16
theorem w36_18 : awp X n c36_18 Q st = Q .ret st := by rw [awp_eq]; kernel_rfl
theorem w36_16 : awp X n c36_16 Q st = awp X n c36_17 (thenQ (awp X n c36_18 Q) Q) st := by rw [awp_eq]; kernel_rfl
theorem w36_14 : awp X n c36_14 Q st = awp X n c36_15 (thenQ (awp X n c36_16 Q) Q) st := by rw [awp_eq]; kernel_rfl
noncomputable def c36_19 : Code := cr c36_13
theorem w36_19 : awp X n c36_19 Q st = Q .normal st := by rw [awp_eq]; kernel_rfl
theorem w36_13 : awp X n c36_13 Q ([a0,a1,a2,a3,a4,a5,a6,a7,a8,a9,b0,b1,b2,b3,b4,b5,b6,b7,b8,b9,d0,d1,d2,d3,d4,d5,d6,d7,d8,d9,e0,e1,e2,e3,e4,e5,e6,e7,e8,e9,f0,f1,f2,f3,f4,f5,f6,f7,f8], h) = a_cond b3 (awp X n c36_14 Q ([a0,a1,a2,a3,a4,a5,a6,a7,a8,a9,b0,b1,b2,b3,b4,b5,b6,b7,b8,b9,d0,d1,d2,d3,d4,d5,d6,d7,d8,d9,e0,e1,e2,e3,e4,e5,e6,e7,e8,e9,f0,f1,f2,f3,f4,f5,f6,f7,f8], h)) (awp X n c36_19 Q ([a0,a1,a2,a3,a4,a5,a6,a7,a8,a9,b0,b1,b2,b3,b4,b5,b6,b7,b8,b9,d0,d1,d2,d3,d4,d5,d6,d7,d8,d9,e0,e1,e2,e3,e4,e5,e6,e7,e8,e9,f0,f1,f2,f3,f4,f5,f6,f7,f8], h)) := by rw [awp_eq]; kernel_rfl
theorem w36_11 : awp X n c36_11 Q st = awp X n c36_12 (thenQ (awp X n c36_13 Q) Q) st := by rw [awp_eq]; kernel_rfl
noncomputable def c36_20 : Code := cr c36_10
noncomputable def c36_21 : Code := cl c36_20
theorem w36_21 : awp X n c36_21 Q ([a0,a1,a2,a3,a4,a5,a6,a7,a8,a9,b0,b1,b2,b3,b4,b5,b6,b7,b8,b9,d0,d1,d2,d3,d4,d5,d6,d7,d8,d9,e0,e1,e2,e3,e4,e5,e6,e7,e8,e9,f0,f1,f2,f3,f4,f5,f6,f7,f8], h) = (a_mov a0 h (.c (fun t16 h1 => a_nilc t16 h1 (.c (fun t17 h2 => a_fa 0 t17 h2 (.c (fun t18 h3 => a_load 1 false t18 h3 (.c (fun t19 h4 => a_mov a0 h4 (.c (fun t20 h5 => a_nilc t20 h5 (.c (fun t21 h6 => a_fa 1 t21 h6 (.c (fun t22 h7 => a_load 1 false t22 h7 (.c (fun t23 h8 => a_mov a0 h8 (.c (fun t24 h9 => a_nilc t24 h9 (.c (fun t25 h10 => a_fa 1 t25 h10 (.c (fun t26 h11 => a_load 1 false t26 h11 (.c (fun t27 h12 => a_mov a1 h12 (.c (fun t28 h13 => a_cint .i64 t28 h13 (.c (fun t29 h14 => a_bin .add t27 t29 h14 (.c (fun t30 h15 => a_mov a0 h15 (.c (fun t31 h16 => a_nilc t31 h16 (.c (fun t32 h17 => a_fa 1 t32 h17 (.c (fun t33 h18 => a_load 1 false t33 h18 (.c (fun t34 h19 => a_mov a1 h19 (.c (fun t35 h20 => a_cint .i64 t35 h20 (.c (fun t36 h21 => a_bin .add t34 t36 h21 (.c (fun t37 h22 => a_slice 1 t19 (some t23) (some t30) (some t37) h22 (.c (fun t38 h23 => a_mov t38 h23 (.c (fun t5 h24 => Q .normal ([a0,a1,a2,a3,a4,t5,a6,a7,a8,a9,b0,b1,b2,b3,b4,b5,t16,t17,t18,t19,t20,t21,t22,t23,t24,t25,t26,t27,t28,t29,t30,t31,t32,t33,t34,t35,t36,t37,t38,e9,f0,f1,f2,f3,f4,f5,f6,f7,f8], h24)) ())) ())) ())) ())) ())) ())) ())) ())) ())) ())) ())) ())) ())) ())) ())) ())) ())) ())) ())) ())) ())) ())) ())) ())) := by rw [awp_eq]; kernel_rfl
noncomputable def c36_22 : Code := cr c36_20
noncomputable def c36_23 : Code := cl c36_22
theorem w36_23 : awp X n c36_23 Q ([a0,a1,a2,a3,a4,a5,a6,a7,a8,a9,b0,b1,b2,b3,b4,b5,b6,b7,b8,b9,d0,d1,d2,d3,d4,d5,d6,d7,d8,d9,e0,e1,e2,e3,e4,e5,e6,e7,e8,e9,f0,f1,f2,f3,f4,f5,f6,f7,f8], h) = (a_mov a0 h (.c (fun t39 h1 => a_nilc t39 h1 (.c (fun t40 h2 => a_fa 1 t40 h2 (.c (fun t41 h3 => a_load 1 false t41 h3 (.c (fun t42 h4 => a_mov a1 h4 (.c (fun t43 h5 => a_cint .i64 t43 h5 (.c (fun t44 h6 => a_bin .add t42 t44 h6 (.c (fun t45 h7 => a_nilc t39 h7 (.c (fun t46 h8 => a_fa 1 t46 h8 (.c (fun t47 h9 => a_store 1 t47 t45 h9 (.c (fun _v9 h10 => Q .normal ([a0,a1,a2,a3,a4,a5,a6,a7,a8,a9,b0,b1,b2,b3,b4,b5,b6,b7,b8,b9,d0,d1,d2,d3,d4,d5,d6,d7,d8,d9,e0,e1,e2,e3,e4,e5,e6,e7,e8,t39,t40,t41,t42,t43,t44,t45,t46,t47,f8], h10)) ())) ())) ())) ())) ())) ())) ())) ())) ())) ())) := by rw [awp_eq]; kernel_rfl
noncomputable def c36_24 : Code := cr c36_22
noncomputable def c36_25 : Code := cl c36_24
theorem w36_25 : awp X n c36_25 Q ([a0,a1,a2,a3,a4,a5,a6,a7,a8,a9,b0,b1,b2,b3,b4,b5,b6,b7,b8,b9,d0,d1,d2,d3,d4,d5,d6,d7,d8,d9,e0,e1,e2,e3,e4,e5,e6,e7,e8,e9,f0,f1,f2,f3,f4,f5,f6,f7,f8], h) = (a_mov a5 h (.c (fun t48 h1 => a_mov t48 h1 (.c (fun t4 h2 => Q .normal ([a0,a1,a2,a3,t4,a5,a6,a7,a8,a9,b0,b1,b2,b3,b4,b5,b6,b7,b8,b9,d0,d1,d2,d3,d4,d5,d6,d7,d8,d9,e0,e1,e2,e3,e4,e5,e6,e7,e8,e9,f0,f1,f2,f3,f4,f5,f6,f7,t48], h2)) ())) ())) := by rw [awp_eq]; kernel_rfl
noncomputable def c36_26 : Code := cr c36_24
theorem w36_26 : awp X n c36_26 Q st = Q .ret st := by rw [awp_eq]; kernel_rfl
theorem w36_24 : awp X n c36_24 Q st = awp X n c36_25 (thenQ (awp X n c36_26 Q) Q) st := by rw [awp_eq]; kernel_rfl
theorem w36_22 : awp X n c36_22 Q st = awp X n c36_23 (thenQ (awp X n c36_24 Q) Q) st := by rw [awp_eq]; kernel_rfl
theorem w36_20 : awp X n c36_20 Q st = awp X n c36_21 (thenQ (awp X n c36_22 Q) Q) st := by rw [awp_eq]; kernel_rfl
theorem w36_10 : awp X n c36_10 Q st = awp X n c36_11 (thenQ (awp X n c36_20 Q) Q) st := by rw [awp_eq]; kernel_rfl
theorem w36_2 : awp X n c36_2 Q st = awp X n c36_3 (thenQ (awp X n c36_10 Q) Q) st := by rw [awp_eq]; kernel_rfl
theorem w36_0 : awp X n c36_0 Q st = awp X n c36_1 (thenQ (awp X n c36_2 Q) Q) st := by rw [awp_eq]; kernel_rfl
theorem q36_ret : retQ X Tryd.f36 K .ret ([a0,a1,a2,a3,a4,a5,a6,a7,a8,a9,b0,b1,b2,b3,b4,b5,b6,b7,b8,b9,d0,d1,d2,d3,d4,d5,d6,d7,d8,d9,e0,e1,e2,e3,e4,e5,e6,e7,e8,e9,f0,f1,f2,f3,f4,f5,f6,f7,f8], h) = (K.K a4 h) := by kernel_rfl
theorem q36_normal : retQ X Tryd.f36 K .normal ([a0,a1,a2,a3,a4,a5,a6,a7,a8,a9,b0,b1,b2,b3,b4,b5,b6,b7,b8,b9,d0,d1,d2,d3,d4,d5,d6,d7,d8,d9,e0,e1,e2,e3,e4,e5,e6,e7,e8,e9,f0,f1,f2,f3,f4,f5,f6,f7,f8], h) = (K.K a4 h) := by kernel_rfl
theorem i36 (H : awp X h.length c36_0 (retQ X Tryd.f36 K) ([a0,a1,.bad,.bad,.bad,.bad,.bad,.bad,.bad,.bad,.bad,.bad,.bad,.bad,.bad,.bad,.bad,.bad,.bad,.bad,.bad,.bad,.bad,.bad,.bad,.bad,.bad,.bad,.bad,.bad,.bad,.bad,.bad,.bad,.bad,.bad,.bad,.bad,.bad,.bad,.bad,.bad,.bad,.bad,.bad,.bad,.bad,.bad,.bad], h)) : ACall X 36 [a0, a1] h K := acall_intro (fn := Tryd.f36) (by kernel_rfl) (by kernel_rfl) (by kernel_rfl) H
noncomputable def R36 := And.intro (And.intro (And.intro (And.intro (w36_1) (And.intro w36_4 w36_7)) (And.intro (And.intro w36_8 w36_6) (And.intro w36_9 w36_5))) (And.intro (And.intro (w36_3) (And.intro w36_12 w36_15)) (And.intro (And.intro w36_17 w36_18) (And.intro w36_16 w36_14)))) (And.intro (And.intro (And.intro (w36_19) (And.intro w36_13 w36_11)) (And.intro (And.intro w36_21 w36_23) (And.intro w36_25 w36_26))) (And.intro (And.intro (And.intro w36_24 w36_22) (And.intro w36_20 w36_10)) (And.intro (And.intro w36_2 w36_0) (And.intro q36_ret q36_normal))))
/-! function 37: sindri/cursor.width -/
noncomputable def c37_0 : Code := bodyOf Tryd.f37
noncomputable def c37_1 : Code := cl c37_0
theorem w37_1 : awp X n c37_1 Q ([a0,a1,a2,a3,a4,a5], h) = (a_mov (.v (.int .i64 0)) h (.c (fun t2 h1 => Q .normal ([a0,a1,t2,a3,a4,a5], h1)) ())) := by rw [awp_eq]; kernel_rfl
noncomputable def c37_2 : Code := cr c37_0
noncomputable def c37_3 : Code := cl c37_2
theorem w37_3 : awp X n c37_3 Q ([a0,a1,a2,a3,a4,a5], h) = (a_mov a0 h (.c (fun t3 h1 => a_max [t3, (.v (.int .i64 0))] h1 (.c (fun t4 h2 => a_min [t4, (.v (.int .i64 8))] h2 (.c (fun t5 h3 => a_mov t5 h3 (.c (fun t2 h4 => Q .normal ([a0,a1,t2,t3,t4,t5], h4)) ())) ())) ())) ())) := by rw [awp_eq]; kernel_rfl
noncomputable def c37_4 : Code := cr c37_2
theorem w37_4 : awp X n c37_4 Q st = Q .ret st := by rw [awp_eq]; kernel_rfl
theorem w37_2 : awp X n c37_2 Q st = awp X n c37_3 (thenQ (awp X n c37_4 Q) Q) st := by rw [awp_eq]; kernel_rfl
theorem w37_0 : awp X n c37_0 Q st = awp X n c37_1 (thenQ (awp X n c37_2 Q) Q) st := by rw [awp_eq]; kernel_rfl
theorem q37_ret : retQ X Tryd.f37 K .ret ([a0,a1,a2,a3,a4,a5], h) = (K.K a2 h) := by kernel_rfl
theorem q37_normal : retQ X Tryd.f37 K .normal ([a0,a1,a2,a3,a4,a5], h) = (K.K a2 h) := by kernel_rfl
theorem i37 (H : awp X h.length c37_0 (retQ X Tryd.f37 K) ([a0,.bad,.bad,.bad,.bad,.bad], h)) : ACall X 37 [a0] h K := acall_intro (fn := Tryd.f37) (by kernel_rfl) (by kernel_rfl) (by kernel_rfl) H
noncomputable def R37 := And.intro (And.intro (w37_1) (And.intro w37_3 w37_4)) (And.intro (And.intro w37_2 w37_0) (And.intro q37_ret q37_normal))
/-! function 38: sindri/cursor.Put -/
noncomputable def c38_0 : Code := bodyOf Tryd.f38
noncomputable def c38_1 : Code := cl c38_0
theorem w38_1 : awp X n c38_1 Q ([a0,a1,a2,a3,a4,a5,a6,a7,a8,a9,b0,b1,b2,b3,b4,b5,b6,b7,b8,b9,d0,d1,d2,d3], h) = (a_mov (.v (.slice none 0 0)) h (.c (fun t6 h1 => Q .normal ([a0,a1,a2,a3,a4,a5,t6,a7,a8,a9,b0,b1,b2,b3,b4,b5,b6,b7,b8,b9,d0,d1,d2,d3], h1)) ())) := by rw [awp_eq]; kernel_rfl
noncomputable def c38_2 : Code := cr c38_0
noncomputable def c38_3 : Code := cl c38_2
noncomputable def c38_4 : Code := cl c38_3
theorem w38_4 : awp X n c38_4 Q ([a0,a1,a2,a3,a4,a5,a6,a7,a8,a9,b0,b1,b2,b3,b4,b5,b6,b7,b8,b9,d0,d1,d2,d3], h) = (a_mov a2 h (.c (fun t8 h1 => ACall X 37 [t8] h1 (.c (fun t9 h2 => a_mov (.v (.int .i64 0)) h2 (.c (fun t10 h3 => Q .normal ([a0,a1,a2,a3,a4,a5,a6,a7,t8,t9,t10,b1,b2,b3,b4,b5,b6,b7,b8,b9,d0,d1,d2,d3], h3)) ())) ())) ())) := by rw [awp_eq]; kernel_rfl
noncomputable def c38_5 : Code := cr c38_3
noncomputable def c38_6 : Code := cl c38_5
noncomputable def c38_7 : Code := cl c38_6
noncomputable def c38_8 : Code := cl c38_7
theorem w38_8 : awp X n c38_8 Q ([a0,a1,a2,a3,a4,a5,a6,a7,a8,a9,b0,b1,b2,b3,b4,b5,b6,b7,b8,b9,d0,d1,d2,d3], h) = (a_bin .lss b0 a9 h (.c (fun t11 h1 => Q .normal ([a0,a1,a2,a3,a4,a5,a6,a7,a8,a9,b0,t11,b2,b3,b4,b5,b6,b7,b8,b9,d0,d1,d2,d3], h1)) ())) := by rw [awp_eq]; kernel_rfl
noncomputable def c38_9 : Code := cr c38_7
noncomputable def c38_10 : Code := cl c38_9
noncomputable def c38_11 : Code := cl c38_10
theorem w38_11 : awp X n c38_11 Q st = Q .normal st := by rw [awp_eq]; kernel_rfl
noncomputable def c38_12 : Code := cr c38_10
theorem w38_12 : awp X n c38_12 Q st = Q (.exit 0) st := by rw [awp_eq]; kernel_rfl
theorem w38_10 : awp X n c38_10 Q ([a0,a1,a2,a3,a4,a5,a6,a7,a8,a9,b0,b1,b2,b3,b4,b5,b6,b7,b8,b9,d0,d1,d2,d3], h) = a_cond b1 (awp X n c38_11 Q ([a0,a1,a2,a3,a4,a5,a6,a7,a8,a9,b0,b1,b2,b3,b4,b5,b6,b7,b8,b9,d0,d1,d2,d3], h)) (awp X n c38_12 Q ([a0,a1,a2,a3,a4,a5,a6,a7,a8,a9,b0,b1,b2,b3,b4,b5,b6,b7,b8,b9,d0,d1,d2,d3], h)) := by rw [awp_eq]; kernel_rfl
noncomputable def c38_13 : Code := cr c38_9
noncomputable def c38_14 : Code := cl c38_13
noncomputable def c38_15 : Code := cl c38_14
noncomputable def c38_16 : Code := cl c38_15
theorem w38_16 : awp X n c38_16 Q ([a0,a1,a2,a3,a4,a5,a6,a7,a8,a9,b0,b1,b2,b3,b4,b5,b6,b7,b8,b9,d0,d1,d2,d3], h) = (a_mov b0 h (.c (fun t12 h1 => a_mov t12 h1 (.c (fun t7 h2 => Q .normal ([a0,a1,a2,a3,a4,a5,a6,t7,a8,a9,b0,b1,t12,b3,b4,b5,b6,b7,b8,b9,d0,d1,d2,d3], h2)) ())) ())) := by rw [awp_eq]; kernel_rfl
noncomputable def c38_17 : Code := cr c38_15
theorem w38_17 : awp X n c38_17 Q ([a0,a1,a2,a3,a4,a5,a6,a7,a8,a9,b0,b1,b2,b3,b4,b5,b6,b7,b8,b9,d0,d1,d2,d3], h) = (a_mov a0 h (.c (fun t13 h1 => a_mov a1 h1 (.c (fun t14 h2 => a_mov a7 h2 (.c (fun t15 h3 => a_bin .mul (.v (.int .i64 8)) t15 h3 (.c (fun t16 h4 => a_cint .u64 t16 h4 (.c (fun t17 h5 => a_bin .shr t14 t17 h5 (.c (fun t18 h6 => a_cint .u8 t18 h6 (.c (fun t19 h7 => a_lit 1 1 [.v (.int .u8 0)] [(0, 1, t19)] h7 (.c (fun t20 h8 => a_app 1 1 t13 t20 h8 (.c (fun t21 h9 => a_mov t21 h9 (.c (fun t0 h10 => Q .normal ([t0,a1,a2,a3,a4,a5,a6,a7,a8,a9,b0,b1,b2,t13,t14,t15,t16,t17,t18,t19,t20,t21,d2,d3], h10)) ())) ())) ())) ())) ())) ())) ())) ())) ())) ())) := by rw [awp_eq]; kernel_rfl
theorem w38_15 : awp X n c38_15 Q st = awp X n c38_16 (thenQ (awp X n c38_17 Q) Q) st := by rw [awp_eq]; kernel_rfl
theorem w38_14 : awp X n c38_14 Q st = awp X n c38_15 (blockQ 1 Q) st := by rw [awp_eq]; kernel_rfl
noncomputable def c38_18 : Code := cr c38_13
theorem w38_18 : awp X n c38_18 Q ([a0,a1,a2,a3,a4,a5,a6,a7,a8,a9,b0,b1,b2,b3,b4,b5,b6,b7,b8,b9,d0,d1,d2,d3], h) = (a_bin .add b0 (.v (.int .i64 1)) h (.c (fun t22 h1 => a_mov t22 h1 (.c (fun t10 h2 => Q .normal ([a0,a1,a2,a3,a4,a5,a6,a7,a8,a9,t10,b1,b2,b3,b4,b5,b6,b7,b8,b9,d0,d1,t22,d3], h2)) ())) ())) := by rw [awp_eq]; kernel_rfl
theorem w38_13 : awp X n c38_13 Q st = awp X n c38_14 (thenQ (awp X n c38_18 Q) Q) st := by rw [awp_eq]; kernel_rfl
theorem w38_9 : awp X n c38_9 Q st = awp X n c38_10 (thenQ (awp X n c38_13 Q) Q) st := by rw [awp_eq]; kernel_rfl
theorem w38_7 : awp X n c38_7 Q st = awp X n c38_8 (thenQ (awp X n c38_9 Q) Q) st := by rw [awp_eq]; kernel_rfl
theorem w38_6 : awp X n c38_6 Q st = ALoop X n c38_7 Q st := by rw [awp_eq]; kernel_rfl
theorem w38_5 : awp X n c38_5 Q st = awp X n c38_6 (blockQ 0 Q) st := by rw [awp_eq]; kernel_rfl
theorem w38_3 : awp X n c38_3 Q st = awp X n c38_4 (thenQ (awp X n c38_5 Q) Q) st := by rw [awp_eq]; kernel_rfl
noncomputable def c38_19 : Code := cr c38_2
noncomputable def c38_20 : Code := cl c38_19
theorem w38_20 : awp X n c38_20 Q ([a0,a1,a2,a3,a4,a5,a6,a7,a8,a9,b0,b1,b2,b3,b4,b5,b6,b7,b8,b9,d0,d1,d2,d3], h) = (a_mov a0 h (.c (fun t23 h1 => a_mov t23 h1 (.c (fun t6 h2 => Q .normal ([a0,a1,a2,a3,a4,a5,t6,a7,a8,a9,b0,b1,b2,b3,b4,b5,b6,b7,b8,b9,d0,d1,d2,t23], h2)) ())) ())) := by rw [awp_eq]; kernel_rfl
noncomputable def c38_21 : Code := cr c38_19
theorem w38_21 : awp X n c38_21 Q st = Q .ret st := by rw [awp_eq]; kernel_rfl
theorem w38_19 : awp X n c38_19 Q st = awp X n c38_20 (thenQ (awp X n c38_21 Q) Q) st := by rw [awp_eq]; kernel_rfl
theorem w38_2 : awp X n c38_2 Q st = awp X n c38_3 (thenQ (awp X n c38_19 Q) Q) st := by rw [awp_eq]; kernel_rfl
theorem w38_0 : awp X n c38_0 Q st = awp X n c38_1 (thenQ (awp X n c38_2 Q) Q) st := by rw [awp_eq]; kernel_rfl
theorem q38_ret : retQ X Tryd.f38 K .ret ([a0,a1,a2,a3,a4,a5,a6,a7,a8,a9,b0,b1,b2,b3,b4,b5,b6,b7,b8,b9,d0,d1,d2,d3], h) = (K.K a6 h) := by kernel_rfl
theorem q38_normal : retQ X Tryd.f38 K .normal ([a0,a1,a2,a3,a4,a5,a6,a7,a8,a9,b0,b1,b2,b3,b4,b5,b6,b7,b8,b9,d0,d1,d2,d3], h) = (K.K a6 h) := by kernel_rfl
theorem i38 (H : awp X h.length c38_0 (retQ X Tryd.f38 K) ([a0,a1,a2,.bad,.bad,.bad,.bad,.bad,.bad,.bad,.bad,.bad,.bad,.bad,.bad,.bad,.bad,.bad,.bad,.bad,.bad,.bad,.bad,.bad], h)) : ACall X 38 [a0, a1, a2] h K := acall_intro (fn := Tryd.f38) (by kernel_rfl) (by kernel_rfl) (by kernel_rfl) H
noncomputable def R38 := And.intro (And.intro (And.intro (And.intro (w38_1) (And.intro w38_4 w38_8)) (And.intro (w38_11) (And.intro w38_12 w38_10))) (And.intro (And.intro (w38_16) (And.intro w38_17 w38_15)) (And.intro (w38_14) (And.intro w38_18 w38_13)))) (And.intro (And.intro (And.intro (w38_9) (And.intro w38_7 w38_6)) (And.intro (w38_5) (And.intro w38_3 w38_20))) (And.intro (And.intro (w38_21) (And.intro w38_19 w38_2)) (And.intro (w38_0) (And.intro q38_ret q38_normal))))
/-! function 40: sindri/sindriref01.size -/
noncomputable def c40_0 : Code := bodyOf Tryd.f40
noncomputable def c40_1 : Code := cl c40_0
theorem w40_1 : awp X n c40_1 Q ([a0,a1,a2,a3,a4,a5,a6,a7], h) = (a_mov (.v (.int .i64 0)) h (.c (fun t2 h1 => Q .normal ([a0,a1,t2,a3,a4,a5,a6,a7], h1)) ())) := by rw [awp_eq]; kernel_rfl
noncomputable def c40_2 : Code := cr c40_0
noncomputable def c40_3 : Code := cl c40_2
noncomputable def c40_4 : Code := cl c40_3
theorem w40_4 : awp X n c40_4 Q ([a0,a1,a2,a3,a4,a5,a6,a7], h) = (a_mov a0 h (.c (fun t3 h1 => a_bin .lss t3 (.v (.int .i64 0)) h1 (.c (fun t4 h2 => Q .normal ([a0,a1,a2,t3,t4,a5,a6,a7], h2)) ())) ())) := by rw [awp_eq]; kernel_rfl
noncomputable def c40_5 : Code := cr c40_3
noncomputable def c40_6 : Code := cl c40_5
noncomputable def c40_7 : Code := cl c40_6
theorem w40_7 : awp X n c40_7 Q ([a0,a1,a2,a3,a4,a5,a6,a7], h) = (a_mov (.v (.int .i64 0)) h (.c (fun t2 h1 => Q .normal ([a0,a1,t2,a3,a4,a5,a6,a7], h1)) ())) := by rw [awp_eq]; kernel_rfl
noncomputable def c40_8 : Code := cr c40_6
theorem w40_8 : awp X n c40_8 Q st = Q .ret st := by rw [awp_eq]; kernel_rfl
theorem w40_6 : awp X n c40_6 Q st = awp X n c40_7 (thenQ (awp X n c40_8 Q) Q) st := by rw [awp_eq]; kernel_rfl
noncomputable def c40_9 : Code := cr c40_5
theorem w40_9 : awp X n c40_9 Q st = Q .normal st := by rw [awp_eq]; kernel_rfl
theorem w40_5 : awp X n c40_5 Q ([a0,a1,a2,a3,a4,a5,a6,a7], h) = a_cond a4 (awp X n c40_6 Q ([a0,a1,a2,a3,a4,a5,a6,a7], h)) (awp X n c40_9 Q ([a0,a1,a2,a3,a4,a5,a6,a7], h)) := by rw [awp_eq]; kernel_rfl
theorem w40_3 : awp X n c40_3 Q st = awp X n c40_4 (thenQ (awp X n c40_5 Q) Q) st := by rw [awp_eq]; kernel_rfl
noncomputable def c40_10 : Code := cr c40_2
noncomputable def c40_11 : Code := cl c40_10
noncomputable def c40_12 : Code := cl c40_11
theorem w40_12 : awp X n c40_12 Q ([a0,a1,a2,a3,a4,a5,a6,a7], h) = (a_mov a0 h (.c (fun t5 h1 => a_bin .gtr t5 (.v (.int .i64 8)) h1 (.c (fun t6 h2 => Q .normal ([a0,a1,a2,a3,a4,t5,t6,a7], h2)) ())) ())) := by rw [awp_eq]; kernel_rfl
noncomputable def c40_13 : Code := cr c40_11
noncomputable def c40_14 : Code := cl c40_13
noncomputable def c40_15 : Code := cl c40_14
theorem w40_15 : awp X n c40_15 Q ([a0,a1,a2,a3,a4,a5,a6,a7], h) = (a_mov (.v (.int .i64 8)) h (.c (fun t2 h1 => Q .normal ([a0,a1,t2,a3,a4,a5,a6,a7], h1)) ())) := by rw [awp_eq]; kernel_rfl
noncomputable def c40_16 : Code := cr c40_14
theorem w40_16 : awp X n c40_16 Q st = Q .ret st := by rw [awp_eq]; kernel_rfl
theorem w40_14 : awp X n c40_14 Q st = awp X n c40_15 (thenQ (awp X n c40_16 Q) Q) st := by rw [awp_eq]; kernel_rfl
noncomputable def c40_17 : Code := cr c40_13
theorem w40_17 : awp X n c40_17 Q st = Q .normal st := by rw [awp_eq]; kernel_rfl
theorem w40_13 : awp X n c40_13 Q ([a0,a1,a2,a3,a4,a5,a6,a7], h) = a_cond a6 (awp X n c40_14 Q ([a0,a1,a2,a3,a4,a5,a6,a7], h)) (awp X n c40_17 Q ([a0,a1,a2,a3,a4,a5,a6,a7], h)) := by rw [awp_eq]; kernel_rfl
theorem w40_11 : awp X n c40_11 Q st = awp X n c40_12 (thenQ (awp X n c40_13 Q) Q) st := by rw [awp_eq]; kernel_rfl
noncomputable def c40_18 : Code := cr c40_10
noncomputable def c40_19 : Code := cl c40_18
theorem w40_19 : awp X n c40_19 Q ([a0,a1,a2,a3,a4,a5,a6,a7], h) = (a_mov a0 h (.c (fun t7 h1 => a_mov t7 h1 (.c (fun t2 h2 => Q .normal ([a0,a1,t2,a3,a4,a5,a6,t7], h2)) ())) ())) := by rw [awp_eq]; kernel_rfl
noncomputable def c40_20 : Code := cr c40_18
theorem w40_20 : awp X n c40_20 Q st = Q .ret st := by rw [awp_eq]; kernel_rfl
theorem w40_18 : awp X n c40_18 Q st = awp X n c40_19 (thenQ (awp X n c40_20 Q) Q) st := by rw [awp_eq]; kernel_rfl
theorem w40_10 : awp X n c40_10 Q st = awp X n c40_11 (thenQ (awp X n c40_18 Q) Q) st := by rw [awp_eq]; kernel_rfl
theorem w40_2 : awp X n c40_2 Q st = awp X n c40_3 (thenQ (awp X n c40_10 Q) Q) st := by rw [awp_eq]; kernel_rfl
theorem w40_0 : awp X n c40_0 Q st = awp X n c40_1 (thenQ (awp X n c40_2 Q) Q) st := by rw [awp_eq]; kernel_rfl
theorem q40_ret : retQ X Tryd.f40 K .ret ([a0,a1,a2,a3,a4,a5,a6,a7], h) = (K.K a2 h) := by kernel_rfl
theorem q40_normal : retQ X Tryd.f40 K .normal ([a0,a1,a2,a3,a4,a5,a6,a7], h) = (K.K a2 h) := by kernel_rfl
theorem i40 (H : awp X h.length c40_0 (retQ X Tryd.f40 K) ([a0,.bad,.bad,.bad,.bad,.bad,.bad,.bad], h)) : ACall X 40 [a0] h K := acall_intro (fn := Tryd.f40) (by kernel_rfl) (by kernel_rfl) (by kernel_rfl) H
noncomputable def R40 := And.intro (And.intro (And.intro (And.intro w40_1 w40_4) (And.intro (w40_7) (And.intro w40_8 w40_6))) (And.intro (And.intro (w40_9) (And.intro w40_5 w40_3)) (And.intro (w40_12) (And.intro w40_15 w40_16)))) (And.intro (And.intro (And.intro (w40_14) (And.intro w40_17 w40_13)) (And.intro (w40_11) (And.intro w40_19 w40_20))) (And.intro (And.intro (w40_18) (And.intro w40_10 w40_2)) (And.intro (w40_0) (And.intro q40_ret q40_normal))))
/-! function 41: (*sindri/cursor.Cursor).Left -/
noncomputable def c41_0 : Code := bodyOf Tryd.f41
noncomputable def c41_1 : Code := cl c41_0
theorem w41_1 : awp X n c41_1 Q ([a0,a1,a2,a3,a4,a5,a6,a7,a8,a9,b0,b1,b2,b3,b4,b5], h) = (a_mov (.v (.int .i64 0)) h (.c (fun t2 h1 => Q .normal ([a0,a1,t2,a3,a4,a5,a6,a7,a8,a9,b0,b1,b2,b3,b4,b5], h1)) ())) := by rw [awp_eq]; kernel_rfl
noncomputable def c41_2 : Code := cr c41_0
noncomputable def c41_3 : Code := cl c41_2
noncomputable def c41_4 : Code := cl c41_3
theorem w41_4 : awp X n c41_4 Q ([a0,a1,a2,a3,a4,a5,a6,a7,a8,a9,b0,b1,b2,b3,b4,b5], h) = (a_mov a0 h (.c (fun t3 h1 => ACall X 34 [t3] h1 (.c (fun t4 h2 => a_bin .neq t4 (.v (.int .i64 0)) h2 (.c (fun t5 h3 => Q .normal ([a0,a1,a2,t3,t4,t5,a6,a7,a8,a9,b0,b1,b2,b3,b4,b5], h3)) ())) ())) ())) := by rw [awp_eq]; kernel_rfl
noncomputable def c41_5 : Code := cr c41_3
noncomputable def c41_6 : Code := cl c41_5
noncomputable def c41_7 : Code := cl c41_6
theorem w41_7 : awp X n c41_7 Q ([a0,a1,a2,a3,a4,a5,a6,a7,a8,a9,b0,b1,b2,b3,b4,b5], h) = (a_mov (.v (.int .i64 0)) h (.c (fun t2 h1 => Q .normal ([a0,a1,t2,a3,a4,a5,a6,a7,a8,a9,b0,b1,b2,b3,b4,b5], h1)) ())) := by rw [awp_eq]; kernel_rfl
noncomputable def c41_8 : Code := cr c41_6
theorem w41_8 : awp X n c41_8 Q st = Q .ret st := by rw [awp_eq]; kernel_rfl
theorem w41_6 : awp X n c41_6 Q st = awp X n c41_7 (thenQ (awp X n c41_8 Q) Q) st := by rw [awp_eq]; kernel_rfl
noncomputable def c41_9 : Code := cr c41_5
theorem w41_9 : awp X n c41_9 Q st = Q .normal st := by rw [awp_eq]; kernel_rfl
theorem w41_5 : awp X n c41_5 Q ([a0,a1,a2,a3,a4,a5,a6,a7,a8,a9,b0,b1,b2,b3,b4,b5], h) = a_cond a5 (awp X n c41_6 Q ([a0,a1,a2,a3,a4,a5,a6,a7,a8,a9,b0,b1,b2,b3,b4,b5], h)) (awp X n c41_9 Q ([a0,a1,a2,a3,a4,a5,a6,a7,a8,a9,b0,b1,b2,b3,b4,b5], h)) := by rw [awp_eq]; kernel_rfl
theorem w41_3 : awp X n c41_3 Q st = awp X n c41_4 (thenQ (awp X n c41_5 Q) Q) st := by rw [awp_eq]; kernel_rfl
noncomputable def c41_10 : Code := cr c41_2
noncomputable def c41_11 : Code := cl c41_10
theorem w41_11 : awp X n c41_11 Q ([a0,a1,a2,a3,a4,a5,a6,a7,a8,a9,b0,b1,b2,b3,b4,b5], h) = (a_mov a0 h (.c (fun t6 h1 => a_nilc t6 h1 (.c (fun t7 h2 => a_fa 0 t7 h2 (.c (fun t8 h3 => a_load 1 false t8 h3 (.c (fun t9 h4 => a_len t9 h4 (.c (fun t10 h5 => a_mov a0 h5 (.c (fun t11 h6 => a_nilc t11 h6 (.c (fun t12 h7 => a_fa 1 t12 h7 (.c (fun t13 h8 => a_load 1 false t13 h8 (.c (fun t14 h9 => a_bin .sub t10 t14 h9 (.c (fun t15 h10 => a_mov t15 h10 (.c (fun t2 h11 => Q .normal ([a0,a1,t2,a3,a4,a5,t6,t7,t8,t9,t10,t11,t12,t13,t14,t15], h11)) ())) ())) ())) ())) ())) ())) ())) ())) ())) ())) ())) := by rw [awp_eq]; kernel_rfl
noncomputable def c41_12 : Code := cr c41_10
theorem w41_12 : awp X n c41_12 Q st = Q .ret st := by rw [awp_eq]; kernel_rfl
theorem w41_10 : awp X n c41_10 Q st = awp X n c41_11 (thenQ (awp X n c41_12 Q) Q) st := by rw [awp_eq]; kernel_rfl
theorem w41_2 : awp X n c41_2 Q st = awp X n c41_3 (thenQ (awp X n c41_10 Q) Q) st := by rw [awp_eq]; kernel_rfl
theorem w41_0 : awp X n c41_0 Q st = awp X n c41_1 (thenQ (awp X n c41_2 Q) Q) st := by rw [awp_eq]; kernel_rfl
theorem q41_ret : retQ X Tryd.f41 K .ret ([a0,a1,a2,a3,a4,a5,a6,a7,a8,a9,b0,b1,b2,b3,b4,b5], h) = (K.K a2 h) := by kernel_rfl
theorem q41_normal : retQ X Tryd.f41 K .normal ([a0,a1,a2,a3,a4,a5,a6,a7,a8,a9,b0,b1,b2,b3,b4,b5], h) = (K.K a2 h) := by kernel_rfl
theorem i41 (H : awp X h.length c41_0 (retQ X Tryd.f41 K) ([a0,.bad,.bad,.bad,.bad,.bad,.bad,.bad,.bad,.bad,.bad,.bad,.bad,.bad,.bad,.bad], h)) : ACall X 41 [a0] h K := acall_intro (fn := Tryd.f41) (by kernel_rfl) (by kernel_rfl) (by kernel_rfl) H
noncomputable def R41 := And.intro (And.intro (And.intro (w41_1) (And.intro w41_4 w41_7)) (And.intro (And.intro w41_8 w41_6) (And.intro w41_9 w41_5))) (And.intro (And.intro (And.intro w41_3 w41_11) (And.intro w41_12 w41_10)) (And.intro (And.intro w41_2 w41_0) (And.intro q41_ret q41_normal)))
/-! function 43: (*sindri/cursor.Cursor).At -/
noncomputable def c43_0 : Code := bodyOf Tryd.f43
noncomputable def c43_1 : Code := cl c43_0
theorem w43_1 : awp X n c43_1 Q ([a0,a1,a2,a3,a4,a5,a6,a7,a8], h) = (a_mov (.v (.int .i64 0)) h (.c (fun t2 h1 => Q .normal ([a0,a1,t2,a3,a4,a5,a6,a7,a8], h1)) ())) := by rw [awp_eq]; kernel_rfl
noncomputable def c43_2 : Code := cr c43_0
noncomputable def c43_3 : Code := cl c43_2
noncomputable def c43_4 : Code := cl c43_3
theorem w43_4 : awp X n c43_4 Q ([a0,a1,a2,a3,a4,a5,a6,a7,a8], h) = (a_mov a0 h (.c (fun t3 h1 => a_eqp false t3 (.v (.pointer none)) h1 (.c (fun t4 h2 => Q .normal ([a0,a1,a2,t3,t4,a5,a6,a7,a8], h2)) ())) ())) := by rw [awp_eq]; kernel_rfl
noncomputable def c43_5 : Code := cr c43_3
noncomputable def c43_6 : Code := cl c43_5
noncomputable def c43_7 : Code := cl c43_6
theorem w43_7 : awp X n c43_7 Q ([a0,a1,a2,a3,a4,a5,a6,a7,a8], h) = (a_mov (.v (.int .i64 0)) h (.c (fun t2 h1 => Q .normal ([a0,a1,t2,a3,a4,a5,a6,a7,a8], h1)) ())) := by rw [awp_eq]; kernel_rfl
noncomputable def c43_8 : Code := cr c43_6
theorem w43_8 : awp X n c43_8 Q st = Q .ret st := by rw [awp_eq]; kernel_rfl
theorem w43_6 : awp X n c43_6 Q st = awp X n c43_7 (thenQ (awp X n c43_8 Q) Q) st := by rw [awp_eq]; kernel_rfl
noncomputable def c43_9 : Code := cr c43_5
theorem w43_9 : awp X n c43_9 Q st = Q .normal st := by rw [awp_eq]; kernel_rfl
theorem w43_5 : awp X n c43_5 Q ([a0,a1,a2,a3,a4,a5,a6,a7,a8], h) = a_cond a4 (awp X n c43_6 Q ([a0,a1,a2,a3,a4,a5,a6,a7,a8], h)) (awp X n c43_9 Q ([a0,a1,a2,a3,a4,a5,a6,a7,a8], h)) := by rw [awp_eq]; kernel_rfl
theorem w43_3 : awp X n c43_3 Q st = awp X n c43_4 (thenQ (awp X n c43_5 Q) Q) st := by rw [awp_eq]; kernel_rfl
noncomputable def c43_10 : Code := cr c43_2
noncomputable def c43_11 : Code := cl c43_10
theorem w43_11 : awp X n c43_11 Q ([a0,a1,a2,a3,a4,a5,a6,a7,a8], h) = (a_mov a0 h (.c (fun t5 h1 => a_nilc t5 h1 (.c (fun t6 h2 => a_fa 1 t6 h2 (.c (fun t7 h3 => a_load 1 false t7 h3 (.c (fun t8 h4 => a_mov t8 h4 (.c (fun t2 h5 => Q .normal ([a0,a1,t2,a3,a4,t5,t6,t7,t8], h5)) ())) ())) ())) ())) ())) := by rw [awp_eq]; kernel_rfl
noncomputable def c43_12 : Code := cr c43_10
theorem w43_12 : awp X n c43_12 Q st = Q .ret st := by rw [awp_eq]; kernel_rfl
theorem w43_10 : awp X n c43_10 Q st = awp X n c43_11 (thenQ (awp X n c43_12 Q) Q) st := by rw [awp_eq]; kernel_rfl
theorem w43_2 : awp X n c43_2 Q st = awp X n c43_3 (thenQ (awp X n c43_10 Q) Q) st := by rw [awp_eq]; kernel_rfl
theorem w43_0 : awp X n c43_0 Q st = awp X n c43_1 (thenQ (awp X n c43_2 Q) Q) st := by rw [awp_eq]; kernel_rfl
theorem q43_ret : retQ X Tryd.f43 K .ret ([a0,a1,a2,a3,a4,a5,a6,a7,a8], h) = (K.K a2 h) := by kernel_rfl
theorem q43_normal : retQ X Tryd.f43 K .normal ([a0,a1,a2,a3,a4,a5,a6,a7,a8], h) = (K.K a2 h) := by kernel_rfl
theorem i43 (H : awp X h.length c43_0 (retQ X Tryd.f43 K) ([a0,.bad,.bad,.bad,.bad,.bad,.bad,.bad,.bad], h)) : ACall X 43 [a0] h K := acall_intro (fn := Tryd.f43) (by kernel_rfl) (by kernel_rfl) (by kernel_rfl) H
noncomputable def R43 := And.intro (And.intro (And.intro (w43_1) (And.intro w43_4 w43_7)) (And.intro (And.intro w43_8 w43_6) (And.intro w43_9 w43_5))) (And.intro (And.intro (And.intro w43_3 w43_11) (And.intro w43_12 w43_10)) (And.intro (And.intro w43_2 w43_0) (And.intro q43_ret q43_normal)))
/-! function 45: (*sindri/sindriref01.C).Sub -/
noncomputable def c45_0 : Code := bodyOf Tryd.f45
noncomputable def c45_1 : Code := cl c45_0
theorem w45_1 : awp X n c45_1 Q ([a0,a1,a2,a3,a4,a5,a6,a7,a8,a9,b0,b1,b2,b3,b4,b5], h) = (a_mov (.v (.pointer none)) h (.c (fun t4 h1 => Q .normal ([a0,a1,a2,a3,t4,a5,a6,a7,a8,a9,b0,b1,b2,b3,b4,b5], h1)) ())) := by rw [awp_eq]; kernel_rfl
noncomputable def c45_2 : Code := cr c45_0
noncomputable def c45_3 : Code := cl c45_2
theorem w45_3 : awp X n c45_3 Q ([a0,a1,a2,a3,a4,a5,a6,a7,a8,a9,b0,b1,b2,b3,b4,b5], h) = (a_mov a0 h (.c (fun t6 h1 => a_mov a1 h1 (.c (fun t7 h2 => ACall X 50 [t6, t7] h2 (.c (fun t8 h3 => a_mov t8 h3 (.c (fun t5 h4 => Q .normal ([a0,a1,a2,a3,a4,t5,t6,t7,t8,a9,b0,b1,b2,b3,b4,b5], h4)) ())) ())) ())) ())) := by rw [awp_eq]; kernel_rfl
noncomputable def c45_4 : Code := cr c45_2
noncomputable def c45_5 : Code := cl c45_4
theorem w45_5 : awp X n c45_5 Q ([a0,a1,a2,a3,a4,a5,a6,a7,a8,a9,b0,b1,b2,b3,b4,b5], h) = (a_mov a5 h (.c (fun t9 h1 => a_mov a0 h1 (.c (fun t10 h2 => a_nilc t10 h2 (.c (fun t11 h3 => a_fa 2 t11 h3 (.c (fun t12 h4 => a_load 1 false t12 h4 (.c (fun t13 h5 => a_build [.v (.slice none 0 0), .v (.int .i64 0), .v (.int .i64 0)] [(0, 1, t9), (2, 1, t13)] h5 (.c (fun t14 h6 => a_box t14 h6 (.c (fun t15 h7 => a_mov t15 h7 (.c (fun t4 h8 => Q .normal ([a0,a1,a2,a3,t4,a5,a6,a7,a8,t9,t10,t11,t12,t13,t14,t15], h8)) ())) ())) ())) ())) ())) ())) ())) ())) := by rw [awp_eq]; kernel_rfl
noncomputable def c45_6 : Code := cr c45_4
theorem w45_6 : awp X n c45_6 Q st = Q .ret st := by rw [awp_eq]; kernel_rfl
theorem w45_4 : awp X n c45_4 Q st = awp X n c45_5 (thenQ (awp X n c45_6 Q) Q) st := by rw [awp_eq]; kernel_rfl
theorem w45_2 : awp X n c45_2 Q st = awp X n c45_3 (thenQ (awp X n c45_4 Q) Q) st := by rw [awp_eq]; kernel_rfl
theorem w45_0 : awp X n c45_0 Q st = awp X n c45_1 (thenQ (awp X n c45_2 Q) Q) st := by rw [awp_eq]; kernel_rfl
theorem q45_ret : retQ X Tryd.f45 K .ret ([a0,a1,a2,a3,a4,a5,a6,a7,a8,a9,b0,b1,b2,b3,b4,b5], h) = (K.K a4 h) := by kernel_rfl
theorem q45_normal : retQ X Tryd.f45 K .normal ([a0,a1,a2,a3,a4,a5,a6,a7,a8,a9,b0,b1,b2,b3,b4,b5], h) = (K.K a4 h) := by kernel_rfl
theorem i45 (H : awp X h.length c45_0 (retQ X Tryd.f45 K) ([a0,a1,.bad,.bad,.bad,.bad,.bad,.bad,.bad,.bad,.bad,.bad,.bad,.bad,.bad,.bad], h)) : ACall X 45 [a0, a1] h K := acall_intro (fn := Tryd.f45) (by kernel_rfl) (by kernel_rfl) (by kernel_rfl) H
noncomputable def R45 := And.intro (And.intro (And.intro w45_1 w45_3) (And.intro w45_5 w45_6)) (And.intro (And.intro w45_4 w45_2) (And.intro (w45_0) (And.intro q45_ret q45_normal)))
/-! function 48: (*sindri/cursor.Cursor).Sub -/
noncomputable def c48_0 : Code := bodyOf Tryd.f48
noncomputable def c48_1 : Code := cl c48_0
theorem w48_1 : awp X n c48_1 Q ([a0,a1,a2,a3,a4,a5,a6,a7,a8,a9,b0,b1,b2,b3,b4,b5], h) = (a_mov (.v (.pointer none)) h (.c (fun t4 h1 => Q .normal ([a0,a1,a2,a3,t4,a5,a6,a7,a8,a9,b0,b1,b2,b3,b4,b5], h1)) ())) := by rw [awp_eq]; kernel_rfl
noncomputable def c48_2 : Code := cr c48_0
noncomputable def c48_3 : Code := cl c48_2
theorem w48_3 : awp X n c48_3 Q ([a0,a1,a2,a3,a4,a5,a6,a7,a8,a9,b0,b1,b2,b3,b4,b5], h) = (a_mov a0 h (.c (fun t6 h1 => a_mov a1 h1 (.c (fun t7 h2 => ACall X 36 [t6, t7] h2 (.c (fun t8 h3 => ACall X 17 [t8] h3 (.c (fun t9 h4 => a_mov t9 h4 (.c (fun t5 h5 => Q .normal ([a0,a1,a2,a3,a4,t5,t6,t7,t8,t9,b0,b1,b2,b3,b4,b5], h5)) ())) ())) ())) ())) ())) := by rw [awp_eq]; kernel_rfl
noncomputable def c48_4 : Code := cr c48_2
noncomputable def c48_5 : Code := cl c48_4
theorem w48_5 : awp X n c48_5 Q ([a0,a1,a2,a3,a4,a5,a6,a7,a8,a9,b0,b1,b2,b3,b4,b5], h) = (a_mov a5 h (.c (fun t10 h1 => a_mov a0 h1 (.c (fun t11 h2 => ACall X 34 [t11] h2 (.c (fun t12 h3 => a_nilc t10 h3 (.c (fun t13 h4 => a_fa 3 t13 h4 (.c (fun t14 h5 => a_store 1 t14 t12 h5 (.c (fun _v5 h6 => Q .normal ([a0,a1,a2,a3,a4,a5,a6,a7,a8,a9,t10,t11,t12,t13,t14,b5], h6)) ())) ())) ())) ())) ())) ())) := by rw [awp_eq]; kernel_rfl
noncomputable def c48_6 : Code := cr c48_4
noncomputable def c48_7 : Code := cl c48_6
theorem w48_7 : awp X n c48_7 Q ([a0,a1,a2,a3,a4,a5,a6,a7,a8,a9,b0,b1,b2,b3,b4,b5], h) = (a_mov a5 h (.c (fun t15 h1 => a_mov t15 h1 (.c (fun t4 h2 => Q .normal ([a0,a1,a2,a3,t4,a5,a6,a7,a8,a9,b0,b1,b2,b3,b4,t15], h2)) ())) ())) := by rw [awp_eq]; kernel_rfl
noncomputable def c48_8 : Code := cr c48_6
theorem w48_8 : awp X n c48_8 Q st = Q .ret st := by rw [awp_eq]; kernel_rfl
theorem w48_6 : awp X n c48_6 Q st = awp X n c48_7 (thenQ (awp X n c48_8 Q) Q) st := by rw [awp_eq]; kernel_rfl
theorem w48_4 : awp X n c48_4 Q st = awp X n c48_5 (thenQ (awp X n c48_6 Q) Q) st := by rw [awp_eq]; kernel_rfl
theorem w48_2 : awp X n c48_2 Q st = awp X n c48_3 (thenQ (awp X n c48_4 Q) Q) st := by rw [awp_eq]; kernel_rfl
theorem w48_0 : awp X n c48_0 Q st = awp X n c48_1 (thenQ (awp X n c48_2 Q) Q) st := by rw [awp_eq]; kernel_rfl
theorem q48_ret : retQ X Tryd.f48 K .ret ([a0,a1,a2,a3,a4,a5,a6,a7,a8,a9,b0,b1,b2,b3,b4,b5], h) = (K.K a4 h) := by kernel_rfl
theorem q48_normal : retQ X Tryd.f48 K .normal ([a0,a1,a2,a3,a4,a5,a6,a7,a8,a9,b0,b1,b2,b3,b4,b5], h) = (K.K a4 h) := by kernel_rfl
theorem i48 (H : awp X h.length c48_0 (retQ X Tryd.f48 K) ([a0,a1,.bad,.bad,.bad,.bad,.bad,.bad,.bad,.bad,.bad,.bad,.bad,.bad,.bad,.bad], h)) : ACall X 48 [a0, a1] h K := acall_intro (fn := Tryd.f48) (by kernel_rfl) (by kernel_rfl) (by kernel_rfl) H
noncomputable def R48 := And.intro (And.intro (And.intro w48_1 w48_3) (And.intro (w48_5) (And.intro w48_7 w48_8))) (And.intro (And.intro (w48_6) (And.intro w48_4 w48_2)) (And.intro (w48_0) (And.intro q48_ret q48_normal)))
/-! function 49: (*sindri/sindriref01.C).Fail -/
noncomputable def c49_0 : Code := bodyOf Tryd.f49
noncomputable def c49_1 : Code := cl c49_0
theorem w49_1 : awp X n c49_1 Q ([a0,a1,a2,a3,a4,a5,a6,a7,a8,a9,b0,b1,b2], h) = (a_mov a0 h (.c (fun t4 h1 => a_nilc t4 h1 (.c (fun t5 h2 => a_fa 2 t5 h2 (.c (fun t6 h3 => a_load 1 false t6 h3 (.c (fun t7 h4 => a_bin .eql t7 (.v (.int .i64 0)) h4 (.c (fun t8 h5 => Q .normal ([a0,a1,a2,a3,t4,t5,t6,t7,t8,a9,b0,b1,b2], h5)) ())) ())) ())) ())) ())) := by rw [awp_eq]; kernel_rfl
noncomputable def c49_2 : Code := cr c49_0
noncomputable def c49_3 : Code := cl c49_2
theorem w49_3 : awp X n c49_3 Q ([a0,a1,a2,a3,a4,a5,a6,a7,a8,a9,b0,b1,b2], h) = (a_mov a0 h (.c (fun t9 h1 => a_mov a1 h1 (.c (fun t10 h2 => a_nilc t9 h2 (.c (fun t11 h3 => a_fa 2 t11 h3 (.c (fun t12 h4 => a_store 1 t12 t10 h4 (.c (fun _v4 h5 => Q .normal ([a0,a1,a2,a3,a4,a5,a6,a7,a8,t9,t10,t11,t12], h5)) ())) ())) ())) ())) ())) := by rw [awp_eq]; kernel_rfl
noncomputable def c49_4 : Code := cr c49_2
theorem w49_4 : awp X n c49_4 Q st = Q .normal st := by rw [awp_eq]; kernel_rfl
theorem w49_2 : awp X n c49_2 Q ([a0,a1,a2,a3,a4,a5,a6,a7,a8,a9,b0,b1,b2], h) = a_cond a8 (awp X n c49_3 Q ([a0,a1,a2,a3,a4,a5,a6,a7,a8,a9,b0,b1,b2], h)) (awp X n c49_4 Q ([a0,a1,a2,a3,a4,a5,a6,a7,a8,a9,b0,b1,b2], h)) := by rw [awp_eq]; kernel_rfl
theorem w49_0 : awp X n c49_0 Q st = awp X n c49_1 (thenQ (awp X n c49_2 Q) Q) st := by rw [awp_eq]; kernel_rfl
theorem q49_ret : retQ X Tryd.f49 K .ret ([a0,a1,a2,a3,a4,a5,a6,a7,a8,a9,b0,b1,b2], h) = (K.K (.t []) h) := by kernel_rfl
theorem q49_normal : retQ X Tryd.f49 K .normal ([a0,a1,a2,a3,a4,a5,a6,a7,a8,a9,b0,b1,b2], h) = (K.K (.t []) h) := by kernel_rfl
theorem i49 (H : awp X h.length c49_0 (retQ X Tryd.f49 K) ([a0,a1,.bad,.bad,.bad,.bad,.bad,.bad,.bad,.bad,.bad,.bad,.bad], h)) : ACall X 49 [a0, a1] h K := acall_intro (fn := Tryd.f49) (by kernel_rfl) (by kernel_rfl) (by kernel_rfl) H
noncomputable def R49 := And.intro (And.intro (w49_1) (And.intro w49_3 w49_4)) (And.intro (And.intro w49_2 w49_0) (And.intro q49_ret q49_normal))
/-! function 50: (*sindri/sindriref01.C).Bytes -/
noncomputable def c50_0 : Code := bodyOf Tryd.f50
noncomputable def c50_1 : Code := cl c50_0
theorem w50_1 : awp X n c50_1 Q ([a0,a1,a2,a3,a4,a5,a6,a7,a8,a9,b0,b1,b2,b3,b4,b5,b6,b7,b8,b9,d0,d1,d2,d3,d4,d5,d6,d7,d8,d9,e0,e1,e2,e3,e4,e5,e6,e7,e8,e9,f0,f1,f2,f3,f4,f5,f6,f7,f8,f9,g0,g1,g2,g3,g4], h) = (a_mov (.v (.slice none 0 0)) h (.c (fun t4 h1 => Q .normal ([a0,a1,a2,a3,t4,a5,a6,a7,a8,a9,b0,b1,b2,b3,b4,b5,b6,b7,b8,b9,d0,d1,d2,d3,d4,d5,d6,d7,d8,d9,e0,e1,e2,e3,e4,e5,e6,e7,e8,e9,f0,f1,f2,f3,f4,f5,f6,f7,f8,f9,g0,g1,g2,g3,g4], h1)) ())) := by rw [awp_eq]; kernel_rfl
noncomputable def c50_2 : Code := cr c50_0
noncomputable def c50_3 : Code := cl c50_2
noncomputable def c50_4 : Code := cl c50_3
theorem w50_4 : awp X n c50_4 Q ([a0,a1,a2,a3,a4,a5,a6,a7,a8,a9,b0,b1,b2,b3,b4,b5,b6,b7,b8,b9,d0,d1,d2,d3,d4,d5,d6,d7,d8,d9,e0,e1,e2,e3,e4,e5,e6,e7,e8,e9,f0,f1,f2,f3,f4,f5,f6,f7,f8,f9,g0,g1,g2,g3,g4], h) = (a_mov a0 h (.c (fun t6 h1 => a_nilc t6 h1 (.c (fun t7 h2 => a_fa 2 t7 h2 (.c (fun t8 h3 => a_load 1 false t8 h3 (.c (fun t9 h4 => a_bin .eql t9 (.v (.int .i64 0)) h4 (.c (fun t10 h5 => a_mov t10 h5 (.c (fun t11 h6 => a_on t11 true (fun k => a_mov a1 h6 k) h6 (.c (fun t12 h7 => a_on t11 true (fun k => a_mov a0 h7 k) h7 (.c (fun t13 h8 => a_on t11 true (fun k => ACall X 30 [t13] h8 k) h8 (.c (fun t14 h9 => a_on t11 true (fun k => a_cint .u64 t14 h9 k) h9 (.c (fun t15 h10 => a_on t11 true (fun k => a_bin .gtr t12 t15 h10 k) h10 (.c (fun t16 h11 => a_pick t11 t16 (.v (.bool false)) h11 (.c (fun t17 h12 => Q .normal ([a0,a1,a2,a3,a4,a5,t6,t7,t8,t9,t10,t11,t12,t13,t14,t15,t16,t17,b8,b9,d0,d1,d2,d3,d4,d5,d6,d7,d8,d9,e0,e1,e2,e3,e4,e5,e6,e7,e8,e9,f0,f1,f2,f3,f4,f5,f6,f7,f8,f9,g0,g1,g2,g3,g4], h12)) ())) ())) ())) ())) ())) ())) ())) ())) ())) ())) ())) ())) := by rw [awp_eq]; kernel_rfl
noncomputable def c50_5 : Code := cr c50_3
noncomputable def c50_6 : Code := cl c50_5
theorem w50_6 : awp X n c50_6 Q ([a0,a1,a2,a3,a4,a5,a6,a7,a8,a9,b0,b1,b2,b3,b4,b5,b6,b7,b8,b9,d0,d1,d2,d3,d4,d5,d6,d7,d8,d9,e0,e1,e2,e3,e4,e5,e6,e7,e8,e9,f0,f1,f2,f3,f4,f5,f6,f7,f8,f9,g0,g1,g2,g3,g4], h) = (a_mov a0 h (.c (fun t18 h1 => a_nilc t18 h1 (.c (fun t19 h2 => a_fa 2 t19 h2 (.c (fun t20 h3 => a_store 1 t20 (.v (.int .i64 10)) h3 (.c (fun _v3 h4 => Q .normal ([a0,a1,a2,a3,a4,a5,a6,a7,a8,a9,b0,b1,b2,b3,b4,b5,b6,b7,t18,t19,t20,d1,d2,d3,d4,d5,d6,d7,d8,d9,e0,e1,e2,e3,e4,e5,e6,e7,e8,e9,f0,f1,f2,f3,f4,f5,f6,f7,f8,f9,g0,g1,g2,g3,g4], h4)) ())) ())) ())) ())) := by rw [awp_eq]; kernel_rfl
noncomputable def c50_7 : Code := cr c50_5
theorem w50_7 : awp X n c50_7 Q st = Q .normal st := by rw [awp_eq]; kernel_rfl
theorem w50_5 : awp X n c50_5 Q ([a0,a1,a2,a3,a4,a5,a6,a7,a8,a9,b0,b1,b2,b3,b4,b5,b6,b7,b8,b9,d0,d1,d2,d3,d4,d5,d6,d7,d8,d9,e0,e1,e2,e3,e4,e5,e6,e7,e8,e9,f0,f1,f2,f3,f4,f5,f6,f7,f8,f9,g0,g1,g2,g3,g4], h) = a_cond b7 (awp X n c50_6 Q ([a0,a1,a2,a3,a4,a5,a6,a7,a8,a9,b0,b1,b2,b3,b4,b5,b6,b7,b8,b9,d0,d1,d2,d3,d4,d5,d6,d7,d8,d9,e0,e1,e2,e3,e4,e5,e6,e7,e8,e9,f0,f1,f2,f3,f4,f5,f6,f7,f8,f9,g0,g1,g2,g3,g4], h)) (awp X n c50_7 Q ([a0,a1,a2,a3,a4,a5,a6,a7,a8,a9,b0,b1,b2,b3,b4,b5,b6,b7,b8,b9,d0,d1,d2,d3,d4,d5,d6,d7,d8,d9,e0,e1,e2,e3,e4,e5,e6,e7,e8,e9,f0,f1,f2,f3,f4,f5,f6,f7,f8,f9,g0,g1,g2,g3,g4], h)) := by rw [awp_eq]; kernel_rfl
theorem w50_3 : awp X n c50_3 Q st = awp X n c50_4 (thenQ (awp X n c50_5 Q) Q) st := by rw [awp_eq]; kernel_rfl
noncomputable def c50_8 : Code := cr c50_2
noncomputable def c50_9 : Code := cl c50_8
noncomputable def c50_10 : Code := cl c50_9
theorem w50_10 : awp X n c50_10 Q ([a0,a1,a2,a3,a4,a5,a6,a7,a8,a9,b0,b1,b2,b3,b4,b5,b6,b7,b8,b9,d0,d1,d2,d3,d4,d5,d6,d7,d8,d9,e0,e1,e2,e3,e4,e5,e6,e7,e8,e9,f0,f1,f2,f3,f4,f5,f6,f7,f8,f9,g0,g1,g2,g3,g4], h) = (a_mov a0 h (.c (fun t21 h1 => a_nilc t21 h1 (.c (fun t22 h2 => a_fa 2 t22 h2 (.c (fun t23 h3 => a_load 1 false t23 h3 (.c (fun t24 h4 => a_bin .neq t24 (.v (.int .i64 0)) h4 (.c (fun t25 h5 => Q .normal ([a0,a1,a2,a3,a4,a5,a6,a7,a8,a9,b0,b1,b2,b3,b4,b5,b6,b7,b8,b9,d0,t21,t22,t23,t24,t25,d6,d7,d8,d9,e0,e1,e2,e3,e4,e5,e6,e7,e8,e9,f0,f1,f2,f3,f4,f5,f6,f7,f8,f9,g0,g1,g2,g3,g4], h5)) ())) ())) ())) ())) ())) := by rw [awp_eq]; kernel_rfl
noncomputable def c50_11 : Code := cr c50_9
noncomputable def c50_12 : Code := cl c50_11
noncomputable def c50_13 : Code := cl c50_12
theorem w50_13 : awp X n c50_13 Q ([a0,a1,a2,a3,a4,a5,a6,a7,a8,a9,b0,b1,b2,b3,b4,b5,b6,b7,b8,b9,d0,d1,d2,d3,d4,d5,d6,d7,d8,d9,e0,e1,e2,e3,e4,e5,e6,e7,e8,e9,f0,f1,f2,f3,f4,f5,f6,f7,f8,f9,g0,g1,g2,g3,g4], h) = (a_mov (.v (.slice none 0 0)) h (.c (fun t4 h1 => Q .normal ([a0,a1,a2,a3,t4,a5,a6,a7,a8,a9,b0,b1,b2,b3,b4,b5,b6,b7,b8,b9,d0,d1,d2,d3,d4,d5,d6,d7,d8,d9,e0,e1,e2,e3,e4,e5,e6,e7,e8,e9,f0,f1,f2,f3,f4,f5,f6,f7,f8,f9,g0,g1,g2,g3,g4], h1)) ())) := by rw [awp_eq]; kernel_rfl
noncomputable def c50_14 : Code := cr c50_12
theorem w50_14 : awp X n c50_14 Q st = Q .ret st := by rw [awp_eq]; kernel_rfl
theorem w50_12 : awp X n c50_12 Q st = awp X n c50_13 (thenQ (awp X n c50_14 Q) Q) st := by rw [awp_eq]; kernel_rfl
noncomputable def c50_15 : Code := cr c50_11
theorem w50_15 : awp X n c50_15 Q st = Q .normal st := by rw [awp_eq]; kernel_rfl
theorem w50_11 : awp X n c50_11 Q ([a0,a1,a2,a3,a4,a5,a6,a7,a8,a9,b0,b1,b2,b3,b4,b5,b6,b7,b8,b9,d0,d1,d2,d3,d4,d5,d6,d7,d8,d9,e0,e1,e2,e3,e4,e5,e6,e7,e8,e9,f0,f1,f2,f3,f4,f5,f6,f7,f8,f9,g0,g1,g2,g3,g4], h) = a_cond d5 (awp X n c50_12 Q ([a0,a1,a2,a3,a4,a5,a6,a7,a8,a9,b0,b1,b2,b3,b4,b5,b6,b7,b8,b9,d0,d1,d2,d3,d4,d5,d6,d7,d8,d9,e0,e1,e2,e3,e4,e5,e6,e7,e8,e9,f0,f1,f2,f3,f4,f5,f6,f7,f8,f9,g0,g1,g2,g3,g4], h)) (awp X n c50_15 Q ([a0,a1,a2,a3,a4,a5,a6,a7,a8,a9,b0,b1,b2,b3,b4,b5,b6,b7,b8,b9,d0,d1,d2,d3,d4,d5,d6,d7,d8,d9,e0,e1,e2,e3,e4,e5,e6,e7,e8,e9,f0,f1,f2,f3,f4,f5,f6,f7,f8,f9,g0,g1,g2,g3,g4], h)) := by rw [awp_eq]; kernel_rfl
theorem w50_9 : awp X n c50_9 Q st = awp X n c50_10 (thenQ (awp X n c50_11 Q) Q) st := by rw [awp_eq]; kernel_rfl
noncomputable def c50_16 : Code := cr c50_8
noncomputable def c50_17 : Code := cl c50_16
theorem w50_17 : awp X n c50_17 Q ([a0,a1,a2,a3,a4,a5,a6,a7,a8,a9,b0,b1,b2,b3,b4,b5,b6,b7,b8,b9,d0,d1,d2,d3,d4,d5,d6,d7,d8,d9,e0,e1,e2,e3,e4,e5,e6,e7,e8,e9,f0,f1,f2,f3,f4,f5,f6,f7,f8,f9,g0,g1,g2,g3,g4], h) = (a_mov a0 h (.c (fun t27 h1 => a_nilc t27 h1 (.c (fun t28 h2 => a_fa 0 t28 h2 (.c (fun t29 h3 => a_load 1 false t29 h3 (.c (fun t30 h4 => a_mov a0 h4 (.c (fun t31 h5 => a_nilc t31 h5 (.c (fun t32 h6 => a_fa 1 t32 h6 (.c (fun t33 h7 => a_load 1 false t33 h7 (.c (fun t34 h8 => a_mov a0 h8 (.c (fun t35 h9 => a_nilc t35 h9 (.c (fun t36 h10 => a_fa 1 t36 h10 (.c (fun t37 h11 => a_load 1 false t37 h11 (.c (fun t38 h12 => a_mov a1 h12 (.c (fun t39 h13 => a_cint .i64 t39 h13 (.c (fun t40 h14 => a_bin .add t38 t40 h14 (.c (fun t41 h15 => a_slice 1 t30 (some t34) (some t41) none h15 (.c (fun t42 h16 => a_lit 1 0 [] [] h16 (.c (fun t26 h17 => conj [a_slice 1 t30 (some t34) (some t41) none h17 (.c (fun v_ _ => v_ = t42) ()), a_load 1 false t37 h17 (.c (fun v_ _ => v_ = t38) ()), a_load 1 false t33 h17 (.c (fun v_ _ => v_ = t34) ()), a_load 1 false t29 h17 (.c (fun v_ _ => v_ = t30) ())] ∧ (a_app 1 1 t26 t42 h17 (.c (fun t43 h18 => conj [] ∧ (a_mov t43 h18 (.c (fun t5 h19 => Q .normal ([a0,a1,a2,a3,a4,t5,a6,a7,a8,a9,b0,b1,b2,b3,b4,b5,b6,b7,b8,b9,d0,d1,d2,d3,d4,d5,t26,t27,t28,t29,t30,t31,t32,t33,t34,t35,t36,t37,t38,t39,t40,t41,t42,t43,f4,f5,f6,f7,f8,f9,g0,g1,g2,g3,g4], h19)) ()))) ()))) ())) ())) ())) ())) ())) ())) ())) ())) ())) ())) ())) ())) ())) ())) ())) ())) ())) := by rw [awp_eq]; kernel_rfl
noncomputable def c50_18 : Code := cr c50_16
noncomputable def c50_19 : Code := cl c50_18
theorem w50_19 : awp X n c50_19 Q ([a0,a1,a2,a3,a4,a5,a6,a7,a8,a9,b0,b1,b2,b3,b4,b5,b6,b7,b8,b9,d0,d1,d2,d3,d4,d5,d6,d7,d8,d9,e0,e1,e2,e3,e4,e5,e6,e7,e8,e9,f0,f1,f2,f3,f4,f5,f6,f7,f8,f9,g0,g1,g2,g3,g4], h) = (a_mov a0 h (.c (fun t44 h1 => a_mov a0 h1 (.c (fun t45 h2 => a_nilc t45 h2 (.c (fun t46 h3 => a_fa 1 t46 h3 (.c (fun t47 h4 => a_load 1 false t47 h4 (.c (fun t48 h5 => a_mov a1 h5 (.c (fun t49 h6 => a_cint .i64 t49 h6 (.c (fun t50 h7 => a_bin .add t48 t50 h7 (.c (fun t51 h8 => a_nilc t44 h8 (.c (fun t52 h9 => a_fa 1 t52 h9 (.c (fun t53 h10 => a_store 1 t53 t51 h10 (.c (fun _v10 h11 => Q .normal ([a0,a1,a2,a3,a4,a5,a6,a7,a8,a9,b0,b1,b2,b3,b4,b5,b6,b7,b8,b9,d0,d1,d2,d3,d4,d5,d6,d7,d8,d9,e0,e1,e2,e3,e4,e5,e6,e7,e8,e9,f0,f1,f2,f3,t44,t45,t46,t47,t48,t49,t50,t51,t52,t53,g4], h11)) ())) ())) ())) ())) ())) ())) ())) ())) ())) ())) ())) := by rw [awp_eq]; kernel_rfl
noncomputable def c50_20 : Code := cr c50_18
noncomputable def c50_21 : Code := cl c50_20
theorem w50_21 : awp X n c50_21 Q ([a0,a1,a2,a3,a4,a5,a6,a7,a8,a9,b0,b1,b2,b3,b4,b5,b6,b7,b8,b9,d0,d1,d2,d3,d4,d5,d6,d7,d8,d9,e0,e1,e2,e3,e4,e5,e6,e7,e8,e9,f0,f1,f2,f3,f4,f5,f6,f7,f8,f9,g0,g1,g2,g3,g4], h) = (a_mov a5 h (.c (fun t54 h1 => a_mov t54 h1 (.c (fun t4 h2 => Q .normal ([a0,a1,a2,a3,t4,a5,a6,a7,a8,a9,b0,b1,b2,b3,b4,b5,b6,b7,b8,b9,d0,d1,d2,d3,d4,d5,d6,d7,d8,d9,e0,e1,e2,e3,e4,e5,e6,e7,e8,e9,f0,f1,f2,f3,f4,f5,f6,f7,f8,f9,g0,g1,g2,g3,t54], h2)) ())) ())) := by rw [awp_eq]; kernel_rfl
noncomputable def c50_22 : Code := cr c50_20
theorem w50_22 : awp X n c50_22 Q st = Q .ret st := by rw [awp_eq]; kernel_rfl
theorem w50_20 : awp X n c50_20 Q st = awp X n c50_21 (thenQ (awp X n c50_22 Q) Q) st := by rw [awp_eq]; kernel_rfl
theorem w50_18 : awp X n c50_18 Q st = awp X n c50_19 (thenQ (awp X n c50_20 Q) Q) st := by rw [awp_eq]; kernel_rfl
theorem w50_16 : awp X n c50_16 Q st = awp X n c50_17 (thenQ (awp X n c50_18 Q) Q) st := by rw [awp_eq]; kernel_rfl
theorem w50_8 : awp X n c50_8 Q st = awp X n c50_9 (thenQ (awp X n c50_16 Q) Q) st := by rw [awp_eq]; kernel_rfl
theorem w50_2 : awp X n c50_2 Q st = awp X n c50_3 (thenQ (awp X n c50_8 Q) Q) st := by rw [awp_eq]; kernel_rfl
theorem w50_0 : awp X n c50_0 Q st = awp X n c50_1 (thenQ (awp X n c50_2 Q) Q) st := by rw [awp_eq]; kernel_rfl
theorem q50_ret : retQ X Tryd.f50 K .ret ([a0,a1,a2,a3,a4,a5,a6,a7,a8,a9,b0,b1,b2,b3,b4,b5,b6,b7,b8,b9,d0,d1,d2,d3,d4,d5,d6,d7,d8,d9,e0,e1,e2,e3,e4,e5,e6,e7,e8,e9,f0,f1,f2,f3,f4,f5,f6,f7,f8,f9,g0,g1,g2,g3,g4], h) = (K.K a4 h) := by kernel_rfl
theorem q50_normal : retQ X Tryd.f50 K .normal ([a0,a1,a2,a3,a4,a5,a6,a7,a8,a9,b0,b1,b2,b3,b4,b5,b6,b7,b8,b9,d0,d1,d2,d3,d4,d5,d6,d7,d8,d9,e0,e1,e2,e3,e4,e5,e6,e7,e8,e9,f0,f1,f2,f3,f4,f5,f6,f7,f8,f9,g0,g1,g2,g3,g4], h) = (K.K a4 h) := by kernel_rfl
theorem i50 (H : awp X h.length c50_0 (retQ X Tryd.f50 K) ([a0,a1,.bad,.bad,.bad,.bad,.bad,.bad,.bad,.bad,.bad,.bad,.bad,.bad,.bad,.bad,.bad,.bad,.bad,.bad,.bad,.bad,.bad,.bad,.bad,.bad,.bad,.bad,.bad,.bad,.bad,.bad,.bad,.bad,.bad,.bad,.bad,.bad,.bad,.bad,.bad,.bad,.bad,.bad,.bad,.bad,.bad,.bad,.bad,.bad,.bad,.bad,.bad,.bad,.bad], h)) : ACall X 50 [a0, a1] h K := acall_intro (fn := Tryd.f50) (by kernel_rfl) (by kernel_rfl) (by kernel_rfl) H
noncomputable def R50 := And.intro (And.intro (And.intro (And.intro (w50_1) (And.intro w50_4 w50_6)) (And.intro (w50_7) (And.intro w50_5 w50_3))) (And.intro (And.intro (w50_10) (And.intro w50_13 w50_14)) (And.intro (w50_12) (And.intro w50_15 w50_11)))) (And.intro (And.intro (And.intro (w50_9) (And.intro w50_17 w50_19)) (And.intro (w50_21) (And.intro w50_22 w50_20))) (And.intro (And.intro (w50_18) (And.intro w50_16 w50_8)) (And.intro (And.intro w50_2 w50_0) (And.intro q50_ret q50_normal))))
/-! function 23: sindri/sindriref01.Put -/
noncomputable def c23_0 : Code := bodyOf Tryd.f23
noncomputable def c23_1 : Code := cl c23_0
theorem w23_1 : awp X n c23_1 Q ([a0,a1,a2,a3,a4,a5,a6,a7,a8,a9,b0,b1,b2,b3,b4,b5,b6,b7,b8,b9,d0,d1], h) = (a_mov (.v (.slice none 0 0)) h (.c (fun t4 h1 => Q .normal ([a0,a1,a2,a3,t4,a5,a6,a7,a8,a9,b0,b1,b2,b3,b4,b5,b6,b7,b8,b9,d0,d1], h1)) ())) := by rw [awp_eq]; kernel_rfl
noncomputable def c23_2 : Code := cr c23_0
noncomputable def c23_3 : Code := cl c23_2
theorem w23_3 : awp X n c23_3 Q ([a0,a1,a2,a3,a4,a5,a6,a7,a8,a9,b0,b1,b2,b3,b4,b5,b6,b7,b8,b9,d0,d1], h) = (a_mov (.v (.slice none 0 0)) h (.c (fun t5 h1 => Q .normal ([a0,a1,a2,a3,a4,t5,a6,a7,a8,a9,b0,b1,b2,b3,b4,b5,b6,b7,b8,b9,d0,d1], h1)) ())) := by rw [awp_eq]; kernel_rfl
noncomputable def c23_4 : Code := cr c23_2
noncomputable def c23_5 : Code := cl c23_4
noncomputable def c23_6 : Code := cl c23_5
theorem w23_6 : awp X n c23_6 Q ([a0,a1,a2,a3,a4,a5,a6,a7,a8,a9,b0,b1,b2,b3,b4,b5,b6,b7,b8,b9,d0,d1], h) = (a_mov (.v (.int .i64 0)) h (.c (fun t6 h1 => Q .normal ([a0,a1,a2,a3,a4,a5,t6,a7,a8,a9,b0,b1,b2,b3,b4,b5,b6,b7,b8,b9,d0,d1], h1)) ())) := by rw [awp_eq]; kernel_rfl
noncomputable def c23_7 : Code := cr c23_5
noncomputable def c23_8 : Code := cl c23_7
noncomputable def c23_9 : Code := cl c23_8
noncomputable def c23_10 : Code := cl c23_9
noncomputable def c23_11 : Code := cl c23_10
theorem w23_11 : awp X n c23_11 Q ([a0,a1,a2,a3,a4,a5,a6,a7,a8,a9,b0,b1,b2,b3,b4,b5,b6,b7,b8,b9,d0,d1], h) = (a_mov a6 h (.c (fun t7 h1 => a_mov a1 h1 (.c (fun t8 h2 => ACall X 40 [t8] h2 (.c (fun t9 h3 => a_bin .lss t7 t9 h3 (.c (fun t10 h4 => Q .normal ([a0,a1,a2,a3,a4,a5,a6,t7,t8,t9,t10,b1,b2,b3,b4,b5,b6,b7,b8,b9,d0,d1], h4)) ())) ())) ())) ())) := by rw [awp_eq]; kernel_rfl
noncomputable def c23_12 : Code := cr c23_10
noncomputable def c23_13 : Code := cl c23_12
theorem w23_13 : awp X n c23_13 Q st = Q .normal st := by rw [awp_eq]; kernel_rfl
noncomputable def c23_14 : Code := cr c23_12
theorem w23_14 : awp X n c23_14 Q st = Q (.exit 0) st := by rw [awp_eq]; kernel_rfl
theorem w23_12 : awp X n c23_12 Q ([a0,a1,a2,a3,a4,a5,a6,a7,a8,a9,b0,b1,b2,b3,b4,b5,b6,b7,b8,b9,d0,d1], h) = a_cond b0 (awp X n c23_13 Q ([a0,a1,a2,a3,a4,a5,a6,a7,a8,a9,b0,b1,b2,b3,b4,b5,b6,b7,b8,b9,d0,d1], h)) (awp X n c23_14 Q ([a0,a1,a2,a3,a4,a5,a6,a7,a8,a9,b0,b1,b2,b3,b4,b5,b6,b7,b8,b9,d0,d1], h)) := by rw [awp_eq]; kernel_rfl
theorem w23_10 : awp X n c23_10 Q st = awp X n c23_11 (thenQ (awp X n c23_12 Q) Q) st := by rw [awp_eq]; kernel_rfl
noncomputable def c23_15 : Code := cr c23_9
noncomputable def c23_16 : Code := cl c23_15
noncomputable def c23_17 : Code := cl c23_16
noncomputable def c23_18 : Code := cl c23_17
theorem w23_18 : awp X n c23_18 Q ([a0,a1,a2,a3,a4,a5,a6,a7,a8,a9,b0,b1,b2,b3,b4,b5,b6,b7,b8,b9,d0,d1], h) = (a_mov a5 h (.c (fun t13 h1 => a_mov a0 h1 (.c (fun t14 h2 => a_bin .rem t14 (.v (.int .u64 256)) h2 (.c (fun t15 h3 => a_cint .u8 t15 h3 (.c (fun t16 h4 => a_lit 1 1 [.v (.int .u8 0)] [(0, 1, t16)] h4 (.c (fun t17 h5 => a_app 1 1 t13 t17 h5 (.c (fun t18 h6 => a_mov t18 h6 (.c (fun t5 h7 => Q .normal ([a0,a1,a2,a3,a4,t5,a6,a7,a8,a9,b0,b1,b2,t13,t14,t15,t16,t17,t18,b9,d0,d1], h7)) ())) ())) ())) ())) ())) ())) ())) := by rw [awp_eq]; kernel_rfl
noncomputable def c23_19 : Code := cr c23_17
theorem w23_19 : awp X n c23_19 Q ([a0,a1,a2,a3,a4,a5,a6,a7,a8,a9,b0,b1,b2,b3,b4,b5,b6,b7,b8,b9,d0,d1], h) = (a_mov a0 h (.c (fun t19 h1 => a_bin .quo t19 (.v (.int .u64 256)) h1 (.c (fun t20 h2 => a_mov t20 h2 (.c (fun t0 h3 => Q .normal ([t0,a1,a2,a3,a4,a5,a6,a7,a8,a9,b0,b1,b2,b3,b4,b5,b6,b7,b8,t19,t20,d1], h3)) ())) ())) ())) := by rw [awp_eq]; kernel_rfl
theorem w23_17 : awp X n c23_17 Q st = awp X n c23_18 (thenQ (awp X n c23_19 Q) Q) st := by rw [awp_eq]; kernel_rfl
theorem w23_16 : awp X n c23_16 Q st = awp X n c23_17 (blockQ 1 Q) st := by rw [awp_eq]; kernel_rfl
noncomputable def c23_20 : Code := cr c23_15
theorem w23_20 : awp X n c23_20 Q ([a0,a1,a2,a3,a4,a5,a6,a7,a8,a9,b0,b1,b2,b3,b4,b5,b6,b7,b8,b9,d0,d1], h) = (a_mov a6 h (.c (fun t11 h1 => a_bin .add t11 (.v (.int .i64 1)) h1 (.c (fun t12 h2 => a_mov t12 h2 (.c (fun t6 h3 => Q .normal ([a0,a1,a2,a3,a4,a5,t6,a7,a8,a9,b0,t11,t12,b3,b4,b5,b6,b7,b8,b9,d0,d1], h3)) ())) ())) ())) := by rw [awp_eq]; kernel_rfl
theorem w23_15 : awp X n c23_15 Q st = awp X n c23_16 (thenQ (awp X n c23_20 Q) Q) st := by rw [awp_eq]; kernel_rfl
theorem w23_9 : awp X n c23_9 Q st = awp X n c23_10 (thenQ (awp X n c23_15 Q) Q) st := by rw [awp_eq]; kernel_rfl
theorem w23_8 : awp X n c23_8 Q st = ALoop X n c23_9 Q st := by rw [awp_eq]; kernel_rfl
theorem w23_7 : awp X n c23_7 Q st = awp X n c23_8 (blockQ 0 Q) st := by rw [awp_eq]; kernel_rfl
theorem w23_5 : awp X n c23_5 Q st = awp X n c23_6 (thenQ (awp X n c23_7 Q) Q) st := by rw [awp_eq]; kernel_rfl
noncomputable def c23_21 : Code := cr c23_4
noncomputable def c23_22 : Code := cl c23_21
theorem w23_22 : awp X n c23_22 Q ([a0,a1,a2,a3,a4,a5,a6,a7,a8,a9,b0,b1,b2,b3,b4,b5,b6,b7,b8,b9,d0,d1], h) = (a_mov a5 h (.c (fun t21 h1 => a_mov t21 h1 (.c (fun t4 h2 => Q .normal ([a0,a1,a2,a3,t4,a5,a6,a7,a8,a9,b0,b1,b2,b3,b4,b5,b6,b7,b8,b9,d0,t21], h2)) ())) ())) := by rw [awp_eq]; kernel_rfl
noncomputable def c23_23 : Code := cr c23_21
theorem w23_23 : awp X n c23_23 Q st = Q .ret st := by rw [awp_eq]; kernel_rfl
theorem w23_21 : awp X n c23_21 Q st = awp X n c23_22 (thenQ (awp X n c23_23 Q) Q) st := by rw [awp_eq]; kernel_rfl
theorem w23_4 : awp X n c23_4 Q st = awp X n c23_5 (thenQ (awp X n c23_21 Q) Q) st := by rw [awp_eq]; kernel_rfl
theorem w23_2 : awp X n c23_2 Q st = awp X n c23_3 (thenQ (awp X n c23_4 Q) Q) st := by rw [awp_eq]; kernel_rfl
theorem w23_0 : awp X n c23_0 Q st = awp X n c23_1 (thenQ (awp X n c23_2 Q) Q) st := by rw [awp_eq]; kernel_rfl
theorem q23_ret : retQ X Tryd.f23 K .ret ([a0,a1,a2,a3,a4,a5,a6,a7,a8,a9,b0,b1,b2,b3,b4,b5,b6,b7,b8,b9,d0,d1], h) = (K.K a4 h) := by kernel_rfl
theorem q23_normal : retQ X Tryd.f23 K .normal ([a0,a1,a2,a3,a4,a5,a6,a7,a8,a9,b0,b1,b2,b3,b4,b5,b6,b7,b8,b9,d0,d1], h) = (K.K a4 h) := by kernel_rfl
theorem i23 (H : awp X h.length c23_0 (retQ X Tryd.f23 K) ([a0,a1,.bad,.bad,.bad,.bad,.bad,.bad,.bad,.bad,.bad,.bad,.bad,.bad,.bad,.bad,.bad,.bad,.bad,.bad,.bad,.bad], h)) : ACall X 23 [a0, a1] h K := acall_intro (fn := Tryd.f23) (by kernel_rfl) (by kernel_rfl) (by kernel_rfl) H
noncomputable def R23 := And.intro (And.intro (And.intro (And.intro (w23_1) (And.intro w23_3 w23_6)) (And.intro (w23_11) (And.intro w23_13 w23_14))) (And.intro (And.intro (w23_12) (And.intro w23_10 w23_18)) (And.intro (And.intro w23_19 w23_17) (And.intro w23_16 w23_20)))) (And.intro (And.intro (And.intro (w23_15) (And.intro w23_9 w23_8)) (And.intro (w23_7) (And.intro w23_5 w23_22))) (And.intro (And.intro (w23_23) (And.intro w23_21 w23_4)) (And.intro (And.intro w23_2 w23_0) (And.intro q23_ret q23_normal))))
end Go.Proofs.YtlngajfpplebmaaDoor
