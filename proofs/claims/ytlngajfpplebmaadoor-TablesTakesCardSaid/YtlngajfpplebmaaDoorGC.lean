import Derived.Test.YtlngajfpplebmaaDoorEnv
set_option linter.unusedVariables false
set_option linter.defProp false
set_option maxRecDepth 100000
namespace Go.Proofs.YtlngajfpplebmaaDoor
open Go.Ab
variable (n : Nat) (h : Heap) (Q : Qt) (st : St) (K : Kt) (a0 a1 a2 a3 a4 a5 a6 a7 a8 a9 b0 b1 b2 b3 b4 b5 b6 b7 b8 b9 d0 d1 d2 d3 d4 d5 d6 d7 d8 d9 e0 e1 e2 e3 e4 e5 e6 e7 e8 e9 f0 f1 f2 f3 f4 f5 f6 f7 f8 f9 g0 g1 g2 g3 g4 g5 g6 g7 g8 g9 j0 j1 j2 j3 j4 j5 j6 j7 j8 j9 k0 k1 k2 k3 k4 k5 k6 k7 k8 k9 l0 l1 l2 l3 l4 l5 l6 l7 : AV)
/-! function 7: sindri/tables.PutStrs -/
noncomputable def c7_0 : Code := bodyOf Tryd.f7
noncomputable def c7_1 : Code := cl c7_0
theorem w7_1 : awp X n c7_1 Q ([a0,a1,a2,a3,a4,a5,a6,a7,a8,a9,b0,b1,b2,b3], h) = (a_mov (.v (.slice none 0 0)) h (.c (fun t4 h1 => a_mov (.v (.int .i64 0)) h1 (.c (fun t5 h2 => Q .normal ([a0,a1,a2,a3,t4,t5,a6,a7,a8,a9,b0,b1,b2,b3], h2)) ())) ())) := by rw [awp_eq]; kernel_rfl
noncomputable def c7_2 : Code := cr c7_0
noncomputable def c7_3 : Code := cl c7_2
theorem w7_3 : awp X n c7_3 Q ([a0,a1,a2,a3,a4,a5,a6,a7,a8,a9,b0,b1,b2,b3], h) = (a_mov a0 h (.c (fun t6 h1 => a_lit 1 4 [.v (.int .u8 0), .v (.int .u8 0), .v (.int .u8 0), .v (.int .u8 0)] [(0, 1, (.v (.int .u8 5))), (1, 1, (.v (.int .u8 0))), (2, 1, (.v (.int .u8 0))), (3, 1, (.v (.int .u8 0)))] h1 (.c (fun t7 h2 => a_mov a1 h2 (.c (fun t8 h3 => a_mov a0 h3 (.c (fun t9 h4 => ACall X 21 [t9] h4 (.c (fun t10 h5 => ACall X 20 [t6, t7, t8, t10] h5 (.c (fun t11 h6 => a_ext 0 t11 h6 (.c (fun t12 h7 => a_ext 1 t11 h7 (.c (fun t13 h8 => a_mov t12 h8 (.c (fun t4 h9 => a_mov t13 h9 (.c (fun t5 h10 => Q .normal ([a0,a1,a2,a3,t4,t5,t6,t7,t8,t9,t10,t11,t12,t13], h10)) ())) ())) ())) ())) ())) ())) ())) ())) ())) ())) := by rw [awp_eq]; kernel_rfl
noncomputable def c7_4 : Code := cr c7_2
theorem w7_4 : awp X n c7_4 Q st = Q .ret st := by rw [awp_eq]; kernel_rfl
theorem w7_2 : awp X n c7_2 Q st = awp X n c7_3 (thenQ (awp X n c7_4 Q) Q) st := by rw [awp_eq]; kernel_rfl
theorem w7_0 : awp X n c7_0 Q st = awp X n c7_1 (thenQ (awp X n c7_2 Q) Q) st := by rw [awp_eq]; kernel_rfl
theorem q7_ret : retQ X Tryd.f7 K .ret ([a0,a1,a2,a3,a4,a5,a6,a7,a8,a9,b0,b1,b2,b3], h) = (K.K (.t [a4, a5]) h) := by kernel_rfl
theorem q7_normal : retQ X Tryd.f7 K .normal ([a0,a1,a2,a3,a4,a5,a6,a7,a8,a9,b0,b1,b2,b3], h) = (K.K (.t [a4, a5]) h) := by kernel_rfl
theorem i7 (H : awp X h.length c7_0 (retQ X Tryd.f7 K) ([a0,a1,.bad,.bad,.bad,.bad,.bad,.bad,.bad,.bad,.bad,.bad,.bad,.bad], h)) : ACall X 7 [a0, a1] h K := acall_intro (fn := Tryd.f7) (by kernel_rfl) (by kernel_rfl) (by kernel_rfl) H
noncomputable def R7 := And.intro (And.intro (w7_1) (And.intro w7_3 w7_4)) (And.intro (And.intro w7_2 w7_0) (And.intro q7_ret q7_normal))
/-! function 8: sindri/sindriref16.Put -/
noncomputable def c8_0 : Code := bodyOf Tryd.f8
noncomputable def c8_1 : Code := cl c8_0
theorem w8_1 : awp X n c8_1 Q ([a0,a1,a2,a3,a4,a5,a6,a7,a8,a9,b0,b1,b2,b3,b4,b5,b6,b7,b8,b9,d0,d1,d2,d3,d4,d5,d6,d7,d8,d9,e0,e1,e2,e3,e4,e5,e6,e7,e8,e9,f0,f1,f2,f3,f4,f5,f6,f7,f8,f9,g0,g1,g2,g3], h) = (a_mov (.v (.slice none 0 0)) h (.c (fun t6 h1 => a_mov (.v (.int .i64 0)) h1 (.c (fun t7 h2 => Q .normal ([a0,a1,a2,a3,a4,a5,t6,t7,a8,a9,b0,b1,b2,b3,b4,b5,b6,b7,b8,b9,d0,d1,d2,d3,d4,d5,d6,d7,d8,d9,e0,e1,e2,e3,e4,e5,e6,e7,e8,e9,f0,f1,f2,f3,f4,f5,f6,f7,f8,f9,g0,g1,g2,g3], h2)) ())) ())) := by rw [awp_eq]; kernel_rfl
noncomputable def c8_2 : Code := cr c8_0
noncomputable def c8_3 : Code := cl c8_2
theorem w8_3 : awp X n c8_3 Q ([a0,a1,a2,a3,a4,a5,a6,a7,a8,a9,b0,b1,b2,b3,b4,b5,b6,b7,b8,b9,d0,d1,d2,d3,d4,d5,d6,d7,d8,d9,e0,e1,e2,e3,e4,e5,e6,e7,e8,e9,f0,f1,f2,f3,f4,f5,f6,f7,f8,f9,g0,g1,g2,g3], h) = (a_lit 1 4 [.v (.int .u8 0), .v (.int .u8 0), .v (.int .u8 0), .v (.int .u8 0)] [(0, 1, (.v (.int .u8 5))), (1, 1, (.v (.int .u8 0))), (2, 1, (.v (.int .u8 0))), (3, 1, (.v (.int .u8 0)))] h (.c (fun t13 h1 => a_mov t13 h1 (.c (fun t8 h2 => Q .normal ([a0,a1,a2,a3,a4,a5,a6,a7,t8,a9,b0,b1,b2,t13,b4,b5,b6,b7,b8,b9,d0,d1,d2,d3,d4,d5,d6,d7,d8,d9,e0,e1,e2,e3,e4,e5,e6,e7,e8,e9,f0,f1,f2,f3,f4,f5,f6,f7,f8,f9,g0,g1,g2,g3], h2)) ())) ())) := by rw [awp_eq]; kernel_rfl
noncomputable def c8_4 : Code := cr c8_2
noncomputable def c8_5 : Code := cl c8_4
theorem w8_5 : awp X n c8_5 Q ([a0,a1,a2,a3,a4,a5,a6,a7,a8,a9,b0,b1,b2,b3,b4,b5,b6,b7,b8,b9,d0,d1,d2,d3,d4,d5,d6,d7,d8,d9,e0,e1,e2,e3,e4,e5,e6,e7,e8,e9,f0,f1,f2,f3,f4,f5,f6,f7,f8,f9,g0,g1,g2,g3], h) = (a_mov a0 h (.c (fun t14 h1 => ACall X 22 [t14] h1 (.c (fun t15 h2 => a_mov t15 h2 (.c (fun t9 h3 => Q .normal ([a0,a1,a2,a3,a4,a5,a6,a7,a8,t9,b0,b1,b2,b3,t14,t15,b6,b7,b8,b9,d0,d1,d2,d3,d4,d5,d6,d7,d8,d9,e0,e1,e2,e3,e4,e5,e6,e7,e8,e9,f0,f1,f2,f3,f4,f5,f6,f7,f8,f9,g0,g1,g2,g3], h3)) ())) ())) ())) := by rw [awp_eq]; kernel_rfl
noncomputable def c8_6 : Code := cr c8_4
noncomputable def c8_7 : Code := cl c8_6
noncomputable def c8_8 : Code := cl c8_7
theorem w8_8 : awp X n c8_8 Q ([a0,a1,a2,a3,a4,a5,a6,a7,a8,a9,b0,b1,b2,b3,b4,b5,b6,b7,b8,b9,d0,d1,d2,d3,d4,d5,d6,d7,d8,d9,e0,e1,e2,e3,e4,e5,e6,e7,e8,e9,f0,f1,f2,f3,f4,f5,f6,f7,f8,f9,g0,g1,g2,g3], h) = (a_mov a2 h (.c (fun t16 h1 => Q .normal ([a0,a1,a2,a3,a4,a5,a6,a7,a8,a9,b0,b1,b2,b3,b4,b5,t16,b7,b8,b9,d0,d1,d2,d3,d4,d5,d6,d7,d8,d9,e0,e1,e2,e3,e4,e5,e6,e7,e8,e9,f0,f1,f2,f3,f4,f5,f6,f7,f8,f9,g0,g1,g2,g3], h1)) ())) := by rw [awp_eq]; kernel_rfl
noncomputable def c8_9 : Code := cr c8_7
noncomputable def c8_10 : Code := cl c8_9
noncomputable def c8_11 : Code := cl c8_10
theorem w8_11 : awp X n c8_11 Q ([a0,a1,a2,a3,a4,a5,a6,a7,a8,a9,b0,b1,b2,b3,b4,b5,b6,b7,b8,b9,d0,d1,d2,d3,d4,d5,d6,d7,d8,d9,e0,e1,e2,e3,e4,e5,e6,e7,e8,e9,f0,f1,f2,f3,f4,f5,f6,f7,f8,f9,g0,g1,g2,g3], h) = (a_mov a8 h (.c (fun t17 h1 => a_ia 1 t17 (.v (.int .i64 2)) h1 (.c (fun t18 h2 => a_store 1 t18 (.v (.int .u8 8)) h2 (.c (fun _v2 h3 => Q .normal ([a0,a1,a2,a3,a4,a5,a6,a7,a8,a9,b0,b1,b2,b3,b4,b5,b6,t17,t18,b9,d0,d1,d2,d3,d4,d5,d6,d7,d8,d9,e0,e1,e2,e3,e4,e5,e6,e7,e8,e9,f0,f1,f2,f3,f4,f5,f6,f7,f8,f9,g0,g1,g2,g3], h3)) ())) ())) ())) := by rw [awp_eq]; kernel_rfl
noncomputable def c8_12 : Code := cr c8_10
theorem w8_12 : awp X n c8_12 Q ([a0,a1,a2,a3,a4,a5,a6,a7,a8,a9,b0,b1,b2,b3,b4,b5,b6,b7,b8,b9,d0,d1,d2,d3,d4,d5,d6,d7,d8,d9,e0,e1,e2,e3,e4,e5,e6,e7,e8,e9,f0,f1,f2,f3,f4,f5,f6,f7,f8,f9,g0,g1,g2,g3], h) = (a_mov (.v (.int .i64 8)) h (.c (fun t9 h1 => Q .normal ([a0,a1,a2,a3,a4,a5,a6,a7,a8,t9,b0,b1,b2,b3,b4,b5,b6,b7,b8,b9,d0,d1,d2,d3,d4,d5,d6,d7,d8,d9,e0,e1,e2,e3,e4,e5,e6,e7,e8,e9,f0,f1,f2,f3,f4,f5,f6,f7,f8,f9,g0,g1,g2,g3], h1)) ())) := by rw [awp_eq]; kernel_rfl
theorem w8_10 : awp X n c8_10 Q st = awp X n c8_11 (thenQ (awp X n c8_12 Q) Q) st := by rw [awp_eq]; kernel_rfl
noncomputable def c8_13 : Code := cr c8_9
theorem w8_13 : awp X n c8_13 Q st = Q .normal st := by rw [awp_eq]; kernel_rfl
theorem w8_9 : awp X n c8_9 Q ([a0,a1,a2,a3,a4,a5,a6,a7,a8,a9,b0,b1,b2,b3,b4,b5,b6,b7,b8,b9,d0,d1,d2,d3,d4,d5,d6,d7,d8,d9,e0,e1,e2,e3,e4,e5,e6,e7,e8,e9,f0,f1,f2,f3,f4,f5,f6,f7,f8,f9,g0,g1,g2,g3], h) = a_cond b6 (awp X n c8_10 Q ([a0,a1,a2,a3,a4,a5,a6,a7,a8,a9,b0,b1,b2,b3,b4,b5,b6,b7,b8,b9,d0,d1,d2,d3,d4,d5,d6,d7,d8,d9,e0,e1,e2,e3,e4,e5,e6,e7,e8,e9,f0,f1,f2,f3,f4,f5,f6,f7,f8,f9,g0,g1,g2,g3], h)) (awp X n c8_13 Q ([a0,a1,a2,a3,a4,a5,a6,a7,a8,a9,b0,b1,b2,b3,b4,b5,b6,b7,b8,b9,d0,d1,d2,d3,d4,d5,d6,d7,d8,d9,e0,e1,e2,e3,e4,e5,e6,e7,e8,e9,f0,f1,f2,f3,f4,f5,f6,f7,f8,f9,g0,g1,g2,g3], h)) := by rw [awp_eq]; kernel_rfl
theorem w8_7 : awp X n c8_7 Q st = awp X n c8_8 (thenQ (awp X n c8_9 Q) Q) st := by rw [awp_eq]; kernel_rfl
noncomputable def c8_14 : Code := cr c8_6
noncomputable def c8_15 : Code := cl c8_14
noncomputable def c8_16 : Code := cl c8_15
theorem w8_16 : awp X n c8_16 Q ([a0,a1,a2,a3,a4,a5,a6,a7,a8,a9,b0,b1,b2,b3,b4,b5,b6,b7,b8,b9,d0,d1,d2,d3,d4,d5,d6,d7,d8,d9,e0,e1,e2,e3,e4,e5,e6,e7,e8,e9,f0,f1,f2,f3,f4,f5,f6,f7,f8,f9,g0,g1,g2,g3], h) = (a_mov (.v (.int .i64 0)) h (.c (fun t10 h1 => Q .normal ([a0,a1,a2,a3,a4,a5,a6,a7,a8,a9,t10,b1,b2,b3,b4,b5,b6,b7,b8,b9,d0,d1,d2,d3,d4,d5,d6,d7,d8,d9,e0,e1,e2,e3,e4,e5,e6,e7,e8,e9,f0,f1,f2,f3,f4,f5,f6,f7,f8,f9,g0,g1,g2,g3], h1)) ())) := by rw [awp_eq]; kernel_rfl
noncomputable def c8_17 : Code := cr c8_15
noncomputable def c8_18 : Code := cl c8_17
noncomputable def c8_19 : Code := cl c8_18
noncomputable def c8_20 : Code := cl c8_19
noncomputable def c8_21 : Code := cl c8_20
theorem w8_21 : awp X n c8_21 Q ([a0,a1,a2,a3,a4,a5,a6,a7,a8,a9,b0,b1,b2,b3,b4,b5,b6,b7,b8,b9,d0,d1,d2,d3,d4,d5,d6,d7,d8,d9,e0,e1,e2,e3,e4,e5,e6,e7,e8,e9,f0,f1,f2,f3,f4,f5,f6,f7,f8,f9,g0,g1,g2,g3], h) = (a_mov b0 h (.c (fun t19 h1 => a_mov a1 h1 (.c (fun t20 h2 => a_len t20 h2 (.c (fun t21 h3 => a_bin .lss t19 t21 h3 (.c (fun t22 h4 => Q .normal ([a0,a1,a2,a3,a4,a5,a6,a7,a8,a9,b0,b1,b2,b3,b4,b5,b6,b7,b8,t19,t20,t21,t22,d3,d4,d5,d6,d7,d8,d9,e0,e1,e2,e3,e4,e5,e6,e7,e8,e9,f0,f1,f2,f3,f4,f5,f6,f7,f8,f9,g0,g1,g2,g3], h4)) ())) ())) ())) ())) := by rw [awp_eq]; kernel_rfl
noncomputable def c8_22 : Code := cr c8_20
noncomputable def c8_23 : Code := cl c8_22
theorem w8_23 : awp X n c8_23 Q st = Q .normal st := by rw [awp_eq]; kernel_rfl
noncomputable def c8_24 : Code := cr c8_22
theorem w8_24 : awp X n c8_24 Q st = Q (.exit 0) st := by rw [awp_eq]; kernel_rfl
theorem w8_22 : awp X n c8_22 Q ([a0,a1,a2,a3,a4,a5,a6,a7,a8,a9,b0,b1,b2,b3,b4,b5,b6,b7,b8,b9,d0,d1,d2,d3,d4,d5,d6,d7,d8,d9,e0,e1,e2,e3,e4,e5,e6,e7,e8,e9,f0,f1,f2,f3,f4,f5,f6,f7,f8,f9,g0,g1,g2,g3], h) = a_cond d2 (awp X n c8_23 Q ([a0,a1,a2,a3,a4,a5,a6,a7,a8,a9,b0,b1,b2,b3,b4,b5,b6,b7,b8,b9,d0,d1,d2,d3,d4,d5,d6,d7,d8,d9,e0,e1,e2,e3,e4,e5,e6,e7,e8,e9,f0,f1,f2,f3,f4,f5,f6,f7,f8,f9,g0,g1,g2,g3], h)) (awp X n c8_24 Q ([a0,a1,a2,a3,a4,a5,a6,a7,a8,a9,b0,b1,b2,b3,b4,b5,b6,b7,b8,b9,d0,d1,d2,d3,d4,d5,d6,d7,d8,d9,e0,e1,e2,e3,e4,e5,e6,e7,e8,e9,f0,f1,f2,f3,f4,f5,f6,f7,f8,f9,g0,g1,g2,g3], h)) := by rw [awp_eq]; kernel_rfl
theorem w8_20 : awp X n c8_20 Q st = awp X n c8_21 (thenQ (awp X n c8_22 Q) Q) st := by rw [awp_eq]; kernel_rfl
noncomputable def c8_25 : Code := cr c8_19
noncomputable def c8_26 : Code := cl c8_25
noncomputable def c8_27 : Code := cl c8_26
noncomputable def c8_28 : Code := cl c8_27
noncomputable def c8_29 : Code := cl c8_28
theorem w8_29 : awp X n c8_29 Q ([a0,a1,a2,a3,a4,a5,a6,a7,a8,a9,b0,b1,b2,b3,b4,b5,b6,b7,b8,b9,d0,d1,d2,d3,d4,d5,d6,d7,d8,d9,e0,e1,e2,e3,e4,e5,e6,e7,e8,e9,f0,f1,f2,f3,f4,f5,f6,f7,f8,f9,g0,g1,g2,g3], h) = (a_mov a9 h (.c (fun t25 h1 => a_bin .eql t25 (.v (.int .i64 4)) h1 (.c (fun t26 h2 => a_mov t26 h2 (.c (fun t27 h3 => a_on t27 true (fun k => a_mov a1 h3 k) h3 (.c (fun t28 h4 => a_on t27 true (fun k => a_mov b0 h4 k) h4 (.c (fun t29 h5 => a_on t27 true (fun k => a_ia 1 t28 t29 h5 k) h5 (.c (fun t30 h6 => a_on t27 true (fun k => a_load 1 false t30 h6 k) h6 (.c (fun t31 h7 => a_on t27 true (fun k => a_bin .gtr t31 (.v (.int .u64 4294967295)) h7 k) h7 (.c (fun t32 h8 => a_pick t27 t32 (.v (.bool false)) h8 (.c (fun t33 h9 => Q .normal ([a0,a1,a2,a3,a4,a5,a6,a7,a8,a9,b0,b1,b2,b3,b4,b5,b6,b7,b8,b9,d0,d1,d2,d3,d4,t25,t26,t27,t28,t29,t30,t31,t32,t33,e4,e5,e6,e7,e8,e9,f0,f1,f2,f3,f4,f5,f6,f7,f8,f9,g0,g1,g2,g3], h9)) ())) ())) ())) ())) ())) ())) ())) ())) ())) := by rw [awp_eq]; kernel_rfl
noncomputable def c8_30 : Code := cr c8_28
noncomputable def c8_31 : Code := cl c8_30
noncomputable def c8_32 : Code := cl c8_31
theorem w8_32 : awp X n c8_32 Q ([a0,a1,a2,a3,a4,a5,a6,a7,a8,a9,b0,b1,b2,b3,b4,b5,b6,b7,b8,b9,d0,d1,d2,d3,d4,d5,d6,d7,d8,d9,e0,e1,e2,e3,e4,e5,e6,e7,e8,e9,f0,f1,f2,f3,f4,f5,f6,f7,f8,f9,g0,g1,g2,g3], h) = (a_mov (.v (.slice none 0 0)) h (.c (fun t6 h1 => a_mov (.v (.int .i64 2)) h1 (.c (fun t7 h2 => Q .normal ([a0,a1,a2,a3,a4,a5,t6,t7,a8,a9,b0,b1,b2,b3,b4,b5,b6,b7,b8,b9,d0,d1,d2,d3,d4,d5,d6,d7,d8,d9,e0,e1,e2,e3,e4,e5,e6,e7,e8,e9,f0,f1,f2,f3,f4,f5,f6,f7,f8,f9,g0,g1,g2,g3], h2)) ())) ())) := by rw [awp_eq]; kernel_rfl
noncomputable def c8_33 : Code := cr c8_31
theorem w8_33 : awp X n c8_33 Q st = Q .ret st := by rw [awp_eq]; kernel_rfl
theorem w8_31 : awp X n c8_31 Q st = awp X n c8_32 (thenQ (awp X n c8_33 Q) Q) st := by rw [awp_eq]; kernel_rfl
noncomputable def c8_34 : Code := cr c8_30
theorem w8_34 : awp X n c8_34 Q st = Q .normal st := by rw [awp_eq]; kernel_rfl
theorem w8_30 : awp X n c8_30 Q ([a0,a1,a2,a3,a4,a5,a6,a7,a8,a9,b0,b1,b2,b3,b4,b5,b6,b7,b8,b9,d0,d1,d2,d3,d4,d5,d6,d7,d8,d9,e0,e1,e2,e3,e4,e5,e6,e7,e8,e9,f0,f1,f2,f3,f4,f5,f6,f7,f8,f9,g0,g1,g2,g3], h) = a_cond e3 (awp X n c8_31 Q ([a0,a1,a2,a3,a4,a5,a6,a7,a8,a9,b0,b1,b2,b3,b4,b5,b6,b7,b8,b9,d0,d1,d2,d3,d4,d5,d6,d7,d8,d9,e0,e1,e2,e3,e4,e5,e6,e7,e8,e9,f0,f1,f2,f3,f4,f5,f6,f7,f8,f9,g0,g1,g2,g3], h)) (awp X n c8_34 Q ([a0,a1,a2,a3,a4,a5,a6,a7,a8,a9,b0,b1,b2,b3,b4,b5,b6,b7,b8,b9,d0,d1,d2,d3,d4,d5,d6,d7,d8,d9,e0,e1,e2,e3,e4,e5,e6,e7,e8,e9,f0,f1,f2,f3,f4,f5,f6,f7,f8,f9,g0,g1,g2,g3], h)) := by rw [awp_eq]; kernel_rfl
theorem w8_28 : awp X n c8_28 Q st = awp X n c8_29 (thenQ (awp X n c8_30 Q) Q) st := by rw [awp_eq]; kernel_rfl
noncomputable def c8_35 : Code := cr c8_27
theorem w8_35 : awp X n c8_35 Q ([a0,a1,a2,a3,a4,a5,a6,a7,a8,a9,b0,b1,b2,b3,b4,b5,b6,b7,b8,b9,d0,d1,d2,d3,d4,d5,d6,d7,d8,d9,e0,e1,e2,e3,e4,e5,e6,e7,e8,e9,f0,f1,f2,f3,f4,f5,f6,f7,f8,f9,g0,g1,g2,g3], h) = (a_mov a8 h (.c (fun t34 h1 => a_mov a1 h1 (.c (fun t35 h2 => a_mov b0 h2 (.c (fun t36 h3 => a_ia 1 t35 t36 h3 (.c (fun t37 h4 => a_load 1 false t37 h4 (.c (fun t38 h5 => a_mov a9 h5 (.c (fun t39 h6 => ACall X 23 [t38, t39] h6 (.c (fun t40 h7 => a_app 1 1 t34 t40 h7 (.c (fun t41 h8 => a_mov t41 h8 (.c (fun t8 h9 => Q .normal ([a0,a1,a2,a3,a4,a5,a6,a7,t8,a9,b0,b1,b2,b3,b4,b5,b6,b7,b8,b9,d0,d1,d2,d3,d4,d5,d6,d7,d8,d9,e0,e1,e2,e3,t34,t35,t36,t37,t38,t39,t40,t41,f2,f3,f4,f5,f6,f7,f8,f9,g0,g1,g2,g3], h9)) ())) ())) ())) ())) ())) ())) ())) ())) ())) := by rw [awp_eq]; kernel_rfl
theorem w8_27 : awp X n c8_27 Q st = awp X n c8_28 (thenQ (awp X n c8_35 Q) Q) st := by rw [awp_eq]; kernel_rfl
theorem w8_26 : awp X n c8_26 Q st = awp X n c8_27 (blockQ 1 Q) st := by rw [awp_eq]; kernel_rfl
noncomputable def c8_36 : Code := cr c8_25
theorem w8_36 : awp X n c8_36 Q ([a0,a1,a2,a3,a4,a5,a6,a7,a8,a9,b0,b1,b2,b3,b4,b5,b6,b7,b8,b9,d0,d1,d2,d3,d4,d5,d6,d7,d8,d9,e0,e1,e2,e3,e4,e5,e6,e7,e8,e9,f0,f1,f2,f3,f4,f5,f6,f7,f8,f9,g0,g1,g2,g3], h) = (a_mov b0 h (.c (fun t23 h1 => a_bin .add t23 (.v (.int .i64 1)) h1 (.c (fun t24 h2 => a_mov t24 h2 (.c (fun t10 h3 => Q .normal ([a0,a1,a2,a3,a4,a5,a6,a7,a8,a9,t10,b1,b2,b3,b4,b5,b6,b7,b8,b9,d0,d1,d2,t23,t24,d5,d6,d7,d8,d9,e0,e1,e2,e3,e4,e5,e6,e7,e8,e9,f0,f1,f2,f3,f4,f5,f6,f7,f8,f9,g0,g1,g2,g3], h3)) ())) ())) ())) := by rw [awp_eq]; kernel_rfl
theorem w8_25 : awp X n c8_25 Q st = awp X n c8_26 (thenQ (awp X n c8_36 Q) Q) st := by rw [awp_eq]; kernel_rfl
theorem w8_19 : awp X n c8_19 Q st = awp X n c8_20 (thenQ (awp X n c8_25 Q) Q) st := by rw [awp_eq]; kernel_rfl
theorem w8_18 : awp X n c8_18 Q st = ALoop X n c8_19 Q st := by rw [awp_eq]; kernel_rfl
theorem w8_17 : awp X n c8_17 Q st = awp X n c8_18 (blockQ 0 Q) st := by rw [awp_eq]; kernel_rfl
theorem w8_15 : awp X n c8_15 Q st = awp X n c8_16 (thenQ (awp X n c8_17 Q) Q) st := by rw [awp_eq]; kernel_rfl
noncomputable def c8_37 : Code := cr c8_14
noncomputable def c8_38 : Code := cl c8_37
theorem w8_38 : awp X n c8_38 Q ([a0,a1,a2,a3,a4,a5,a6,a7,a8,a9,b0,b1,b2,b3,b4,b5,b6,b7,b8,b9,d0,d1,d2,d3,d4,d5,d6,d7,d8,d9,e0,e1,e2,e3,e4,e5,e6,e7,e8,e9,f0,f1,f2,f3,f4,f5,f6,f7,f8,f9,g0,g1,g2,g3], h) = (a_mov a8 h (.c (fun t43 h1 => a_len t43 h1 (.c (fun t44 h2 => a_cint .u64 t44 h2 (.c (fun t45 h3 => a_mov a0 h3 (.c (fun t46 h4 => ACall X 24 [t45, t46] h4 (.c (fun t47 h5 => a_mov t47 h5 (.c (fun t42 h6 => a_ext 0 t42 h6 (.c (fun t48 h7 => a_ext 1 t42 h7 (.c (fun t49 h8 => a_mov t48 h8 (.c (fun t11 h9 => a_mov t49 h9 (.c (fun t12 h10 => Q .normal ([a0,a1,a2,a3,a4,a5,a6,a7,a8,a9,b0,t11,t12,b3,b4,b5,b6,b7,b8,b9,d0,d1,d2,d3,d4,d5,d6,d7,d8,d9,e0,e1,e2,e3,e4,e5,e6,e7,e8,e9,f0,f1,t42,t43,t44,t45,t46,t47,t48,t49,g0,g1,g2,g3], h10)) ())) ())) ())) ())) ())) ())) ())) ())) ())) ())) := by rw [awp_eq]; kernel_rfl
noncomputable def c8_39 : Code := cr c8_37
noncomputable def c8_40 : Code := cl c8_39
theorem w8_40 : awp X n c8_40 Q ([a0,a1,a2,a3,a4,a5,a6,a7,a8,a9,b0,b1,b2,b3,b4,b5,b6,b7,b8,b9,d0,d1,d2,d3,d4,d5,d6,d7,d8,d9,e0,e1,e2,e3,e4,e5,e6,e7,e8,e9,f0,f1,f2,f3,f4,f5,f6,f7,f8,f9,g0,g1,g2,g3], h) = (a_mov b1 h (.c (fun t50 h1 => a_mov a8 h1 (.c (fun t51 h2 => a_app 1 1 t50 t51 h2 (.c (fun t52 h3 => a_mov b2 h3 (.c (fun t53 h4 => a_mov t52 h4 (.c (fun t6 h5 => a_mov t53 h5 (.c (fun t7 h6 => Q .normal ([a0,a1,a2,a3,a4,a5,t6,t7,a8,a9,b0,b1,b2,b3,b4,b5,b6,b7,b8,b9,d0,d1,d2,d3,d4,d5,d6,d7,d8,d9,e0,e1,e2,e3,e4,e5,e6,e7,e8,e9,f0,f1,f2,f3,f4,f5,f6,f7,f8,f9,t50,t51,t52,t53], h6)) ())) ())) ())) ())) ())) ())) := by rw [awp_eq]; kernel_rfl
noncomputable def c8_41 : Code := cr c8_39
theorem w8_41 : awp X n c8_41 Q st = Q .ret st := by rw [awp_eq]; kernel_rfl
theorem w8_39 : awp X n c8_39 Q st = awp X n c8_40 (thenQ (awp X n c8_41 Q) Q) st := by rw [awp_eq]; kernel_rfl
theorem w8_37 : awp X n c8_37 Q st = awp X n c8_38 (thenQ (awp X n c8_39 Q) Q) st := by rw [awp_eq]; kernel_rfl
theorem w8_14 : awp X n c8_14 Q st = awp X n c8_15 (thenQ (awp X n c8_37 Q) Q) st := by rw [awp_eq]; kernel_rfl
theorem w8_6 : awp X n c8_6 Q st = awp X n c8_7 (thenQ (awp X n c8_14 Q) Q) st := by rw [awp_eq]; kernel_rfl
theorem w8_4 : awp X n c8_4 Q st = awp X n c8_5 (thenQ (awp X n c8_6 Q) Q) st := by rw [awp_eq]; kernel_rfl
theorem w8_2 : awp X n c8_2 Q st = awp X n c8_3 (thenQ (awp X n c8_4 Q) Q) st := by rw [awp_eq]; kernel_rfl
theorem w8_0 : awp X n c8_0 Q st = awp X n c8_1 (thenQ (awp X n c8_2 Q) Q) st := by rw [awp_eq]; kernel_rfl
theorem q8_ret : retQ X Tryd.f8 K .ret ([a0,a1,a2,a3,a4,a5,a6,a7,a8,a9,b0,b1,b2,b3,b4,b5,b6,b7,b8,b9,d0,d1,d2,d3,d4,d5,d6,d7,d8,d9,e0,e1,e2,e3,e4,e5,e6,e7,e8,e9,f0,f1,f2,f3,f4,f5,f6,f7,f8,f9,g0,g1,g2,g3], h) = (K.K (.t [a6, a7]) h) := by kernel_rfl
theorem q8_normal : retQ X Tryd.f8 K .normal ([a0,a1,a2,a3,a4,a5,a6,a7,a8,a9,b0,b1,b2,b3,b4,b5,b6,b7,b8,b9,d0,d1,d2,d3,d4,d5,d6,d7,d8,d9,e0,e1,e2,e3,e4,e5,e6,e7,e8,e9,f0,f1,f2,f3,f4,f5,f6,f7,f8,f9,g0,g1,g2,g3], h) = (K.K (.t [a6, a7]) h) := by kernel_rfl
theorem i8 (H : awp X h.length c8_0 (retQ X Tryd.f8 K) ([a0,a1,a2,.bad,.bad,.bad,.bad,.bad,.bad,.bad,.bad,.bad,.bad,.bad,.bad,.bad,.bad,.bad,.bad,.bad,.bad,.bad,.bad,.bad,.bad,.bad,.bad,.bad,.bad,.bad,.bad,.bad,.bad,.bad,.bad,.bad,.bad,.bad,.bad,.bad,.bad,.bad,.bad,.bad,.bad,.bad,.bad,.bad,.bad,.bad,.bad,.bad,.bad,.bad], h)) : ACall X 8 [a0, a1, a2] h K := acall_intro (fn := Tryd.f8) (by kernel_rfl) (by kernel_rfl) (by kernel_rfl) H
noncomputable def R8 := And.intro (And.intro (And.intro (And.intro (And.intro w8_1 w8_3) (And.intro (w8_5) (And.intro w8_8 w8_11))) (And.intro (And.intro (w8_12) (And.intro w8_10 w8_13)) (And.intro (w8_9) (And.intro w8_7 w8_16)))) (And.intro (And.intro (And.intro w8_21 w8_23) (And.intro (w8_24) (And.intro w8_22 w8_20))) (And.intro (And.intro (w8_29) (And.intro w8_32 w8_33)) (And.intro (w8_31) (And.intro w8_34 w8_30))))) (And.intro (And.intro (And.intro (And.intro w8_28 w8_35) (And.intro (w8_27) (And.intro w8_26 w8_36))) (And.intro (And.intro (w8_25) (And.intro w8_19 w8_18)) (And.intro (w8_17) (And.intro w8_15 w8_38)))) (And.intro (And.intro (And.intro w8_40 w8_41) (And.intro (w8_39) (And.intro w8_37 w8_14))) (And.intro (And.intro (w8_6) (And.intro w8_4 w8_2)) (And.intro (w8_0) (And.intro q8_ret q8_normal)))))
/-! function 9: sindri/tables.PutAddrs -/
noncomputable def c9_0 : Code := bodyOf Tryd.f9
noncomputable def c9_1 : Code := cl c9_0
theorem w9_1 : awp X n c9_1 Q ([a0,a1,a2,a3,a4,a5,a6,a7,a8,a9,b0,b1], h) = (a_mov (.v (.slice none 0 0)) h (.c (fun t4 h1 => a_mov (.v (.int .i64 0)) h1 (.c (fun t5 h2 => Q .normal ([a0,a1,a2,a3,t4,t5,a6,a7,a8,a9,b0,b1], h2)) ())) ())) := by rw [awp_eq]; kernel_rfl
noncomputable def c9_2 : Code := cr c9_0
noncomputable def c9_3 : Code := cl c9_2
theorem w9_3 : awp X n c9_3 Q ([a0,a1,a2,a3,a4,a5,a6,a7,a8,a9,b0,b1], h) = (a_mov a0 h (.c (fun t6 h1 => a_lit 1 4 [.v (.int .u8 0), .v (.int .u8 0), .v (.int .u8 0), .v (.int .u8 0)] [(0, 1, (.v (.int .u8 5))), (1, 1, (.v (.int .u8 0))), (2, 1, (.v (.int .u8 8))), (3, 1, (.v (.int .u8 0)))] h1 (.c (fun t7 h2 => a_mov a1 h2 (.c (fun t8 h3 => ACall X 20 [t6, t7, t8, (.v (.int .i64 8))] h3 (.c (fun t9 h4 => a_ext 0 t9 h4 (.c (fun t10 h5 => a_ext 1 t9 h5 (.c (fun t11 h6 => a_mov t10 h6 (.c (fun t4 h7 => a_mov t11 h7 (.c (fun t5 h8 => Q .normal ([a0,a1,a2,a3,t4,t5,t6,t7,t8,t9,t10,t11], h8)) ())) ())) ())) ())) ())) ())) ())) ())) := by rw [awp_eq]; kernel_rfl
noncomputable def c9_4 : Code := cr c9_2
theorem w9_4 : awp X n c9_4 Q st = Q .ret st := by rw [awp_eq]; kernel_rfl
theorem w9_2 : awp X n c9_2 Q st = awp X n c9_3 (thenQ (awp X n c9_4 Q) Q) st := by rw [awp_eq]; kernel_rfl
theorem w9_0 : awp X n c9_0 Q st = awp X n c9_1 (thenQ (awp X n c9_2 Q) Q) st := by rw [awp_eq]; kernel_rfl
theorem q9_ret : retQ X Tryd.f9 K .ret ([a0,a1,a2,a3,a4,a5,a6,a7,a8,a9,b0,b1], h) = (K.K (.t [a4, a5]) h) := by kernel_rfl
theorem q9_normal : retQ X Tryd.f9 K .normal ([a0,a1,a2,a3,a4,a5,a6,a7,a8,a9,b0,b1], h) = (K.K (.t [a4, a5]) h) := by kernel_rfl
theorem i9 (H : awp X h.length c9_0 (retQ X Tryd.f9 K) ([a0,a1,.bad,.bad,.bad,.bad,.bad,.bad,.bad,.bad,.bad,.bad], h)) : ACall X 9 [a0, a1] h K := acall_intro (fn := Tryd.f9) (by kernel_rfl) (by kernel_rfl) (by kernel_rfl) H
noncomputable def R9 := And.intro (And.intro (w9_1) (And.intro w9_3 w9_4)) (And.intro (And.intro w9_2 w9_0) (And.intro q9_ret q9_normal))
/-! function 10: sindri/tables.Strs -/
noncomputable def c10_0 : Code := bodyOf Tryd.f10
noncomputable def c10_1 : Code := cl c10_0
theorem w10_1 : awp X n c10_1 Q ([a0,a1,a2,a3,a4,a5,a6,a7], h) = (a_mov (.v (.slice none 0 0)) h (.c (fun t2 h1 => a_mov (.v (.int .i64 0)) h1 (.c (fun t3 h2 => Q .normal ([a0,a1,t2,t3,a4,a5,a6,a7], h2)) ())) ())) := by rw [awp_eq]; kernel_rfl
noncomputable def c10_2 : Code := cr c10_0
noncomputable def c10_3 : Code := cl c10_2
theorem w10_3 : awp X n c10_3 Q ([a0,a1,a2,a3,a4,a5,a6,a7], h) = (a_mov a0 h (.c (fun t4 h1 => ACall X 25 [t4, (.f (.func 26) [] []), (.f (.func 21) [] [])] h1 (.c (fun t5 h2 => a_ext 0 t5 h2 (.c (fun t6 h3 => a_ext 1 t5 h3 (.c (fun t7 h4 => a_mov t6 h4 (.c (fun t2 h5 => a_mov t7 h5 (.c (fun t3 h6 => Q .normal ([a0,a1,t2,t3,t4,t5,t6,t7], h6)) ())) ())) ())) ())) ())) ())) := by rw [awp_eq]; kernel_rfl
noncomputable def c10_4 : Code := cr c10_2
theorem w10_4 : awp X n c10_4 Q st = Q .ret st := by rw [awp_eq]; kernel_rfl
theorem w10_2 : awp X n c10_2 Q st = awp X n c10_3 (thenQ (awp X n c10_4 Q) Q) st := by rw [awp_eq]; kernel_rfl
theorem w10_0 : awp X n c10_0 Q st = awp X n c10_1 (thenQ (awp X n c10_2 Q) Q) st := by rw [awp_eq]; kernel_rfl
theorem q10_ret : retQ X Tryd.f10 K .ret ([a0,a1,a2,a3,a4,a5,a6,a7], h) = (K.K (.t [a2, a3]) h) := by kernel_rfl
theorem q10_normal : retQ X Tryd.f10 K .normal ([a0,a1,a2,a3,a4,a5,a6,a7], h) = (K.K (.t [a2, a3]) h) := by kernel_rfl
theorem i10 (H : awp X h.length c10_0 (retQ X Tryd.f10 K) ([a0,.bad,.bad,.bad,.bad,.bad,.bad,.bad], h)) : ACall X 10 [a0] h K := acall_intro (fn := Tryd.f10) (by kernel_rfl) (by kernel_rfl) (by kernel_rfl) H
noncomputable def R10 := And.intro (And.intro (w10_1) (And.intro w10_3 w10_4)) (And.intro (And.intro w10_2 w10_0) (And.intro q10_ret q10_normal))
/-! function 11: sindri/sindriref16.All -/
noncomputable def c11_0 : Code := bodyOf Tryd.f11
noncomputable def c11_1 : Code := cl c11_0
theorem w11_1 : awp X n c11_1 Q ([a0,a1,a2,a3,a4,a5,a6,a7,a8,a9,b0,b1,b2,b3,b4,b5,b6,b7,b8,b9,d0,d1,d2,d3,d4,d5,d6,d7,d8,d9,e0,e1,e2,e3,e4,e5,e6,e7,e8,e9,f0,f1,f2,f3,f4,f5,f6,f7,f8,f9,g0,g1,g2,g3,g4,g5,g6,g7,g8,g9,j0,j1,j2,j3,j4,j5,j6,j7,j8,j9,k0,k1,k2,k3,k4,k5,k6,k7,k8,k9,l0,l1,l2,l3,l4,l5,l6,l7], h) = (a_mov (.v (.slice none 0 0)) h (.c (fun t4 h1 => a_mov (.v (.int .i64 0)) h1 (.c (fun t5 h2 => Q .normal ([a0,a1,a2,a3,t4,t5,a6,a7,a8,a9,b0,b1,b2,b3,b4,b5,b6,b7,b8,b9,d0,d1,d2,d3,d4,d5,d6,d7,d8,d9,e0,e1,e2,e3,e4,e5,e6,e7,e8,e9,f0,f1,f2,f3,f4,f5,f6,f7,f8,f9,g0,g1,g2,g3,g4,g5,g6,g7,g8,g9,j0,j1,j2,j3,j4,j5,j6,j7,j8,j9,k0,k1,k2,k3,k4,k5,k6,k7,k8,k9,l0,l1,l2,l3,l4,l5,l6,l7], h2)) ())) ())) := by rw [awp_eq]; kernel_rfl
noncomputable def c11_2 : Code := cr c11_0
noncomputable def c11_3 : Code := cl c11_2
theorem w11_3 : awp X n c11_3 Q ([a0,a1,a2,a3,a4,a5,a6,a7,a8,a9,b0,b1,b2,b3,b4,b5,b6,b7,b8,b9,d0,d1,d2,d3,d4,d5,d6,d7,d8,d9,e0,e1,e2,e3,e4,e5,e6,e7,e8,e9,f0,f1,f2,f3,f4,f5,f6,f7,f8,f9,g0,g1,g2,g3,g4,g5,g6,g7,g8,g9,j0,j1,j2,j3,j4,j5,j6,j7,j8,j9,k0,k1,k2,k3,k4,k5,k6,k7,k8,k9,l0,l1,l2,l3,l4,l5,l6,l7], h) = (a_mov a0 h (.c (fun t15 h1 => a_build [.v (.slice none 0 0), .v (.int .i64 0), .v (.int .i64 0)] [(0, 1, t15)] h1 (.c (fun t16 h2 => a_box t16 h2 (.c (fun t17 h3 => a_mov t17 h3 (.c (fun t6 h4 => Q .normal ([a0,a1,a2,a3,a4,a5,t6,a7,a8,a9,b0,b1,b2,b3,b4,t15,t16,t17,b8,b9,d0,d1,d2,d3,d4,d5,d6,d7,d8,d9,e0,e1,e2,e3,e4,e5,e6,e7,e8,e9,f0,f1,f2,f3,f4,f5,f6,f7,f8,f9,g0,g1,g2,g3,g4,g5,g6,g7,g8,g9,j0,j1,j2,j3,j4,j5,j6,j7,j8,j9,k0,k1,k2,k3,k4,k5,k6,k7,k8,k9,l0,l1,l2,l3,l4,l5,l6,l7], h4)) ())) ())) ())) ())) := by rw [awp_eq]; kernel_rfl
noncomputable def c11_4 : Code := cr c11_2
noncomputable def c11_5 : Code := cl c11_4
theorem w11_5 : awp X n c11_5 Q ([a0,a1,a2,a3,a4,a5,a6,a7,a8,a9,b0,b1,b2,b3,b4,b5,b6,b7,b8,b9,d0,d1,d2,d3,d4,d5,d6,d7,d8,d9,e0,e1,e2,e3,e4,e5,e6,e7,e8,e9,f0,f1,f2,f3,f4,f5,f6,f7,f8,f9,g0,g1,g2,g3,g4,g5,g6,g7,g8,g9,j0,j1,j2,j3,j4,j5,j6,j7,j8,j9,k0,k1,k2,k3,k4,k5,k6,k7,k8,k9,l0,l1,l2,l3,l4,l5,l6,l7], h) = (a_mov (.v (.slice none 0 0)) h (.c (fun t7 h1 => Q .normal ([a0,a1,a2,a3,a4,a5,a6,t7,a8,a9,b0,b1,b2,b3,b4,b5,b6,b7,b8,b9,d0,d1,d2,d3,d4,d5,d6,d7,d8,d9,e0,e1,e2,e3,e4,e5,e6,e7,e8,e9,f0,f1,f2,f3,f4,f5,f6,f7,f8,f9,g0,g1,g2,g3,g4,g5,g6,g7,g8,g9,j0,j1,j2,j3,j4,j5,j6,j7,j8,j9,k0,k1,k2,k3,k4,k5,k6,k7,k8,k9,l0,l1,l2,l3,l4,l5,l6,l7], h1)) ())) := by rw [awp_eq]; kernel_rfl
noncomputable def c11_6 : Code := cr c11_4
noncomputable def c11_7 : Code := cl c11_6
noncomputable def c11_8 : Code := cl c11_7
noncomputable def c11_9 : Code := cl c11_8
noncomputable def c11_10 : Code := cl c11_9
noncomputable def c11_11 : Code := cl c11_10
theorem w11_11 : awp X n c11_11 Q ([a0,a1,a2,a3,a4,a5,a6,a7,a8,a9,b0,b1,b2,b3,b4,b5,b6,b7,b8,b9,d0,d1,d2,d3,d4,d5,d6,d7,d8,d9,e0,e1,e2,e3,e4,e5,e6,e7,e8,e9,f0,f1,f2,f3,f4,f5,f6,f7,f8,f9,g0,g1,g2,g3,g4,g5,g6,g7,g8,g9,j0,j1,j2,j3,j4,j5,j6,j7,j8,j9,k0,k1,k2,k3,k4,k5,k6,k7,k8,k9,l0,l1,l2,l3,l4,l5,l6,l7], h) = (a_mov a6 h (.c (fun t18 h1 => a_nilc t18 h1 (.c (fun t19 h2 => a_fa 1 t19 h2 (.c (fun t20 h3 => a_load 1 false t20 h3 (.c (fun t21 h4 => a_mov a0 h4 (.c (fun t22 h5 => a_len t22 h5 (.c (fun t23 h6 => a_bin .lss t21 t23 h6 (.c (fun t24 h7 => Q .normal ([a0,a1,a2,a3,a4,a5,a6,a7,a8,a9,b0,b1,b2,b3,b4,b5,b6,b7,t18,t19,t20,t21,t22,t23,t24,d5,d6,d7,d8,d9,e0,e1,e2,e3,e4,e5,e6,e7,e8,e9,f0,f1,f2,f3,f4,f5,f6,f7,f8,f9,g0,g1,g2,g3,g4,g5,g6,g7,g8,g9,j0,j1,j2,j3,j4,j5,j6,j7,j8,j9,k0,k1,k2,k3,k4,k5,k6,k7,k8,k9,l0,l1,l2,l3,l4,l5,l6,l7], h7)) ())) ())) ())) ())) ())) ())) ())) := by rw [awp_eq]; kernel_rfl
noncomputable def c11_12 : Code := cr c11_10
noncomputable def c11_13 : Code := cl c11_12
theorem w11_13 : awp X n c11_13 Q st = Q .normal st := by rw [awp_eq]; kernel_rfl
noncomputable def c11_14 : Code := cr c11_12
theorem w11_14 : awp X n c11_14 Q st = Q (.exit 0) st := by rw [awp_eq]; kernel_rfl
theorem w11_12 : awp X n c11_12 Q ([a0,a1,a2,a3,a4,a5,a6,a7,a8,a9,b0,b1,b2,b3,b4,b5,b6,b7,b8,b9,d0,d1,d2,d3,d4,d5,d6,d7,d8,d9,e0,e1,e2,e3,e4,e5,e6,e7,e8,e9,f0,f1,f2,f3,f4,f5,f6,f7,f8,f9,g0,g1,g2,g3,g4,g5,g6,g7,g8,g9,j0,j1,j2,j3,j4,j5,j6,j7,j8,j9,k0,k1,k2,k3,k4,k5,k6,k7,k8,k9,l0,l1,l2,l3,l4,l5,l6,l7], h) = a_cond d4 (awp X n c11_13 Q ([a0,a1,a2,a3,a4,a5,a6,a7,a8,a9,b0,b1,b2,b3,b4,b5,b6,b7,b8,b9,d0,d1,d2,d3,d4,d5,d6,d7,d8,d9,e0,e1,e2,e3,e4,e5,e6,e7,e8,e9,f0,f1,f2,f3,f4,f5,f6,f7,f8,f9,g0,g1,g2,g3,g4,g5,g6,g7,g8,g9,j0,j1,j2,j3,j4,j5,j6,j7,j8,j9,k0,k1,k2,k3,k4,k5,k6,k7,k8,k9,l0,l1,l2,l3,l4,l5,l6,l7], h)) (awp X n c11_14 Q ([a0,a1,a2,a3,a4,a5,a6,a7,a8,a9,b0,b1,b2,b3,b4,b5,b6,b7,b8,b9,d0,d1,d2,d3,d4,d5,d6,d7,d8,d9,e0,e1,e2,e3,e4,e5,e6,e7,e8,e9,f0,f1,f2,f3,f4,f5,f6,f7,f8,f9,g0,g1,g2,g3,g4,g5,g6,g7,g8,g9,j0,j1,j2,j3,j4,j5,j6,j7,j8,j9,k0,k1,k2,k3,k4,k5,k6,k7,k8,k9,l0,l1,l2,l3,l4,l5,l6,l7], h)) := by rw [awp_eq]; kernel_rfl
theorem w11_10 : awp X n c11_10 Q st = awp X n c11_11 (thenQ (awp X n c11_12 Q) Q) st := by rw [awp_eq]; kernel_rfl
noncomputable def c11_15 : Code := cr c11_9
noncomputable def c11_16 : Code := cl c11_15
noncomputable def c11_17 : Code := cl c11_16
theorem w11_17 : awp X n c11_17 Q ([a0,a1,a2,a3,a4,a5,a6,a7,a8,a9,b0,b1,b2,b3,b4,b5,b6,b7,b8,b9,d0,d1,d2,d3,d4,d5,d6,d7,d8,d9,e0,e1,e2,e3,e4,e5,e6,e7,e8,e9,f0,f1,f2,f3,f4,f5,f6,f7,f8,f9,g0,g1,g2,g3,g4,g5,g6,g7,g8,g9,j0,j1,j2,j3,j4,j5,j6,j7,j8,j9,k0,k1,k2,k3,k4,k5,k6,k7,k8,k9,l0,l1,l2,l3,l4,l5,l6,l7], h) = (a_mov a6 h (.c (fun t26 h1 => ACall X 28 [t26] h1 (.c (fun t27 h2 => a_mov t27 h2 (.c (fun t25 h3 => a_ext 0 t25 h3 (.c (fun t28 h4 => a_ext 1 t25 h4 (.c (fun t29 h5 => a_mov t28 h5 (.c (fun t8 h6 => a_mov t29 h6 (.c (fun t9 h7 => Q .normal ([a0,a1,a2,a3,a4,a5,a6,a7,t8,t9,b0,b1,b2,b3,b4,b5,b6,b7,b8,b9,d0,d1,d2,d3,d4,t25,t26,t27,t28,t29,e0,e1,e2,e3,e4,e5,e6,e7,e8,e9,f0,f1,f2,f3,f4,f5,f6,f7,f8,f9,g0,g1,g2,g3,g4,g5,g6,g7,g8,g9,j0,j1,j2,j3,j4,j5,j6,j7,j8,j9,k0,k1,k2,k3,k4,k5,k6,k7,k8,k9,l0,l1,l2,l3,l4,l5,l6,l7], h7)) ())) ())) ())) ())) ())) ())) ())) := by rw [awp_eq]; kernel_rfl
noncomputable def c11_18 : Code := cr c11_16
noncomputable def c11_19 : Code := cl c11_18
theorem w11_19 : awp X n c11_19 Q ([a0,a1,a2,a3,a4,a5,a6,a7,a8,a9,b0,b1,b2,b3,b4,b5,b6,b7,b8,b9,d0,d1,d2,d3,d4,d5,d6,d7,d8,d9,e0,e1,e2,e3,e4,e5,e6,e7,e8,e9,f0,f1,f2,f3,f4,f5,f6,f7,f8,f9,g0,g1,g2,g3,g4,g5,g6,g7,g8,g9,j0,j1,j2,j3,j4,j5,j6,j7,j8,j9,k0,k1,k2,k3,k4,k5,k6,k7,k8,k9,l0,l1,l2,l3,l4,l5,l6,l7], h) = (a_mov a8 h (.c (fun t30 h1 => ACall X 29 [t30, (.v (.int .i64 2))] h1 (.c (fun t31 h2 => a_mov t31 h2 (.c (fun t10 h3 => Q .normal ([a0,a1,a2,a3,a4,a5,a6,a7,a8,a9,t10,b1,b2,b3,b4,b5,b6,b7,b8,b9,d0,d1,d2,d3,d4,d5,d6,d7,d8,d9,t30,t31,e2,e3,e4,e5,e6,e7,e8,e9,f0,f1,f2,f3,f4,f5,f6,f7,f8,f9,g0,g1,g2,g3,g4,g5,g6,g7,g8,g9,j0,j1,j2,j3,j4,j5,j6,j7,j8,j9,k0,k1,k2,k3,k4,k5,k6,k7,k8,k9,l0,l1,l2,l3,l4,l5,l6,l7], h3)) ())) ())) ())) := by rw [awp_eq]; kernel_rfl
noncomputable def c11_20 : Code := cr c11_18
noncomputable def c11_21 : Code := cl c11_20
theorem w11_21 : awp X n c11_21 Q ([a0,a1,a2,a3,a4,a5,a6,a7,a8,a9,b0,b1,b2,b3,b4,b5,b6,b7,b8,b9,d0,d1,d2,d3,d4,d5,d6,d7,d8,d9,e0,e1,e2,e3,e4,e5,e6,e7,e8,e9,f0,f1,f2,f3,f4,f5,f6,f7,f8,f9,g0,g1,g2,g3,g4,g5,g6,g7,g8,g9,j0,j1,j2,j3,j4,j5,j6,j7,j8,j9,k0,k1,k2,k3,k4,k5,k6,k7,k8,k9,l0,l1,l2,l3,l4,l5,l6,l7], h) = (a_mov a8 h (.c (fun t32 h1 => ACall X 29 [t32, (.v (.int .i64 2))] h1 (.c (fun t33 h2 => a_mov t33 h2 (.c (fun t11 h3 => Q .normal ([a0,a1,a2,a3,a4,a5,a6,a7,a8,a9,b0,t11,b2,b3,b4,b5,b6,b7,b8,b9,d0,d1,d2,d3,d4,d5,d6,d7,d8,d9,e0,e1,t32,t33,e4,e5,e6,e7,e8,e9,f0,f1,f2,f3,f4,f5,f6,f7,f8,f9,g0,g1,g2,g3,g4,g5,g6,g7,g8,g9,j0,j1,j2,j3,j4,j5,j6,j7,j8,j9,k0,k1,k2,k3,k4,k5,k6,k7,k8,k9,l0,l1,l2,l3,l4,l5,l6,l7], h3)) ())) ())) ())) := by rw [awp_eq]; kernel_rfl
noncomputable def c11_22 : Code := cr c11_20
noncomputable def c11_23 : Code := cl c11_22
noncomputable def c11_24 : Code := cl c11_23
theorem w11_24 : awp X n c11_24 Q ([a0,a1,a2,a3,a4,a5,a6,a7,a8,a9,b0,b1,b2,b3,b4,b5,b6,b7,b8,b9,d0,d1,d2,d3,d4,d5,d6,d7,d8,d9,e0,e1,e2,e3,e4,e5,e6,e7,e8,e9,f0,f1,f2,f3,f4,f5,f6,f7,f8,f9,g0,g1,g2,g3,g4,g5,g6,g7,g8,g9,j0,j1,j2,j3,j4,j5,j6,j7,j8,j9,k0,k1,k2,k3,k4,k5,k6,k7,k8,k9,l0,l1,l2,l3,l4,l5,l6,l7], h) = (a_mov a8 h (.c (fun t34 h1 => a_nilc t34 h1 (.c (fun t35 h2 => a_fa 2 t35 h2 (.c (fun t36 h3 => a_load 1 false t36 h3 (.c (fun t37 h4 => a_bin .neq t37 (.v (.int .i64 0)) h4 (.c (fun t38 h5 => Q .normal ([a0,a1,a2,a3,a4,a5,a6,a7,a8,a9,b0,b1,b2,b3,b4,b5,b6,b7,b8,b9,d0,d1,d2,d3,d4,d5,d6,d7,d8,d9,e0,e1,e2,e3,t34,t35,t36,t37,t38,e9,f0,f1,f2,f3,f4,f5,f6,f7,f8,f9,g0,g1,g2,g3,g4,g5,g6,g7,g8,g9,j0,j1,j2,j3,j4,j5,j6,j7,j8,j9,k0,k1,k2,k3,k4,k5,k6,k7,k8,k9,l0,l1,l2,l3,l4,l5,l6,l7], h5)) ())) ())) ())) ())) ())) := by rw [awp_eq]; kernel_rfl
noncomputable def c11_25 : Code := cr c11_23
noncomputable def c11_26 : Code := cl c11_25
noncomputable def c11_27 : Code := cl c11_26
theorem w11_27 : awp X n c11_27 Q ([a0,a1,a2,a3,a4,a5,a6,a7,a8,a9,b0,b1,b2,b3,b4,b5,b6,b7,b8,b9,d0,d1,d2,d3,d4,d5,d6,d7,d8,d9,e0,e1,e2,e3,e4,e5,e6,e7,e8,e9,f0,f1,f2,f3,f4,f5,f6,f7,f8,f9,g0,g1,g2,g3,g4,g5,g6,g7,g8,g9,j0,j1,j2,j3,j4,j5,j6,j7,j8,j9,k0,k1,k2,k3,k4,k5,k6,k7,k8,k9,l0,l1,l2,l3,l4,l5,l6,l7], h) = (a_mov a8 h (.c (fun t39 h1 => a_nilc t39 h1 (.c (fun t40 h2 => a_fa 2 t40 h2 (.c (fun t41 h3 => a_load 1 false t41 h3 (.c (fun t42 h4 => a_mov (.v (.slice none 0 0)) h4 (.c (fun t4 h5 => a_mov t42 h5 (.c (fun t5 h6 => Q .normal ([a0,a1,a2,a3,t4,t5,a6,a7,a8,a9,b0,b1,b2,b3,b4,b5,b6,b7,b8,b9,d0,d1,d2,d3,d4,d5,d6,d7,d8,d9,e0,e1,e2,e3,e4,e5,e6,e7,e8,t39,t40,t41,t42,f3,f4,f5,f6,f7,f8,f9,g0,g1,g2,g3,g4,g5,g6,g7,g8,g9,j0,j1,j2,j3,j4,j5,j6,j7,j8,j9,k0,k1,k2,k3,k4,k5,k6,k7,k8,k9,l0,l1,l2,l3,l4,l5,l6,l7], h6)) ())) ())) ())) ())) ())) ())) := by rw [awp_eq]; kernel_rfl
noncomputable def c11_28 : Code := cr c11_26
theorem w11_28 : awp X n c11_28 Q st = Q .ret st := by rw [awp_eq]; kernel_rfl
theorem w11_26 : awp X n c11_26 Q st = awp X n c11_27 (thenQ (awp X n c11_28 Q) Q) st := by rw [awp_eq]; kernel_rfl
noncomputable def c11_29 : Code := cr c11_25
theorem w11_29 : awp X n c11_29 Q st = Q .normal st := by rw [awp_eq]; kernel_rfl
theorem w11_25 : awp X n c11_25 Q ([a0,a1,a2,a3,a4,a5,a6,a7,a8,a9,b0,b1,b2,b3,b4,b5,b6,b7,b8,b9,d0,d1,d2,d3,d4,d5,d6,d7,d8,d9,e0,e1,e2,e3,e4,e5,e6,e7,e8,e9,f0,f1,f2,f3,f4,f5,f6,f7,f8,f9,g0,g1,g2,g3,g4,g5,g6,g7,g8,g9,j0,j1,j2,j3,j4,j5,j6,j7,j8,j9,k0,k1,k2,k3,k4,k5,k6,k7,k8,k9,l0,l1,l2,l3,l4,l5,l6,l7], h) = a_cond e8 (awp X n c11_26 Q ([a0,a1,a2,a3,a4,a5,a6,a7,a8,a9,b0,b1,b2,b3,b4,b5,b6,b7,b8,b9,d0,d1,d2,d3,d4,d5,d6,d7,d8,d9,e0,e1,e2,e3,e4,e5,e6,e7,e8,e9,f0,f1,f2,f3,f4,f5,f6,f7,f8,f9,g0,g1,g2,g3,g4,g5,g6,g7,g8,g9,j0,j1,j2,j3,j4,j5,j6,j7,j8,j9,k0,k1,k2,k3,k4,k5,k6,k7,k8,k9,l0,l1,l2,l3,l4,l5,l6,l7], h)) (awp X n c11_29 Q ([a0,a1,a2,a3,a4,a5,a6,a7,a8,a9,b0,b1,b2,b3,b4,b5,b6,b7,b8,b9,d0,d1,d2,d3,d4,d5,d6,d7,d8,d9,e0,e1,e2,e3,e4,e5,e6,e7,e8,e9,f0,f1,f2,f3,f4,f5,f6,f7,f8,f9,g0,g1,g2,g3,g4,g5,g6,g7,g8,g9,j0,j1,j2,j3,j4,j5,j6,j7,j8,j9,k0,k1,k2,k3,k4,k5,k6,k7,k8,k9,l0,l1,l2,l3,l4,l5,l6,l7], h)) := by rw [awp_eq]; kernel_rfl
theorem w11_23 : awp X n c11_23 Q st = awp X n c11_24 (thenQ (awp X n c11_25 Q) Q) st := by rw [awp_eq]; kernel_rfl
noncomputable def c11_30 : Code := cr c11_22
noncomputable def c11_31 : Code := cl c11_30
theorem w11_31 : awp X n c11_31 Q ([a0,a1,a2,a3,a4,a5,a6,a7,a8,a9,b0,b1,b2,b3,b4,b5,b6,b7,b8,b9,d0,d1,d2,d3,d4,d5,d6,d7,d8,d9,e0,e1,e2,e3,e4,e5,e6,e7,e8,e9,f0,f1,f2,f3,f4,f5,f6,f7,f8,f9,g0,g1,g2,g3,g4,g5,g6,g7,g8,g9,j0,j1,j2,j3,j4,j5,j6,j7,j8,j9,k0,k1,k2,k3,k4,k5,k6,k7,k8,k9,l0,l1,l2,l3,l4,l5,l6,l7], h) = (a_mov (.v (.int .i64 8)) h (.c (fun t12 h1 => Q .normal ([a0,a1,a2,a3,a4,a5,a6,a7,a8,a9,b0,b1,t12,b3,b4,b5,b6,b7,b8,b9,d0,d1,d2,d3,d4,d5,d6,d7,d8,d9,e0,e1,e2,e3,e4,e5,e6,e7,e8,e9,f0,f1,f2,f3,f4,f5,f6,f7,f8,f9,g0,g1,g2,g3,g4,g5,g6,g7,g8,g9,j0,j1,j2,j3,j4,j5,j6,j7,j8,j9,k0,k1,k2,k3,k4,k5,k6,k7,k8,k9,l0,l1,l2,l3,l4,l5,l6,l7], h1)) ())) := by rw [awp_eq]; kernel_rfl
noncomputable def c11_32 : Code := cr c11_30
noncomputable def c11_33 : Code := cl c11_32
theorem w11_33 : awp X n c11_33 Q ([a0,a1,a2,a3,a4,a5,a6,a7,a8,a9,b0,b1,b2,b3,b4,b5,b6,b7,b8,b9,d0,d1,d2,d3,d4,d5,d6,d7,d8,d9,e0,e1,e2,e3,e4,e5,e6,e7,e8,e9,f0,f1,f2,f3,f4,f5,f6,f7,f8,f9,g0,g1,g2,g3,g4,g5,g6,g7,g8,g9,j0,j1,j2,j3,j4,j5,j6,j7,j8,j9,k0,k1,k2,k3,k4,k5,k6,k7,k8,k9,l0,l1,l2,l3,l4,l5,l6,l7], h) = (a_mov (.v (.int .u64 8)) h (.c (fun t13 h1 => Q .normal ([a0,a1,a2,a3,a4,a5,a6,a7,a8,a9,b0,b1,b2,t13,b4,b5,b6,b7,b8,b9,d0,d1,d2,d3,d4,d5,d6,d7,d8,d9,e0,e1,e2,e3,e4,e5,e6,e7,e8,e9,f0,f1,f2,f3,f4,f5,f6,f7,f8,f9,g0,g1,g2,g3,g4,g5,g6,g7,g8,g9,j0,j1,j2,j3,j4,j5,j6,j7,j8,j9,k0,k1,k2,k3,k4,k5,k6,k7,k8,k9,l0,l1,l2,l3,l4,l5,l6,l7], h1)) ())) := by rw [awp_eq]; kernel_rfl
noncomputable def c11_34 : Code := cr c11_32
noncomputable def c11_35 : Code := cl c11_34
noncomputable def c11_36 : Code := cl c11_35
theorem w11_36 : awp X n c11_36 Q ([a0,a1,a2,a3,a4,a5,a6,a7,a8,a9,b0,b1,b2,b3,b4,b5,b6,b7,b8,b9,d0,d1,d2,d3,d4,d5,d6,d7,d8,d9,e0,e1,e2,e3,e4,e5,e6,e7,e8,e9,f0,f1,f2,f3,f4,f5,f6,f7,f8,f9,g0,g1,g2,g3,g4,g5,g6,g7,g8,g9,j0,j1,j2,j3,j4,j5,j6,j7,j8,j9,k0,k1,k2,k3,k4,k5,k6,k7,k8,k9,l0,l1,l2,l3,l4,l5,l6,l7], h) = (a_mov a1 h (.c (fun t43 h1 => a_un .not t43 h1 (.c (fun t44 h2 => Q .normal ([a0,a1,a2,a3,a4,a5,a6,a7,a8,a9,b0,b1,b2,b3,b4,b5,b6,b7,b8,b9,d0,d1,d2,d3,d4,d5,d6,d7,d8,d9,e0,e1,e2,e3,e4,e5,e6,e7,e8,e9,f0,f1,f2,t43,t44,f5,f6,f7,f8,f9,g0,g1,g2,g3,g4,g5,g6,g7,g8,g9,j0,j1,j2,j3,j4,j5,j6,j7,j8,j9,k0,k1,k2,k3,k4,k5,k6,k7,k8,k9,l0,l1,l2,l3,l4,l5,l6,l7], h2)) ())) ())) := by rw [awp_eq]; kernel_rfl
noncomputable def c11_37 : Code := cr c11_35
noncomputable def c11_38 : Code := cl c11_37
noncomputable def c11_39 : Code := cl c11_38
theorem w11_39 : awp X n c11_39 Q ([a0,a1,a2,a3,a4,a5,a6,a7,a8,a9,b0,b1,b2,b3,b4,b5,b6,b7,b8,b9,d0,d1,d2,d3,d4,d5,d6,d7,d8,d9,e0,e1,e2,e3,e4,e5,e6,e7,e8,e9,f0,f1,f2,f3,f4,f5,f6,f7,f8,f9,g0,g1,g2,g3,g4,g5,g6,g7,g8,g9,j0,j1,j2,j3,j4,j5,j6,j7,j8,j9,k0,k1,k2,k3,k4,k5,k6,k7,k8,k9,l0,l1,l2,l3,l4,l5,l6,l7], h) = (a_mov a9 h (.c (fun t45 h1 => ACall X 22 [t45] h1 (.c (fun t46 h2 => a_mov t46 h2 (.c (fun t12 h3 => Q .normal ([a0,a1,a2,a3,a4,a5,a6,a7,a8,a9,b0,b1,t12,b3,b4,b5,b6,b7,b8,b9,d0,d1,d2,d3,d4,d5,d6,d7,d8,d9,e0,e1,e2,e3,e4,e5,e6,e7,e8,e9,f0,f1,f2,f3,f4,t45,t46,f7,f8,f9,g0,g1,g2,g3,g4,g5,g6,g7,g8,g9,j0,j1,j2,j3,j4,j5,j6,j7,j8,j9,k0,k1,k2,k3,k4,k5,k6,k7,k8,k9,l0,l1,l2,l3,l4,l5,l6,l7], h3)) ())) ())) ())) := by rw [awp_eq]; kernel_rfl
noncomputable def c11_40 : Code := cr c11_38
theorem w11_40 : awp X n c11_40 Q ([a0,a1,a2,a3,a4,a5,a6,a7,a8,a9,b0,b1,b2,b3,b4,b5,b6,b7,b8,b9,d0,d1,d2,d3,d4,d5,d6,d7,d8,d9,e0,e1,e2,e3,e4,e5,e6,e7,e8,e9,f0,f1,f2,f3,f4,f5,f6,f7,f8,f9,g0,g1,g2,g3,g4,g5,g6,g7,g8,g9,j0,j1,j2,j3,j4,j5,j6,j7,j8,j9,k0,k1,k2,k3,k4,k5,k6,k7,k8,k9,l0,l1,l2,l3,l4,l5,l6,l7], h) = (a_mov (.v (.int .u64 0)) h (.c (fun t13 h1 => Q .normal ([a0,a1,a2,a3,a4,a5,a6,a7,a8,a9,b0,b1,b2,t13,b4,b5,b6,b7,b8,b9,d0,d1,d2,d3,d4,d5,d6,d7,d8,d9,e0,e1,e2,e3,e4,e5,e6,e7,e8,e9,f0,f1,f2,f3,f4,f5,f6,f7,f8,f9,g0,g1,g2,g3,g4,g5,g6,g7,g8,g9,j0,j1,j2,j3,j4,j5,j6,j7,j8,j9,k0,k1,k2,k3,k4,k5,k6,k7,k8,k9,l0,l1,l2,l3,l4,l5,l6,l7], h1)) ())) := by rw [awp_eq]; kernel_rfl
theorem w11_38 : awp X n c11_38 Q st = awp X n c11_39 (thenQ (awp X n c11_40 Q) Q) st := by rw [awp_eq]; kernel_rfl
noncomputable def c11_41 : Code := cr c11_37
theorem w11_41 : awp X n c11_41 Q st = Q .normal st := by rw [awp_eq]; kernel_rfl
theorem w11_37 : awp X n c11_37 Q ([a0,a1,a2,a3,a4,a5,a6,a7,a8,a9,b0,b1,b2,b3,b4,b5,b6,b7,b8,b9,d0,d1,d2,d3,d4,d5,d6,d7,d8,d9,e0,e1,e2,e3,e4,e5,e6,e7,e8,e9,f0,f1,f2,f3,f4,f5,f6,f7,f8,f9,g0,g1,g2,g3,g4,g5,g6,g7,g8,g9,j0,j1,j2,j3,j4,j5,j6,j7,j8,j9,k0,k1,k2,k3,k4,k5,k6,k7,k8,k9,l0,l1,l2,l3,l4,l5,l6,l7], h) = a_cond f4 (awp X n c11_38 Q ([a0,a1,a2,a3,a4,a5,a6,a7,a8,a9,b0,b1,b2,b3,b4,b5,b6,b7,b8,b9,d0,d1,d2,d3,d4,d5,d6,d7,d8,d9,e0,e1,e2,e3,e4,e5,e6,e7,e8,e9,f0,f1,f2,f3,f4,f5,f6,f7,f8,f9,g0,g1,g2,g3,g4,g5,g6,g7,g8,g9,j0,j1,j2,j3,j4,j5,j6,j7,j8,j9,k0,k1,k2,k3,k4,k5,k6,k7,k8,k9,l0,l1,l2,l3,l4,l5,l6,l7], h)) (awp X n c11_41 Q ([a0,a1,a2,a3,a4,a5,a6,a7,a8,a9,b0,b1,b2,b3,b4,b5,b6,b7,b8,b9,d0,d1,d2,d3,d4,d5,d6,d7,d8,d9,e0,e1,e2,e3,e4,e5,e6,e7,e8,e9,f0,f1,f2,f3,f4,f5,f6,f7,f8,f9,g0,g1,g2,g3,g4,g5,g6,g7,g8,g9,j0,j1,j2,j3,j4,j5,j6,j7,j8,j9,k0,k1,k2,k3,k4,k5,k6,k7,k8,k9,l0,l1,l2,l3,l4,l5,l6,l7], h)) := by rw [awp_eq]; kernel_rfl
theorem w11_35 : awp X n c11_35 Q st = awp X n c11_36 (thenQ (awp X n c11_37 Q) Q) st := by rw [awp_eq]; kernel_rfl
noncomputable def c11_42 : Code := cr c11_34
noncomputable def c11_43 : Code := cl c11_42
noncomputable def c11_44 : Code := cl c11_43
theorem w11_44 : awp X n c11_44 Q ([a0,a1,a2,a3,a4,a5,a6,a7,a8,a9,b0,b1,b2,b3,b4,b5,b6,b7,b8,b9,d0,d1,d2,d3,d4,d5,d6,d7,d8,d9,e0,e1,e2,e3,e4,e5,e6,e7,e8,e9,f0,f1,f2,f3,f4,f5,f6,f7,f8,f9,g0,g1,g2,g3,g4,g5,g6,g7,g8,g9,j0,j1,j2,j3,j4,j5,j6,j7,j8,j9,k0,k1,k2,k3,k4,k5,k6,k7,k8,k9,l0,l1,l2,l3,l4,l5,l6,l7], h) = (a_mov b0 h (.c (fun t47 h1 => a_bin .neq t47 (.v (.int .u64 5)) h1 (.c (fun t48 h2 => a_mov t48 h2 (.c (fun t49 h3 => a_on t49 false (fun k => a_mov b1 h3 k) h3 (.c (fun t50 h4 => a_on t49 false (fun k => a_mov b3 h4 k) h4 (.c (fun t51 h5 => a_on t49 false (fun k => a_bin .neq t50 t51 h5 k) h5 (.c (fun t52 h6 => a_pick t49 (.v (.bool true)) t52 h6 (.c (fun t53 h7 => Q .normal ([a0,a1,a2,a3,a4,a5,a6,a7,a8,a9,b0,b1,b2,b3,b4,b5,b6,b7,b8,b9,d0,d1,d2,d3,d4,d5,d6,d7,d8,d9,e0,e1,e2,e3,e4,e5,e6,e7,e8,e9,f0,f1,f2,f3,f4,f5,f6,t47,t48,t49,t50,t51,t52,t53,g4,g5,g6,g7,g8,g9,j0,j1,j2,j3,j4,j5,j6,j7,j8,j9,k0,k1,k2,k3,k4,k5,k6,k7,k8,k9,l0,l1,l2,l3,l4,l5,l6,l7], h7)) ())) ())) ())) ())) ())) ())) ())) := by rw [awp_eq]; kernel_rfl
noncomputable def c11_45 : Code := cr c11_43
noncomputable def c11_46 : Code := cl c11_45
noncomputable def c11_47 : Code := cl c11_46
theorem w11_47 : awp X n c11_47 Q ([a0,a1,a2,a3,a4,a5,a6,a7,a8,a9,b0,b1,b2,b3,b4,b5,b6,b7,b8,b9,d0,d1,d2,d3,d4,d5,d6,d7,d8,d9,e0,e1,e2,e3,e4,e5,e6,e7,e8,e9,f0,f1,f2,f3,f4,f5,f6,f7,f8,f9,g0,g1,g2,g3,g4,g5,g6,g7,g8,g9,j0,j1,j2,j3,j4,j5,j6,j7,j8,j9,k0,k1,k2,k3,k4,k5,k6,k7,k8,k9,l0,l1,l2,l3,l4,l5,l6,l7], h) = (a_mov (.v (.slice none 0 0)) h (.c (fun t4 h1 => a_mov (.v (.int .i64 42)) h1 (.c (fun t5 h2 => Q .normal ([a0,a1,a2,a3,t4,t5,a6,a7,a8,a9,b0,b1,b2,b3,b4,b5,b6,b7,b8,b9,d0,d1,d2,d3,d4,d5,d6,d7,d8,d9,e0,e1,e2,e3,e4,e5,e6,e7,e8,e9,f0,f1,f2,f3,f4,f5,f6,f7,f8,f9,g0,g1,g2,g3,g4,g5,g6,g7,g8,g9,j0,j1,j2,j3,j4,j5,j6,j7,j8,j9,k0,k1,k2,k3,k4,k5,k6,k7,k8,k9,l0,l1,l2,l3,l4,l5,l6,l7], h2)) ())) ())) := by rw [awp_eq]; kernel_rfl
noncomputable def c11_48 : Code := cr c11_46
theorem w11_48 : awp X n c11_48 Q st = Q .ret st := by rw [awp_eq]; kernel_rfl
theorem w11_46 : awp X n c11_46 Q st = awp X n c11_47 (thenQ (awp X n c11_48 Q) Q) st := by rw [awp_eq]; kernel_rfl
noncomputable def c11_49 : Code := cr c11_45
theorem w11_49 : awp X n c11_49 Q st = Q .normal st := by rw [awp_eq]; kernel_rfl
theorem w11_45 : awp X n c11_45 Q ([a0,a1,a2,a3,a4,a5,a6,a7,a8,a9,b0,b1,b2,b3,b4,b5,b6,b7,b8,b9,d0,d1,d2,d3,d4,d5,d6,d7,d8,d9,e0,e1,e2,e3,e4,e5,e6,e7,e8,e9,f0,f1,f2,f3,f4,f5,f6,f7,f8,f9,g0,g1,g2,g3,g4,g5,g6,g7,g8,g9,j0,j1,j2,j3,j4,j5,j6,j7,j8,j9,k0,k1,k2,k3,k4,k5,k6,k7,k8,k9,l0,l1,l2,l3,l4,l5,l6,l7], h) = a_cond g3 (awp X n c11_46 Q ([a0,a1,a2,a3,a4,a5,a6,a7,a8,a9,b0,b1,b2,b3,b4,b5,b6,b7,b8,b9,d0,d1,d2,d3,d4,d5,d6,d7,d8,d9,e0,e1,e2,e3,e4,e5,e6,e7,e8,e9,f0,f1,f2,f3,f4,f5,f6,f7,f8,f9,g0,g1,g2,g3,g4,g5,g6,g7,g8,g9,j0,j1,j2,j3,j4,j5,j6,j7,j8,j9,k0,k1,k2,k3,k4,k5,k6,k7,k8,k9,l0,l1,l2,l3,l4,l5,l6,l7], h)) (awp X n c11_49 Q ([a0,a1,a2,a3,a4,a5,a6,a7,a8,a9,b0,b1,b2,b3,b4,b5,b6,b7,b8,b9,d0,d1,d2,d3,d4,d5,d6,d7,d8,d9,e0,e1,e2,e3,e4,e5,e6,e7,e8,e9,f0,f1,f2,f3,f4,f5,f6,f7,f8,f9,g0,g1,g2,g3,g4,g5,g6,g7,g8,g9,j0,j1,j2,j3,j4,j5,j6,j7,j8,j9,k0,k1,k2,k3,k4,k5,k6,k7,k8,k9,l0,l1,l2,l3,l4,l5,l6,l7], h)) := by rw [awp_eq]; kernel_rfl
theorem w11_43 : awp X n c11_43 Q st = awp X n c11_44 (thenQ (awp X n c11_45 Q) Q) st := by rw [awp_eq]; kernel_rfl
noncomputable def c11_50 : Code := cr c11_42
noncomputable def c11_51 : Code := cl c11_50
noncomputable def c11_52 : Code := cl c11_51
theorem w11_52 : awp X n c11_52 Q ([a0,a1,a2,a3,a4,a5,a6,a7,a8,a9,b0,b1,b2,b3,b4,b5,b6,b7,b8,b9,d0,d1,d2,d3,d4,d5,d6,d7,d8,d9,e0,e1,e2,e3,e4,e5,e6,e7,e8,e9,f0,f1,f2,f3,f4,f5,f6,f7,f8,f9,g0,g1,g2,g3,g4,g5,g6,g7,g8,g9,j0,j1,j2,j3,j4,j5,j6,j7,j8,j9,k0,k1,k2,k3,k4,k5,k6,k7,k8,k9,l0,l1,l2,l3,l4,l5,l6,l7], h) = (a_mov a8 h (.c (fun t54 h1 => ACall X 30 [t54] h1 (.c (fun t55 h2 => a_mov b2 h2 (.c (fun t56 h3 => a_bin .rem t55 t56 h3 (.c (fun t57 h4 => a_bin .gtr t57 (.v (.int .i64 0)) h4 (.c (fun t58 h5 => Q .normal ([a0,a1,a2,a3,a4,a5,a6,a7,a8,a9,b0,b1,b2,b3,b4,b5,b6,b7,b8,b9,d0,d1,d2,d3,d4,d5,d6,d7,d8,d9,e0,e1,e2,e3,e4,e5,e6,e7,e8,e9,f0,f1,f2,f3,f4,f5,f6,f7,f8,f9,g0,g1,g2,g3,t54,t55,t56,t57,t58,g9,j0,j1,j2,j3,j4,j5,j6,j7,j8,j9,k0,k1,k2,k3,k4,k5,k6,k7,k8,k9,l0,l1,l2,l3,l4,l5,l6,l7], h5)) ())) ())) ())) ())) ())) := by rw [awp_eq]; kernel_rfl
noncomputable def c11_53 : Code := cr c11_51
noncomputable def c11_54 : Code := cl c11_53
noncomputable def c11_55 : Code := cl c11_54
theorem w11_55 : awp X n c11_55 Q ([a0,a1,a2,a3,a4,a5,a6,a7,a8,a9,b0,b1,b2,b3,b4,b5,b6,b7,b8,b9,d0,d1,d2,d3,d4,d5,d6,d7,d8,d9,e0,e1,e2,e3,e4,e5,e6,e7,e8,e9,f0,f1,f2,f3,f4,f5,f6,f7,f8,f9,g0,g1,g2,g3,g4,g5,g6,g7,g8,g9,j0,j1,j2,j3,j4,j5,j6,j7,j8,j9,k0,k1,k2,k3,k4,k5,k6,k7,k8,k9,l0,l1,l2,l3,l4,l5,l6,l7], h) = (a_mov (.v (.slice none 0 0)) h (.c (fun t4 h1 => a_mov (.v (.int .i64 10)) h1 (.c (fun t5 h2 => Q .normal ([a0,a1,a2,a3,t4,t5,a6,a7,a8,a9,b0,b1,b2,b3,b4,b5,b6,b7,b8,b9,d0,d1,d2,d3,d4,d5,d6,d7,d8,d9,e0,e1,e2,e3,e4,e5,e6,e7,e8,e9,f0,f1,f2,f3,f4,f5,f6,f7,f8,f9,g0,g1,g2,g3,g4,g5,g6,g7,g8,g9,j0,j1,j2,j3,j4,j5,j6,j7,j8,j9,k0,k1,k2,k3,k4,k5,k6,k7,k8,k9,l0,l1,l2,l3,l4,l5,l6,l7], h2)) ())) ())) := by rw [awp_eq]; kernel_rfl
noncomputable def c11_56 : Code := cr c11_54
theorem w11_56 : awp X n c11_56 Q st = Q .ret st := by rw [awp_eq]; kernel_rfl
theorem w11_54 : awp X n c11_54 Q st = awp X n c11_55 (thenQ (awp X n c11_56 Q) Q) st := by rw [awp_eq]; kernel_rfl
noncomputable def c11_57 : Code := cr c11_53
theorem w11_57 : awp X n c11_57 Q st = Q .normal st := by rw [awp_eq]; kernel_rfl
theorem w11_53 : awp X n c11_53 Q ([a0,a1,a2,a3,a4,a5,a6,a7,a8,a9,b0,b1,b2,b3,b4,b5,b6,b7,b8,b9,d0,d1,d2,d3,d4,d5,d6,d7,d8,d9,e0,e1,e2,e3,e4,e5,e6,e7,e8,e9,f0,f1,f2,f3,f4,f5,f6,f7,f8,f9,g0,g1,g2,g3,g4,g5,g6,g7,g8,g9,j0,j1,j2,j3,j4,j5,j6,j7,j8,j9,k0,k1,k2,k3,k4,k5,k6,k7,k8,k9,l0,l1,l2,l3,l4,l5,l6,l7], h) = a_cond g8 (awp X n c11_54 Q ([a0,a1,a2,a3,a4,a5,a6,a7,a8,a9,b0,b1,b2,b3,b4,b5,b6,b7,b8,b9,d0,d1,d2,d3,d4,d5,d6,d7,d8,d9,e0,e1,e2,e3,e4,e5,e6,e7,e8,e9,f0,f1,f2,f3,f4,f5,f6,f7,f8,f9,g0,g1,g2,g3,g4,g5,g6,g7,g8,g9,j0,j1,j2,j3,j4,j5,j6,j7,j8,j9,k0,k1,k2,k3,k4,k5,k6,k7,k8,k9,l0,l1,l2,l3,l4,l5,l6,l7], h)) (awp X n c11_57 Q ([a0,a1,a2,a3,a4,a5,a6,a7,a8,a9,b0,b1,b2,b3,b4,b5,b6,b7,b8,b9,d0,d1,d2,d3,d4,d5,d6,d7,d8,d9,e0,e1,e2,e3,e4,e5,e6,e7,e8,e9,f0,f1,f2,f3,f4,f5,f6,f7,f8,f9,g0,g1,g2,g3,g4,g5,g6,g7,g8,g9,j0,j1,j2,j3,j4,j5,j6,j7,j8,j9,k0,k1,k2,k3,k4,k5,k6,k7,k8,k9,l0,l1,l2,l3,l4,l5,l6,l7], h)) := by rw [awp_eq]; kernel_rfl
theorem w11_51 : awp X n c11_51 Q st = awp X n c11_52 (thenQ (awp X n c11_53 Q) Q) st := by rw [awp_eq]; kernel_rfl
noncomputable def c11_58 : Code := cr c11_50
noncomputable def c11_59 : Code := cl c11_58
theorem w11_59 : awp X n c11_59 Q ([a0,a1,a2,a3,a4,a5,a6,a7,a8,a9,b0,b1,b2,b3,b4,b5,b6,b7,b8,b9,d0,d1,d2,d3,d4,d5,d6,d7,d8,d9,e0,e1,e2,e3,e4,e5,e6,e7,e8,e9,f0,f1,f2,f3,f4,f5,f6,f7,f8,f9,g0,g1,g2,g3,g4,g5,g6,g7,g8,g9,j0,j1,j2,j3,j4,j5,j6,j7,j8,j9,k0,k1,k2,k3,k4,k5,k6,k7,k8,k9,l0,l1,l2,l3,l4,l5,l6,l7], h) = (a_mov a9 h (.c (fun t59 h1 => a_mov a6 h1 (.c (fun t60 h2 => a_nilc t60 h2 (.c (fun t61 h3 => a_fa 1 t61 h3 (.c (fun t62 h4 => a_load 1 false t62 h4 (.c (fun t63 h5 => a_mov a8 h5 (.c (fun t64 h6 => (ACall X 30 [t64] h6 (.c (fun t65 h7 => conj [a_load 1 false t62 h7 (.c (fun v_ _ => v_ = t63) ())] ∧ (a_bin .sub t63 t65 h7 (.c (fun t66 h8 => a_cint .u64 t66 h8 (.c (fun t67 h9 => a_build [.v (.bool false), .v (.int .u64 0), .v (.slice none 0 0)] [(0, 1, t59), (1, 1, t67)] h9 (.c (fun t68 h10 => a_alloc [.v (.bool false), .v (.int .u64 0), .v (.slice none 0 0)] h10 (.c (fun t14 h11 => conj [a_load 1 false t62 h11 (.c (fun v_ _ => v_ = t63) ())] ∧ (a_store 3 t14 t68 h11 (.c (fun _v11 h12 => conj [] ∧ (Q .normal ([a0,a1,a2,a3,a4,a5,a6,a7,a8,a9,b0,b1,b2,b3,t14,b5,b6,b7,b8,b9,d0,d1,d2,d3,d4,d5,d6,d7,d8,d9,e0,e1,e2,e3,e4,e5,e6,e7,e8,e9,f0,f1,f2,f3,f4,f5,f6,f7,f8,f9,g0,g1,g2,g3,g4,g5,g6,g7,g8,t59,t60,t61,t62,t63,t64,t65,t66,t67,t68,j9,k0,k1,k2,k3,k4,k5,k6,k7,k8,k9,l0,l1,l2,l3,l4,l5,l6,l7], h12))) ()))) ())) ())) ())) ()))) ())) ∧ (a_alloc [.v (.bool false), .v (.int .u64 0), .v (.slice none 0 0)] h6 (.c (fun t14 h7 => conj [a_load 1 false t62 h7 (.c (fun v_ _ => v_ = t63) ())] ∧ (ACall X 30 [t64] h7 (.c (fun t65 h8 => conj [a_load 1 false t62 h8 (.c (fun v_ _ => v_ = t63) ())] ∧ (a_bin .sub t63 t65 h8 (.c (fun t66 h9 => a_cint .u64 t66 h9 (.c (fun t67 h10 => a_build [.v (.bool false), .v (.int .u64 0), .v (.slice none 0 0)] [(0, 1, t59), (1, 1, t67)] h10 (.c (fun t68 h11 => a_store 3 t14 t68 h11 (.c (fun _v11 h12 => conj [] ∧ (Q .normal ([a0,a1,a2,a3,a4,a5,a6,a7,a8,a9,b0,b1,b2,b3,t14,b5,b6,b7,b8,b9,d0,d1,d2,d3,d4,d5,d6,d7,d8,d9,e0,e1,e2,e3,e4,e5,e6,e7,e8,e9,f0,f1,f2,f3,f4,f5,f6,f7,f8,f9,g0,g1,g2,g3,g4,g5,g6,g7,g8,t59,t60,t61,t62,t63,t64,t65,t66,t67,t68,j9,k0,k1,k2,k3,k4,k5,k6,k7,k8,k9,l0,l1,l2,l3,l4,l5,l6,l7], h12))) ())) ())) ())) ()))) ()))) ()))) ())) ())) ())) ())) ())) ())) := by rw [awp_eq]; kernel_rfl
noncomputable def c11_60 : Code := cr c11_58
noncomputable def c11_61 : Code := cl c11_60
noncomputable def c11_62 : Code := cl c11_61
noncomputable def c11_63 : Code := cl c11_62
noncomputable def c11_64 : Code := cl c11_63
noncomputable def c11_65 : Code := cl c11_64
theorem w11_65 : awp X n c11_65 Q ([a0,a1,a2,a3,a4,a5,a6,a7,a8,a9,b0,b1,b2,b3,b4,b5,b6,b7,b8,b9,d0,d1,d2,d3,d4,d5,d6,d7,d8,d9,e0,e1,e2,e3,e4,e5,e6,e7,e8,e9,f0,f1,f2,f3,f4,f5,f6,f7,f8,f9,g0,g1,g2,g3,g4,g5,g6,g7,g8,g9,j0,j1,j2,j3,j4,j5,j6,j7,j8,j9,k0,k1,k2,k3,k4,k5,k6,k7,k8,k9,l0,l1,l2,l3,l4,l5,l6,l7], h) = (a_mov a8 h (.c (fun t69 h1 => ACall X 30 [t69] h1 (.c (fun t70 h2 => a_bin .gtr t70 (.v (.int .i64 0)) h2 (.c (fun t71 h3 => Q .normal ([a0,a1,a2,a3,a4,a5,a6,a7,a8,a9,b0,b1,b2,b3,b4,b5,b6,b7,b8,b9,d0,d1,d2,d3,d4,d5,d6,d7,d8,d9,e0,e1,e2,e3,e4,e5,e6,e7,e8,e9,f0,f1,f2,f3,f4,f5,f6,f7,f8,f9,g0,g1,g2,g3,g4,g5,g6,g7,g8,g9,j0,j1,j2,j3,j4,j5,j6,j7,j8,t69,t70,t71,k2,k3,k4,k5,k6,k7,k8,k9,l0,l1,l2,l3,l4,l5,l6,l7], h3)) ())) ())) ())) := by rw [awp_eq]; kernel_rfl
noncomputable def c11_66 : Code := cr c11_64
noncomputable def c11_67 : Code := cl c11_66
theorem w11_67 : awp X n c11_67 Q st = Q .normal st := by rw [awp_eq]; kernel_rfl
noncomputable def c11_68 : Code := cr c11_66
theorem w11_68 : awp X n c11_68 Q st = Q (.exit 2) st := by rw [awp_eq]; kernel_rfl
theorem w11_66 : awp X n c11_66 Q ([a0,a1,a2,a3,a4,a5,a6,a7,a8,a9,b0,b1,b2,b3,b4,b5,b6,b7,b8,b9,d0,d1,d2,d3,d4,d5,d6,d7,d8,d9,e0,e1,e2,e3,e4,e5,e6,e7,e8,e9,f0,f1,f2,f3,f4,f5,f6,f7,f8,f9,g0,g1,g2,g3,g4,g5,g6,g7,g8,g9,j0,j1,j2,j3,j4,j5,j6,j7,j8,j9,k0,k1,k2,k3,k4,k5,k6,k7,k8,k9,l0,l1,l2,l3,l4,l5,l6,l7], h) = a_cond k1 (awp X n c11_67 Q ([a0,a1,a2,a3,a4,a5,a6,a7,a8,a9,b0,b1,b2,b3,b4,b5,b6,b7,b8,b9,d0,d1,d2,d3,d4,d5,d6,d7,d8,d9,e0,e1,e2,e3,e4,e5,e6,e7,e8,e9,f0,f1,f2,f3,f4,f5,f6,f7,f8,f9,g0,g1,g2,g3,g4,g5,g6,g7,g8,g9,j0,j1,j2,j3,j4,j5,j6,j7,j8,j9,k0,k1,k2,k3,k4,k5,k6,k7,k8,k9,l0,l1,l2,l3,l4,l5,l6,l7], h)) (awp X n c11_68 Q ([a0,a1,a2,a3,a4,a5,a6,a7,a8,a9,b0,b1,b2,b3,b4,b5,b6,b7,b8,b9,d0,d1,d2,d3,d4,d5,d6,d7,d8,d9,e0,e1,e2,e3,e4,e5,e6,e7,e8,e9,f0,f1,f2,f3,f4,f5,f6,f7,f8,f9,g0,g1,g2,g3,g4,g5,g6,g7,g8,g9,j0,j1,j2,j3,j4,j5,j6,j7,j8,j9,k0,k1,k2,k3,k4,k5,k6,k7,k8,k9,l0,l1,l2,l3,l4,l5,l6,l7], h)) := by rw [awp_eq]; kernel_rfl
theorem w11_64 : awp X n c11_64 Q st = awp X n c11_65 (thenQ (awp X n c11_66 Q) Q) st := by rw [awp_eq]; kernel_rfl
noncomputable def c11_69 : Code := cr c11_63
noncomputable def c11_70 : Code := cl c11_69
theorem w11_70 : awp X n c11_70 Q ([a0,a1,a2,a3,a4,a5,a6,a7,a8,a9,b0,b1,b2,b3,b4,b5,b6,b7,b8,b9,d0,d1,d2,d3,d4,d5,d6,d7,d8,d9,e0,e1,e2,e3,e4,e5,e6,e7,e8,e9,f0,f1,f2,f3,f4,f5,f6,f7,f8,f9,g0,g1,g2,g3,g4,g5,g6,g7,g8,g9,j0,j1,j2,j3,j4,j5,j6,j7,j8,j9,k0,k1,k2,k3,k4,k5,k6,k7,k8,k9,l0,l1,l2,l3,l4,l5,l6,l7], h) = (a_fa 2 b4 h (.c (fun t72 h1 => a_load 1 false t72 h1 (.c (fun t73 h2 => a_mov a8 h2 (.c (fun t74 h3 => a_mov b2 h3 (.c (fun t75 h4 => ACall X 29 [t74, t75] h4 (.c (fun t76 h5 => conj [a_load 1 false t72 h5 (.c (fun v_ _ => v_ = t73) ())] ∧ (a_lit 1 1 [.v (.int .u64 0)] [(0, 1, t76)] h5 (.c (fun t77 h6 => conj [a_load 1 false t72 h6 (.c (fun v_ _ => v_ = t73) ())] ∧ (a_app 1 8 t73 t77 h6 (.c (fun t78 h7 => conj [] ∧ (a_fa 2 b4 h7 (.c (fun t79 h8 => a_store 1 t79 t78 h8 (.c (fun _v8 h9 => conj [] ∧ (Q .normal ([a0,a1,a2,a3,a4,a5,a6,a7,a8,a9,b0,b1,b2,b3,b4,b5,b6,b7,b8,b9,d0,d1,d2,d3,d4,d5,d6,d7,d8,d9,e0,e1,e2,e3,e4,e5,e6,e7,e8,e9,f0,f1,f2,f3,f4,f5,f6,f7,f8,f9,g0,g1,g2,g3,g4,g5,g6,g7,g8,g9,j0,j1,j2,j3,j4,j5,j6,j7,j8,j9,k0,k1,t72,t73,t74,t75,t76,t77,t78,t79,l0,l1,l2,l3,l4,l5,l6,l7], h9))) ())) ()))) ()))) ()))) ())) ())) ())) ())) ())) := by rw [awp_eq]; kernel_rfl
theorem w11_69 : awp X n c11_69 Q st = awp X n c11_70 (blockQ 3 Q) st := by rw [awp_eq]; kernel_rfl
theorem w11_63 : awp X n c11_63 Q st = awp X n c11_64 (thenQ (awp X n c11_69 Q) Q) st := by rw [awp_eq]; kernel_rfl
theorem w11_62 : awp X n c11_62 Q st = ALoop X n c11_63 Q st := by rw [awp_eq]; kernel_rfl
theorem w11_61 : awp X n c11_61 Q st = awp X n c11_62 (blockQ 2 Q) st := by rw [awp_eq]; kernel_rfl
noncomputable def c11_71 : Code := cr c11_60
noncomputable def c11_72 : Code := cl c11_71
theorem w11_72 : awp X n c11_72 Q ([a0,a1,a2,a3,a4,a5,a6,a7,a8,a9,b0,b1,b2,b3,b4,b5,b6,b7,b8,b9,d0,d1,d2,d3,d4,d5,d6,d7,d8,d9,e0,e1,e2,e3,e4,e5,e6,e7,e8,e9,f0,f1,f2,f3,f4,f5,f6,f7,f8,f9,g0,g1,g2,g3,g4,g5,g6,g7,g8,g9,j0,j1,j2,j3,j4,j5,j6,j7,j8,j9,k0,k1,k2,k3,k4,k5,k6,k7,k8,k9,l0,l1,l2,l3,l4,l5,l6,l7], h) = (a_mov a7 h (.c (fun t80 h1 => a_load 3 true b4 h1 (.c (fun t81 h2 => a_lit 3 1 [.v (.bool false), .v (.int .u64 0), .v (.slice none 0 0)] [(0, 3, t81)] h2 (.c (fun t82 h3 => a_app 3 40 t80 t82 h3 (.c (fun t83 h4 => a_mov t83 h4 (.c (fun t7 h5 => Q .normal ([a0,a1,a2,a3,a4,a5,a6,t7,a8,a9,b0,b1,b2,b3,b4,b5,b6,b7,b8,b9,d0,d1,d2,d3,d4,d5,d6,d7,d8,d9,e0,e1,e2,e3,e4,e5,e6,e7,e8,e9,f0,f1,f2,f3,f4,f5,f6,f7,f8,f9,g0,g1,g2,g3,g4,g5,g6,g7,g8,g9,j0,j1,j2,j3,j4,j5,j6,j7,j8,j9,k0,k1,k2,k3,k4,k5,k6,k7,k8,k9,t80,t81,t82,t83,l4,l5,l6,l7], h5)) ())) ())) ())) ())) ())) := by rw [awp_eq]; kernel_rfl
noncomputable def c11_73 : Code := cr c11_71
noncomputable def c11_74 : Code := cl c11_73
theorem w11_74 : awp X n c11_74 Q ([a0,a1,a2,a3,a4,a5,a6,a7,a8,a9,b0,b1,b2,b3,b4,b5,b6,b7,b8,b9,d0,d1,d2,d3,d4,d5,d6,d7,d8,d9,e0,e1,e2,e3,e4,e5,e6,e7,e8,e9,f0,f1,f2,f3,f4,f5,f6,f7,f8,f9,g0,g1,g2,g3,g4,g5,g6,g7,g8,g9,j0,j1,j2,j3,j4,j5,j6,j7,j8,j9,k0,k1,k2,k3,k4,k5,k6,k7,k8,k9,l0,l1,l2,l3,l4,l5,l6,l7], h) = (a_mov a7 h (.c (fun t84 h1 => a_len t84 h1 (.c (fun t85 h2 => a_bin .gtr t85 (.v (.int .i64 60)) h2 (.c (fun t86 h3 => Q .normal ([a0,a1,a2,a3,a4,a5,a6,a7,a8,a9,b0,b1,b2,b3,b4,b5,b6,b7,b8,b9,d0,d1,d2,d3,d4,d5,d6,d7,d8,d9,e0,e1,e2,e3,e4,e5,e6,e7,e8,e9,f0,f1,f2,f3,f4,f5,f6,f7,f8,f9,g0,g1,g2,g3,g4,g5,g6,g7,g8,g9,j0,j1,j2,j3,j4,j5,j6,j7,j8,j9,k0,k1,k2,k3,k4,k5,k6,k7,k8,k9,l0,l1,l2,l3,t84,t85,t86,l7], h3)) ())) ())) ())) := by rw [awp_eq]; kernel_rfl
noncomputable def c11_75 : Code := cr c11_73
noncomputable def c11_76 : Code := cl c11_75
noncomputable def c11_77 : Code := cl c11_76
theorem w11_77 : awp X n c11_77 Q ([a0,a1,a2,a3,a4,a5,a6,a7,a8,a9,b0,b1,b2,b3,b4,b5,b6,b7,b8,b9,d0,d1,d2,d3,d4,d5,d6,d7,d8,d9,e0,e1,e2,e3,e4,e5,e6,e7,e8,e9,f0,f1,f2,f3,f4,f5,f6,f7,f8,f9,g0,g1,g2,g3,g4,g5,g6,g7,g8,g9,j0,j1,j2,j3,j4,j5,j6,j7,j8,j9,k0,k1,k2,k3,k4,k5,k6,k7,k8,k9,l0,l1,l2,l3,l4,l5,l6,l7], h) = (a_mov (.v (.slice none 0 0)) h (.c (fun t4 h1 => a_mov (.v (.int .i64 3)) h1 (.c (fun t5 h2 => Q .normal ([a0,a1,a2,a3,t4,t5,a6,a7,a8,a9,b0,b1,b2,b3,b4,b5,b6,b7,b8,b9,d0,d1,d2,d3,d4,d5,d6,d7,d8,d9,e0,e1,e2,e3,e4,e5,e6,e7,e8,e9,f0,f1,f2,f3,f4,f5,f6,f7,f8,f9,g0,g1,g2,g3,g4,g5,g6,g7,g8,g9,j0,j1,j2,j3,j4,j5,j6,j7,j8,j9,k0,k1,k2,k3,k4,k5,k6,k7,k8,k9,l0,l1,l2,l3,l4,l5,l6,l7], h2)) ())) ())) := by rw [awp_eq]; kernel_rfl
noncomputable def c11_78 : Code := cr c11_76
theorem w11_78 : awp X n c11_78 Q st = Q .ret st := by rw [awp_eq]; kernel_rfl
theorem w11_76 : awp X n c11_76 Q st = awp X n c11_77 (thenQ (awp X n c11_78 Q) Q) st := by rw [awp_eq]; kernel_rfl
noncomputable def c11_79 : Code := cr c11_75
theorem w11_79 : awp X n c11_79 Q st = Q .normal st := by rw [awp_eq]; kernel_rfl
theorem w11_75 : awp X n c11_75 Q ([a0,a1,a2,a3,a4,a5,a6,a7,a8,a9,b0,b1,b2,b3,b4,b5,b6,b7,b8,b9,d0,d1,d2,d3,d4,d5,d6,d7,d8,d9,e0,e1,e2,e3,e4,e5,e6,e7,e8,e9,f0,f1,f2,f3,f4,f5,f6,f7,f8,f9,g0,g1,g2,g3,g4,g5,g6,g7,g8,g9,j0,j1,j2,j3,j4,j5,j6,j7,j8,j9,k0,k1,k2,k3,k4,k5,k6,k7,k8,k9,l0,l1,l2,l3,l4,l5,l6,l7], h) = a_cond l6 (awp X n c11_76 Q ([a0,a1,a2,a3,a4,a5,a6,a7,a8,a9,b0,b1,b2,b3,b4,b5,b6,b7,b8,b9,d0,d1,d2,d3,d4,d5,d6,d7,d8,d9,e0,e1,e2,e3,e4,e5,e6,e7,e8,e9,f0,f1,f2,f3,f4,f5,f6,f7,f8,f9,g0,g1,g2,g3,g4,g5,g6,g7,g8,g9,j0,j1,j2,j3,j4,j5,j6,j7,j8,j9,k0,k1,k2,k3,k4,k5,k6,k7,k8,k9,l0,l1,l2,l3,l4,l5,l6,l7], h)) (awp X n c11_79 Q ([a0,a1,a2,a3,a4,a5,a6,a7,a8,a9,b0,b1,b2,b3,b4,b5,b6,b7,b8,b9,d0,d1,d2,d3,d4,d5,d6,d7,d8,d9,e0,e1,e2,e3,e4,e5,e6,e7,e8,e9,f0,f1,f2,f3,f4,f5,f6,f7,f8,f9,g0,g1,g2,g3,g4,g5,g6,g7,g8,g9,j0,j1,j2,j3,j4,j5,j6,j7,j8,j9,k0,k1,k2,k3,k4,k5,k6,k7,k8,k9,l0,l1,l2,l3,l4,l5,l6,l7], h)) := by rw [awp_eq]; kernel_rfl
theorem w11_73 : awp X n c11_73 Q st = awp X n c11_74 (thenQ (awp X n c11_75 Q) Q) st := by rw [awp_eq]; kernel_rfl
theorem w11_71 : awp X n c11_71 Q st = awp X n c11_72 (thenQ (awp X n c11_73 Q) Q) st := by rw [awp_eq]; kernel_rfl
theorem w11_60 : awp X n c11_60 Q st = awp X n c11_61 (thenQ (awp X n c11_71 Q) Q) st := by rw [awp_eq]; kernel_rfl
theorem w11_58 : awp X n c11_58 Q st = awp X n c11_59 (thenQ (awp X n c11_60 Q) Q) st := by rw [awp_eq]; kernel_rfl
theorem w11_50 : awp X n c11_50 Q st = awp X n c11_51 (thenQ (awp X n c11_58 Q) Q) st := by rw [awp_eq]; kernel_rfl
theorem w11_42 : awp X n c11_42 Q st = awp X n c11_43 (thenQ (awp X n c11_50 Q) Q) st := by rw [awp_eq]; kernel_rfl
theorem w11_34 : awp X n c11_34 Q st = awp X n c11_35 (thenQ (awp X n c11_42 Q) Q) st := by rw [awp_eq]; kernel_rfl
theorem w11_32 : awp X n c11_32 Q st = awp X n c11_33 (thenQ (awp X n c11_34 Q) Q) st := by rw [awp_eq]; kernel_rfl
theorem w11_30 : awp X n c11_30 Q st = awp X n c11_31 (thenQ (awp X n c11_32 Q) Q) st := by rw [awp_eq]; kernel_rfl
theorem w11_22 : awp X n c11_22 Q st = awp X n c11_23 (thenQ (awp X n c11_30 Q) Q) st := by rw [awp_eq]; kernel_rfl
theorem w11_20 : awp X n c11_20 Q st = awp X n c11_21 (thenQ (awp X n c11_22 Q) Q) st := by rw [awp_eq]; kernel_rfl
theorem w11_18 : awp X n c11_18 Q st = awp X n c11_19 (thenQ (awp X n c11_20 Q) Q) st := by rw [awp_eq]; kernel_rfl
theorem w11_16 : awp X n c11_16 Q st = awp X n c11_17 (thenQ (awp X n c11_18 Q) Q) st := by rw [awp_eq]; kernel_rfl
theorem w11_15 : awp X n c11_15 Q st = awp X n c11_16 (blockQ 1 Q) st := by rw [awp_eq]; kernel_rfl
theorem w11_9 : awp X n c11_9 Q st = awp X n c11_10 (thenQ (awp X n c11_15 Q) Q) st := by rw [awp_eq]; kernel_rfl
theorem w11_8 : awp X n c11_8 Q st = ALoop X n c11_9 Q st := by rw [awp_eq]; kernel_rfl
theorem w11_7 : awp X n c11_7 Q st = awp X n c11_8 (blockQ 0 Q) st := by rw [awp_eq]; kernel_rfl
noncomputable def c11_80 : Code := cr c11_6
noncomputable def c11_81 : Code := cl c11_80
theorem w11_81 : awp X n c11_81 Q ([a0,a1,a2,a3,a4,a5,a6,a7,a8,a9,b0,b1,b2,b3,b4,b5,b6,b7,b8,b9,d0,d1,d2,d3,d4,d5,d6,d7,d8,d9,e0,e1,e2,e3,e4,e5,e6,e7,e8,e9,f0,f1,f2,f3,f4,f5,f6,f7,f8,f9,g0,g1,g2,g3,g4,g5,g6,g7,g8,g9,j0,j1,j2,j3,j4,j5,j6,j7,j8,j9,k0,k1,k2,k3,k4,k5,k6,k7,k8,k9,l0,l1,l2,l3,l4,l5,l6,l7], h) = (a_mov a7 h (.c (fun t87 h1 => a_mov t87 h1 (.c (fun t4 h2 => a_mov (.v (.int .i64 0)) h2 (.c (fun t5 h3 => Q .normal ([a0,a1,a2,a3,t4,t5,a6,a7,a8,a9,b0,b1,b2,b3,b4,b5,b6,b7,b8,b9,d0,d1,d2,d3,d4,d5,d6,d7,d8,d9,e0,e1,e2,e3,e4,e5,e6,e7,e8,e9,f0,f1,f2,f3,f4,f5,f6,f7,f8,f9,g0,g1,g2,g3,g4,g5,g6,g7,g8,g9,j0,j1,j2,j3,j4,j5,j6,j7,j8,j9,k0,k1,k2,k3,k4,k5,k6,k7,k8,k9,l0,l1,l2,l3,l4,l5,l6,t87], h3)) ())) ())) ())) := by rw [awp_eq]; kernel_rfl
noncomputable def c11_82 : Code := cr c11_80
theorem w11_82 : awp X n c11_82 Q st = Q .ret st := by rw [awp_eq]; kernel_rfl
theorem w11_80 : awp X n c11_80 Q st = awp X n c11_81 (thenQ (awp X n c11_82 Q) Q) st := by rw [awp_eq]; kernel_rfl
theorem w11_6 : awp X n c11_6 Q st = awp X n c11_7 (thenQ (awp X n c11_80 Q) Q) st := by rw [awp_eq]; kernel_rfl
theorem w11_4 : awp X n c11_4 Q st = awp X n c11_5 (thenQ (awp X n c11_6 Q) Q) st := by rw [awp_eq]; kernel_rfl
theorem w11_2 : awp X n c11_2 Q st = awp X n c11_3 (thenQ (awp X n c11_4 Q) Q) st := by rw [awp_eq]; kernel_rfl
theorem w11_0 : awp X n c11_0 Q st = awp X n c11_1 (thenQ (awp X n c11_2 Q) Q) st := by rw [awp_eq]; kernel_rfl
theorem q11_ret : retQ X Tryd.f11 K .ret ([a0,a1,a2,a3,a4,a5,a6,a7,a8,a9,b0,b1,b2,b3,b4,b5,b6,b7,b8,b9,d0,d1,d2,d3,d4,d5,d6,d7,d8,d9,e0,e1,e2,e3,e4,e5,e6,e7,e8,e9,f0,f1,f2,f3,f4,f5,f6,f7,f8,f9,g0,g1,g2,g3,g4,g5,g6,g7,g8,g9,j0,j1,j2,j3,j4,j5,j6,j7,j8,j9,k0,k1,k2,k3,k4,k5,k6,k7,k8,k9,l0,l1,l2,l3,l4,l5,l6,l7], h) = (K.K (.t [a4, a5]) h) := by kernel_rfl
theorem q11_normal : retQ X Tryd.f11 K .normal ([a0,a1,a2,a3,a4,a5,a6,a7,a8,a9,b0,b1,b2,b3,b4,b5,b6,b7,b8,b9,d0,d1,d2,d3,d4,d5,d6,d7,d8,d9,e0,e1,e2,e3,e4,e5,e6,e7,e8,e9,f0,f1,f2,f3,f4,f5,f6,f7,f8,f9,g0,g1,g2,g3,g4,g5,g6,g7,g8,g9,j0,j1,j2,j3,j4,j5,j6,j7,j8,j9,k0,k1,k2,k3,k4,k5,k6,k7,k8,k9,l0,l1,l2,l3,l4,l5,l6,l7], h) = (K.K (.t [a4, a5]) h) := by kernel_rfl
theorem i11 (H : awp X h.length c11_0 (retQ X Tryd.f11 K) ([a0,a1,.bad,.bad,.bad,.bad,.bad,.bad,.bad,.bad,.bad,.bad,.bad,.bad,.bad,.bad,.bad,.bad,.bad,.bad,.bad,.bad,.bad,.bad,.bad,.bad,.bad,.bad,.bad,.bad,.bad,.bad,.bad,.bad,.bad,.bad,.bad,.bad,.bad,.bad,.bad,.bad,.bad,.bad,.bad,.bad,.bad,.bad,.bad,.bad,.bad,.bad,.bad,.bad,.bad,.bad,.bad,.bad,.bad,.bad,.bad,.bad,.bad,.bad,.bad,.bad,.bad,.bad,.bad,.bad,.bad,.bad,.bad,.bad,.bad,.bad,.bad,.bad,.bad,.bad,.bad,.bad,.bad,.bad,.bad,.bad,.bad,.bad], h)) : ACall X 11 [a0, a1] h K := acall_intro (fn := Tryd.f11) (by kernel_rfl) (by kernel_rfl) (by kernel_rfl) H
noncomputable def R11 := And.intro (And.intro (And.intro (And.intro (And.intro (And.intro w11_1 w11_3) (And.intro (w11_5) (And.intro w11_11 w11_13))) (And.intro (And.intro w11_14 w11_12) (And.intro (w11_10) (And.intro w11_17 w11_19)))) (And.intro (And.intro (And.intro w11_21 w11_24) (And.intro (w11_27) (And.intro w11_28 w11_26))) (And.intro (And.intro (w11_29) (And.intro w11_25 w11_23)) (And.intro (w11_31) (And.intro w11_33 w11_36))))) (And.intro (And.intro (And.intro (And.intro w11_39 w11_40) (And.intro (w11_38) (And.intro w11_41 w11_37))) (And.intro (And.intro w11_35 w11_44) (And.intro (w11_47) (And.intro w11_48 w11_46)))) (And.intro (And.intro (And.intro w11_49 w11_45) (And.intro (w11_43) (And.intro w11_52 w11_55))) (And.intro (And.intro (w11_56) (And.intro w11_54 w11_57)) (And.intro (w11_53) (And.intro w11_51 w11_59)))))) (And.intro (And.intro (And.intro (And.intro (And.intro w11_65 w11_67) (And.intro (w11_68) (And.intro w11_66 w11_64))) (And.intro (And.intro w11_70 w11_69) (And.intro (w11_63) (And.intro w11_62 w11_61)))) (And.intro (And.intro (And.intro w11_72 w11_74) (And.intro (w11_77) (And.intro w11_78 w11_76))) (And.intro (And.intro (w11_79) (And.intro w11_75 w11_73)) (And.intro (w11_71) (And.intro w11_60 w11_58))))) (And.intro (And.intro (And.intro (And.intro w11_50 w11_42) (And.intro (w11_34) (And.intro w11_32 w11_30))) (And.intro (And.intro (w11_22) (And.intro w11_20 w11_18)) (And.intro (w11_16) (And.intro w11_15 w11_9)))) (And.intro (And.intro (And.intro w11_8 w11_7) (And.intro (w11_81) (And.intro w11_82 w11_80))) (And.intro (And.intro (w11_6) (And.intro w11_4 w11_2)) (And.intro (w11_0) (And.intro q11_ret q11_normal))))))
/-! function 12: sindri/tables.Addrs -/
noncomputable def c12_0 : Code := bodyOf Tryd.f12
noncomputable def c12_1 : Code := cl c12_0
theorem w12_1 : awp X n c12_1 Q ([a0,a1,a2,a3,a4,a5,a6,a7], h) = (a_mov (.v (.slice none 0 0)) h (.c (fun t2 h1 => a_mov (.v (.int .i64 0)) h1 (.c (fun t3 h2 => Q .normal ([a0,a1,t2,t3,a4,a5,a6,a7], h2)) ())) ())) := by rw [awp_eq]; kernel_rfl
noncomputable def c12_2 : Code := cr c12_0
noncomputable def c12_3 : Code := cl c12_2
theorem w12_3 : awp X n c12_3 Q ([a0,a1,a2,a3,a4,a5,a6,a7], h) = (a_mov a0 h (.c (fun t4 h1 => ACall X 25 [t4, (.f (.func 31) [] []), (.f (.func 33) [] [])] h1 (.c (fun t5 h2 => a_ext 0 t5 h2 (.c (fun t6 h3 => a_ext 1 t5 h3 (.c (fun t7 h4 => a_mov t6 h4 (.c (fun t2 h5 => a_mov t7 h5 (.c (fun t3 h6 => Q .normal ([a0,a1,t2,t3,t4,t5,t6,t7], h6)) ())) ())) ())) ())) ())) ())) := by rw [awp_eq]; kernel_rfl
noncomputable def c12_4 : Code := cr c12_2
theorem w12_4 : awp X n c12_4 Q st = Q .ret st := by rw [awp_eq]; kernel_rfl
theorem w12_2 : awp X n c12_2 Q st = awp X n c12_3 (thenQ (awp X n c12_4 Q) Q) st := by rw [awp_eq]; kernel_rfl
theorem w12_0 : awp X n c12_0 Q st = awp X n c12_1 (thenQ (awp X n c12_2 Q) Q) st := by rw [awp_eq]; kernel_rfl
theorem q12_ret : retQ X Tryd.f12 K .ret ([a0,a1,a2,a3,a4,a5,a6,a7], h) = (K.K (.t [a2, a3]) h) := by kernel_rfl
theorem q12_normal : retQ X Tryd.f12 K .normal ([a0,a1,a2,a3,a4,a5,a6,a7], h) = (K.K (.t [a2, a3]) h) := by kernel_rfl
theorem i12 (H : awp X h.length c12_0 (retQ X Tryd.f12 K) ([a0,.bad,.bad,.bad,.bad,.bad,.bad,.bad], h)) : ACall X 12 [a0] h K := acall_intro (fn := Tryd.f12) (by kernel_rfl) (by kernel_rfl) (by kernel_rfl) H
noncomputable def R12 := And.intro (And.intro (w12_1) (And.intro w12_3 w12_4)) (And.intro (And.intro w12_2 w12_0) (And.intro q12_ret q12_normal))
/-! function 13: sindri/sindriref16.Same -/
noncomputable def c13_0 : Code := bodyOf Tryd.f13
noncomputable def c13_1 : Code := cl c13_0
theorem w13_1 : awp X n c13_1 Q ([a0,a1,a2,a3,a4,a5,a6,a7,a8,a9,b0,b1,b2,b3,b4,b5,b6,b7,b8,b9,d0,d1,d2,d3,d4,d5,d6,d7,d8,d9,e0,e1,e2,e3,e4,e5,e6,e7,e8,e9,f0,f1,f2,f3,f4,f5,f6,f7,f8,f9,g0,g1,g2,g3,g4,g5,g6,g7,g8,g9,j0,j1,j2,j3,j4,j5,j6,j7,j8,j9,k0,k1,k2,k3,k4,k5,k6,k7,k8,k9,l0,l1,l2,l3], h) = (a_mov (.v (.bool false)) h (.c (fun t4 h1 => Q .normal ([a0,a1,a2,a3,t4,a5,a6,a7,a8,a9,b0,b1,b2,b3,b4,b5,b6,b7,b8,b9,d0,d1,d2,d3,d4,d5,d6,d7,d8,d9,e0,e1,e2,e3,e4,e5,e6,e7,e8,e9,f0,f1,f2,f3,f4,f5,f6,f7,f8,f9,g0,g1,g2,g3,g4,g5,g6,g7,g8,g9,j0,j1,j2,j3,j4,j5,j6,j7,j8,j9,k0,k1,k2,k3,k4,k5,k6,k7,k8,k9,l0,l1,l2,l3], h1)) ())) := by rw [awp_eq]; kernel_rfl
noncomputable def c13_2 : Code := cr c13_0
noncomputable def c13_3 : Code := cl c13_2
noncomputable def c13_4 : Code := cl c13_3
theorem w13_4 : awp X n c13_4 Q ([a0,a1,a2,a3,a4,a5,a6,a7,a8,a9,b0,b1,b2,b3,b4,b5,b6,b7,b8,b9,d0,d1,d2,d3,d4,d5,d6,d7,d8,d9,e0,e1,e2,e3,e4,e5,e6,e7,e8,e9,f0,f1,f2,f3,f4,f5,f6,f7,f8,f9,g0,g1,g2,g3,g4,g5,g6,g7,g8,g9,j0,j1,j2,j3,j4,j5,j6,j7,j8,j9,k0,k1,k2,k3,k4,k5,k6,k7,k8,k9,l0,l1,l2,l3], h) = (a_mov a0 h (.c (fun t7 h1 => a_len t7 h1 (.c (fun t8 h2 => a_mov a1 h2 (.c (fun t9 h3 => a_len t9 h3 (.c (fun t10 h4 => a_bin .neq t8 t10 h4 (.c (fun t11 h5 => Q .normal ([a0,a1,a2,a3,a4,a5,a6,t7,t8,t9,t10,t11,b2,b3,b4,b5,b6,b7,b8,b9,d0,d1,d2,d3,d4,d5,d6,d7,d8,d9,e0,e1,e2,e3,e4,e5,e6,e7,e8,e9,f0,f1,f2,f3,f4,f5,f6,f7,f8,f9,g0,g1,g2,g3,g4,g5,g6,g7,g8,g9,j0,j1,j2,j3,j4,j5,j6,j7,j8,j9,k0,k1,k2,k3,k4,k5,k6,k7,k8,k9,l0,l1,l2,l3], h5)) ())) ())) ())) ())) ())) := by rw [awp_eq]; kernel_rfl
noncomputable def c13_5 : Code := cr c13_3
noncomputable def c13_6 : Code := cl c13_5
noncomputable def c13_7 : Code := cl c13_6
theorem w13_7 : awp X n c13_7 Q ([a0,a1,a2,a3,a4,a5,a6,a7,a8,a9,b0,b1,b2,b3,b4,b5,b6,b7,b8,b9,d0,d1,d2,d3,d4,d5,d6,d7,d8,d9,e0,e1,e2,e3,e4,e5,e6,e7,e8,e9,f0,f1,f2,f3,f4,f5,f6,f7,f8,f9,g0,g1,g2,g3,g4,g5,g6,g7,g8,g9,j0,j1,j2,j3,j4,j5,j6,j7,j8,j9,k0,k1,k2,k3,k4,k5,k6,k7,k8,k9,l0,l1,l2,l3], h) = (a_mov (.v (.bool false)) h (.c (fun t4 h1 => Q .normal ([a0,a1,a2,a3,t4,a5,a6,a7,a8,a9,b0,b1,b2,b3,b4,b5,b6,b7,b8,b9,d0,d1,d2,d3,d4,d5,d6,d7,d8,d9,e0,e1,e2,e3,e4,e5,e6,e7,e8,e9,f0,f1,f2,f3,f4,f5,f6,f7,f8,f9,g0,g1,g2,g3,g4,g5,g6,g7,g8,g9,j0,j1,j2,j3,j4,j5,j6,j7,j8,j9,k0,k1,k2,k3,k4,k5,k6,k7,k8,k9,l0,l1,l2,l3], h1)) ())) := by rw [awp_eq]; kernel_rfl
noncomputable def c13_8 : Code := cr c13_6
theorem w13_8 : awp X n c13_8 Q st = Q .ret st := by rw [awp_eq]; kernel_rfl
theorem w13_6 : awp X n c13_6 Q st = awp X n c13_7 (thenQ (awp X n c13_8 Q) Q) st := by rw [awp_eq]; kernel_rfl
noncomputable def c13_9 : Code := cr c13_5
theorem w13_9 : awp X n c13_9 Q st = Q .normal st := by rw [awp_eq]; kernel_rfl
theorem w13_5 : awp X n c13_5 Q ([a0,a1,a2,a3,a4,a5,a6,a7,a8,a9,b0,b1,b2,b3,b4,b5,b6,b7,b8,b9,d0,d1,d2,d3,d4,d5,d6,d7,d8,d9,e0,e1,e2,e3,e4,e5,e6,e7,e8,e9,f0,f1,f2,f3,f4,f5,f6,f7,f8,f9,g0,g1,g2,g3,g4,g5,g6,g7,g8,g9,j0,j1,j2,j3,j4,j5,j6,j7,j8,j9,k0,k1,k2,k3,k4,k5,k6,k7,k8,k9,l0,l1,l2,l3], h) = a_cond b1 (awp X n c13_6 Q ([a0,a1,a2,a3,a4,a5,a6,a7,a8,a9,b0,b1,b2,b3,b4,b5,b6,b7,b8,b9,d0,d1,d2,d3,d4,d5,d6,d7,d8,d9,e0,e1,e2,e3,e4,e5,e6,e7,e8,e9,f0,f1,f2,f3,f4,f5,f6,f7,f8,f9,g0,g1,g2,g3,g4,g5,g6,g7,g8,g9,j0,j1,j2,j3,j4,j5,j6,j7,j8,j9,k0,k1,k2,k3,k4,k5,k6,k7,k8,k9,l0,l1,l2,l3], h)) (awp X n c13_9 Q ([a0,a1,a2,a3,a4,a5,a6,a7,a8,a9,b0,b1,b2,b3,b4,b5,b6,b7,b8,b9,d0,d1,d2,d3,d4,d5,d6,d7,d8,d9,e0,e1,e2,e3,e4,e5,e6,e7,e8,e9,f0,f1,f2,f3,f4,f5,f6,f7,f8,f9,g0,g1,g2,g3,g4,g5,g6,g7,g8,g9,j0,j1,j2,j3,j4,j5,j6,j7,j8,j9,k0,k1,k2,k3,k4,k5,k6,k7,k8,k9,l0,l1,l2,l3], h)) := by rw [awp_eq]; kernel_rfl
theorem w13_3 : awp X n c13_3 Q st = awp X n c13_4 (thenQ (awp X n c13_5 Q) Q) st := by rw [awp_eq]; kernel_rfl
noncomputable def c13_10 : Code := cr c13_2
noncomputable def c13_11 : Code := cl c13_10
noncomputable def c13_12 : Code := cl c13_11
theorem w13_12 : awp X n c13_12 Q ([a0,a1,a2,a3,a4,a5,a6,a7,a8,a9,b0,b1,b2,b3,b4,b5,b6,b7,b8,b9,d0,d1,d2,d3,d4,d5,d6,d7,d8,d9,e0,e1,e2,e3,e4,e5,e6,e7,e8,e9,f0,f1,f2,f3,f4,f5,f6,f7,f8,f9,g0,g1,g2,g3,g4,g5,g6,g7,g8,g9,j0,j1,j2,j3,j4,j5,j6,j7,j8,j9,k0,k1,k2,k3,k4,k5,k6,k7,k8,k9,l0,l1,l2,l3], h) = (a_mov (.v (.int .i64 0)) h (.c (fun t5 h1 => Q .normal ([a0,a1,a2,a3,a4,t5,a6,a7,a8,a9,b0,b1,b2,b3,b4,b5,b6,b7,b8,b9,d0,d1,d2,d3,d4,d5,d6,d7,d8,d9,e0,e1,e2,e3,e4,e5,e6,e7,e8,e9,f0,f1,f2,f3,f4,f5,f6,f7,f8,f9,g0,g1,g2,g3,g4,g5,g6,g7,g8,g9,j0,j1,j2,j3,j4,j5,j6,j7,j8,j9,k0,k1,k2,k3,k4,k5,k6,k7,k8,k9,l0,l1,l2,l3], h1)) ())) := by rw [awp_eq]; kernel_rfl
noncomputable def c13_13 : Code := cr c13_11
noncomputable def c13_14 : Code := cl c13_13
noncomputable def c13_15 : Code := cl c13_14
noncomputable def c13_16 : Code := cl c13_15
noncomputable def c13_17 : Code := cl c13_16
theorem w13_17 : awp X n c13_17 Q ([a0,a1,a2,a3,a4,a5,a6,a7,a8,a9,b0,b1,b2,b3,b4,b5,b6,b7,b8,b9,d0,d1,d2,d3,d4,d5,d6,d7,d8,d9,e0,e1,e2,e3,e4,e5,e6,e7,e8,e9,f0,f1,f2,f3,f4,f5,f6,f7,f8,f9,g0,g1,g2,g3,g4,g5,g6,g7,g8,g9,j0,j1,j2,j3,j4,j5,j6,j7,j8,j9,k0,k1,k2,k3,k4,k5,k6,k7,k8,k9,l0,l1,l2,l3], h) = (a_mov a5 h (.c (fun t12 h1 => a_mov a0 h1 (.c (fun t13 h2 => a_len t13 h2 (.c (fun t14 h3 => a_bin .lss t12 t14 h3 (.c (fun t15 h4 => Q .normal ([a0,a1,a2,a3,a4,a5,a6,a7,a8,a9,b0,b1,t12,t13,t14,t15,b6,b7,b8,b9,d0,d1,d2,d3,d4,d5,d6,d7,d8,d9,e0,e1,e2,e3,e4,e5,e6,e7,e8,e9,f0,f1,f2,f3,f4,f5,f6,f7,f8,f9,g0,g1,g2,g3,g4,g5,g6,g7,g8,g9,j0,j1,j2,j3,j4,j5,j6,j7,j8,j9,k0,k1,k2,k3,k4,k5,k6,k7,k8,k9,l0,l1,l2,l3], h4)) ())) ())) ())) ())) := by rw [awp_eq]; kernel_rfl
noncomputable def c13_18 : Code := cr c13_16
noncomputable def c13_19 : Code := cl c13_18
theorem w13_19 : awp X n c13_19 Q st = Q .normal st := by rw [awp_eq]; kernel_rfl
noncomputable def c13_20 : Code := cr c13_18
theorem w13_20 : awp X n c13_20 Q st = Q (.exit 0) st := by rw [awp_eq]; kernel_rfl
theorem w13_18 : awp X n c13_18 Q ([a0,a1,a2,a3,a4,a5,a6,a7,a8,a9,b0,b1,b2,b3,b4,b5,b6,b7,b8,b9,d0,d1,d2,d3,d4,d5,d6,d7,d8,d9,e0,e1,e2,e3,e4,e5,e6,e7,e8,e9,f0,f1,f2,f3,f4,f5,f6,f7,f8,f9,g0,g1,g2,g3,g4,g5,g6,g7,g8,g9,j0,j1,j2,j3,j4,j5,j6,j7,j8,j9,k0,k1,k2,k3,k4,k5,k6,k7,k8,k9,l0,l1,l2,l3], h) = a_cond b5 (awp X n c13_19 Q ([a0,a1,a2,a3,a4,a5,a6,a7,a8,a9,b0,b1,b2,b3,b4,b5,b6,b7,b8,b9,d0,d1,d2,d3,d4,d5,d6,d7,d8,d9,e0,e1,e2,e3,e4,e5,e6,e7,e8,e9,f0,f1,f2,f3,f4,f5,f6,f7,f8,f9,g0,g1,g2,g3,g4,g5,g6,g7,g8,g9,j0,j1,j2,j3,j4,j5,j6,j7,j8,j9,k0,k1,k2,k3,k4,k5,k6,k7,k8,k9,l0,l1,l2,l3], h)) (awp X n c13_20 Q ([a0,a1,a2,a3,a4,a5,a6,a7,a8,a9,b0,b1,b2,b3,b4,b5,b6,b7,b8,b9,d0,d1,d2,d3,d4,d5,d6,d7,d8,d9,e0,e1,e2,e3,e4,e5,e6,e7,e8,e9,f0,f1,f2,f3,f4,f5,f6,f7,f8,f9,g0,g1,g2,g3,g4,g5,g6,g7,g8,g9,j0,j1,j2,j3,j4,j5,j6,j7,j8,j9,k0,k1,k2,k3,k4,k5,k6,k7,k8,k9,l0,l1,l2,l3], h)) := by rw [awp_eq]; kernel_rfl
theorem w13_16 : awp X n c13_16 Q st = awp X n c13_17 (thenQ (awp X n c13_18 Q) Q) st := by rw [awp_eq]; kernel_rfl
noncomputable def c13_21 : Code := cr c13_15
noncomputable def c13_22 : Code := cl c13_21
noncomputable def c13_23 : Code := cl c13_22
noncomputable def c13_24 : Code := cl c13_23
noncomputable def c13_25 : Code := cl c13_24
theorem w13_25 : awp X n c13_25 Q ([a0,a1,a2,a3,a4,a5,a6,a7,a8,a9,b0,b1,b2,b3,b4,b5,b6,b7,b8,b9,d0,d1,d2,d3,d4,d5,d6,d7,d8,d9,e0,e1,e2,e3,e4,e5,e6,e7,e8,e9,f0,f1,f2,f3,f4,f5,f6,f7,f8,f9,g0,g1,g2,g3,g4,g5,g6,g7,g8,g9,j0,j1,j2,j3,j4,j5,j6,j7,j8,j9,k0,k1,k2,k3,k4,k5,k6,k7,k8,k9,l0,l1,l2,l3], h) = (a_mov a0 h (.c (fun t18 h1 => a_mov a5 h1 (.c (fun t19 h2 => a_ia 3 t18 t19 h2 (.c (fun t20 h3 => a_fa 0 t20 h3 (.c (fun t21 h4 => a_load 1 false t21 h4 (.c (fun t22 h5 => a_mov a1 h5 (.c (fun t23 h6 => a_mov a5 h6 (.c (fun t24 h7 => a_ia 3 t23 t24 h7 (.c (fun t25 h8 => a_fa 0 t25 h8 (.c (fun t26 h9 => a_load 1 false t26 h9 (.c (fun t27 h10 => a_eqb true t22 t27 h10 (.c (fun t28 h11 => a_mov t28 h11 (.c (fun t29 h12 => a_on t29 false (fun k => a_mov a0 h12 k) h12 (.c (fun t30 h13 => a_on t29 false (fun k => a_mov a5 h13 k) h13 (.c (fun t31 h14 => a_on t29 false (fun k => a_ia 3 t30 t31 h14 k) h14 (.c (fun t32 h15 => a_on t29 false (fun k => a_fa 1 t32 h15 k) h15 (.c (fun t33 h16 => a_on t29 false (fun k => a_load 1 false t33 h16 k) h16 (.c (fun t34 h17 => a_on t29 false (fun k => a_mov a1 h17 k) h17 (.c (fun t35 h18 => a_on t29 false (fun k => a_mov a5 h18 k) h18 (.c (fun t36 h19 => a_on t29 false (fun k => a_ia 3 t35 t36 h19 k) h19 (.c (fun t37 h20 => a_on t29 false (fun k => a_fa 1 t37 h20 k) h20 (.c (fun t38 h21 => a_on t29 false (fun k => a_load 1 false t38 h21 k) h21 (.c (fun t39 h22 => a_on t29 false (fun k => a_bin .neq t34 t39 h22 k) h22 (.c (fun t40 h23 => a_pick t29 (.v (.bool true)) t40 h23 (.c (fun t41 h24 => a_mov t41 h24 (.c (fun t42 h25 => a_on t42 false (fun k => a_mov a0 h25 k) h25 (.c (fun t43 h26 => a_on t42 false (fun k => a_mov a5 h26 k) h26 (.c (fun t44 h27 => a_on t42 false (fun k => a_ia 3 t43 t44 h27 k) h27 (.c (fun t45 h28 => a_on t42 false (fun k => a_fa 2 t45 h28 k) h28 (.c (fun t46 h29 => a_on t42 false (fun k => a_load 1 false t46 h29 k) h29 (.c (fun t47 h30 => a_on t42 false (fun k => a_len t47 h30 k) h30 (.c (fun t48 h31 => a_on t42 false (fun k => a_mov a1 h31 k) h31 (.c (fun t49 h32 => a_on t42 false (fun k => a_mov a5 h32 k) h32 (.c (fun t50 h33 => a_on t42 false (fun k => a_ia 3 t49 t50 h33 k) h33 (.c (fun t51 h34 => a_on t42 false (fun k => a_fa 2 t51 h34 k) h34 (.c (fun t52 h35 => a_on t42 false (fun k => a_load 1 false t52 h35 k) h35 (.c (fun t53 h36 => a_on t42 false (fun k => a_len t53 h36 k) h36 (.c (fun t54 h37 => a_on t42 false (fun k => a_bin .neq t48 t54 h37 k) h37 (.c (fun t55 h38 => a_pick t42 (.v (.bool true)) t55 h38 (.c (fun t56 h39 => Q .normal ([a0,a1,a2,a3,a4,a5,a6,a7,a8,a9,b0,b1,b2,b3,b4,b5,b6,b7,t18,t19,t20,t21,t22,t23,t24,t25,t26,t27,t28,t29,t30,t31,t32,t33,t34,t35,t36,t37,t38,t39,t40,t41,t42,t43,t44,t45,t46,t47,t48,t49,t50,t51,t52,t53,t54,t55,t56,g7,g8,g9,j0,j1,j2,j3,j4,j5,j6,j7,j8,j9,k0,k1,k2,k3,k4,k5,k6,k7,k8,k9,l0,l1,l2,l3], h39)) ())) ())) ())) ())) ())) ())) ())) ())) ())) ())) ())) ())) ())) ())) ())) ())) ())) ())) ())) ())) ())) ())) ())) ())) ())) ())) ())) ())) ())) ())) ())) ())) ())) ())) ())) ())) ())) ())) ())) := by rw [awp_eq]; kernel_rfl
noncomputable def c13_26 : Code := cr c13_24
noncomputable def c13_27 : Code := cl c13_26
noncomputable def c13_28 : Code := cl c13_27
theorem w13_28 : awp X n c13_28 Q ([a0,a1,a2,a3,a4,a5,a6,a7,a8,a9,b0,b1,b2,b3,b4,b5,b6,b7,b8,b9,d0,d1,d2,d3,d4,d5,d6,d7,d8,d9,e0,e1,e2,e3,e4,e5,e6,e7,e8,e9,f0,f1,f2,f3,f4,f5,f6,f7,f8,f9,g0,g1,g2,g3,g4,g5,g6,g7,g8,g9,j0,j1,j2,j3,j4,j5,j6,j7,j8,j9,k0,k1,k2,k3,k4,k5,k6,k7,k8,k9,l0,l1,l2,l3], h) = (a_mov (.v (.bool false)) h (.c (fun t4 h1 => Q .normal ([a0,a1,a2,a3,t4,a5,a6,a7,a8,a9,b0,b1,b2,b3,b4,b5,b6,b7,b8,b9,d0,d1,d2,d3,d4,d5,d6,d7,d8,d9,e0,e1,e2,e3,e4,e5,e6,e7,e8,e9,f0,f1,f2,f3,f4,f5,f6,f7,f8,f9,g0,g1,g2,g3,g4,g5,g6,g7,g8,g9,j0,j1,j2,j3,j4,j5,j6,j7,j8,j9,k0,k1,k2,k3,k4,k5,k6,k7,k8,k9,l0,l1,l2,l3], h1)) ())) := by rw [awp_eq]; kernel_rfl
noncomputable def c13_29 : Code := cr c13_27
theorem w13_29 : awp X n c13_29 Q st = Q .ret st := by rw [awp_eq]; kernel_rfl
theorem w13_27 : awp X n c13_27 Q st = awp X n c13_28 (thenQ (awp X n c13_29 Q) Q) st := by rw [awp_eq]; kernel_rfl
noncomputable def c13_30 : Code := cr c13_26
theorem w13_30 : awp X n c13_30 Q st = Q .normal st := by rw [awp_eq]; kernel_rfl
theorem w13_26 : awp X n c13_26 Q ([a0,a1,a2,a3,a4,a5,a6,a7,a8,a9,b0,b1,b2,b3,b4,b5,b6,b7,b8,b9,d0,d1,d2,d3,d4,d5,d6,d7,d8,d9,e0,e1,e2,e3,e4,e5,e6,e7,e8,e9,f0,f1,f2,f3,f4,f5,f6,f7,f8,f9,g0,g1,g2,g3,g4,g5,g6,g7,g8,g9,j0,j1,j2,j3,j4,j5,j6,j7,j8,j9,k0,k1,k2,k3,k4,k5,k6,k7,k8,k9,l0,l1,l2,l3], h) = a_cond g6 (awp X n c13_27 Q ([a0,a1,a2,a3,a4,a5,a6,a7,a8,a9,b0,b1,b2,b3,b4,b5,b6,b7,b8,b9,d0,d1,d2,d3,d4,d5,d6,d7,d8,d9,e0,e1,e2,e3,e4,e5,e6,e7,e8,e9,f0,f1,f2,f3,f4,f5,f6,f7,f8,f9,g0,g1,g2,g3,g4,g5,g6,g7,g8,g9,j0,j1,j2,j3,j4,j5,j6,j7,j8,j9,k0,k1,k2,k3,k4,k5,k6,k7,k8,k9,l0,l1,l2,l3], h)) (awp X n c13_30 Q ([a0,a1,a2,a3,a4,a5,a6,a7,a8,a9,b0,b1,b2,b3,b4,b5,b6,b7,b8,b9,d0,d1,d2,d3,d4,d5,d6,d7,d8,d9,e0,e1,e2,e3,e4,e5,e6,e7,e8,e9,f0,f1,f2,f3,f4,f5,f6,f7,f8,f9,g0,g1,g2,g3,g4,g5,g6,g7,g8,g9,j0,j1,j2,j3,j4,j5,j6,j7,j8,j9,k0,k1,k2,k3,k4,k5,k6,k7,k8,k9,l0,l1,l2,l3], h)) := by rw [awp_eq]; kernel_rfl
theorem w13_24 : awp X n c13_24 Q st = awp X n c13_25 (thenQ (awp X n c13_26 Q) Q) st := by rw [awp_eq]; kernel_rfl
noncomputable def c13_31 : Code := cr c13_23
noncomputable def c13_32 : Code := cl c13_31
theorem w13_32 : awp X n c13_32 Q ([a0,a1,a2,a3,a4,a5,a6,a7,a8,a9,b0,b1,b2,b3,b4,b5,b6,b7,b8,b9,d0,d1,d2,d3,d4,d5,d6,d7,d8,d9,e0,e1,e2,e3,e4,e5,e6,e7,e8,e9,f0,f1,f2,f3,f4,f5,f6,f7,f8,f9,g0,g1,g2,g3,g4,g5,g6,g7,g8,g9,j0,j1,j2,j3,j4,j5,j6,j7,j8,j9,k0,k1,k2,k3,k4,k5,k6,k7,k8,k9,l0,l1,l2,l3], h) = (a_mov (.v (.int .i64 0)) h (.c (fun t6 h1 => Q .normal ([a0,a1,a2,a3,a4,a5,t6,a7,a8,a9,b0,b1,b2,b3,b4,b5,b6,b7,b8,b9,d0,d1,d2,d3,d4,d5,d6,d7,d8,d9,e0,e1,e2,e3,e4,e5,e6,e7,e8,e9,f0,f1,f2,f3,f4,f5,f6,f7,f8,f9,g0,g1,g2,g3,g4,g5,g6,g7,g8,g9,j0,j1,j2,j3,j4,j5,j6,j7,j8,j9,k0,k1,k2,k3,k4,k5,k6,k7,k8,k9,l0,l1,l2,l3], h1)) ())) := by rw [awp_eq]; kernel_rfl
noncomputable def c13_33 : Code := cr c13_31
noncomputable def c13_34 : Code := cl c13_33
noncomputable def c13_35 : Code := cl c13_34
noncomputable def c13_36 : Code := cl c13_35
noncomputable def c13_37 : Code := cl c13_36
theorem w13_37 : awp X n c13_37 Q ([a0,a1,a2,a3,a4,a5,a6,a7,a8,a9,b0,b1,b2,b3,b4,b5,b6,b7,b8,b9,d0,d1,d2,d3,d4,d5,d6,d7,d8,d9,e0,e1,e2,e3,e4,e5,e6,e7,e8,e9,f0,f1,f2,f3,f4,f5,f6,f7,f8,f9,g0,g1,g2,g3,g4,g5,g6,g7,g8,g9,j0,j1,j2,j3,j4,j5,j6,j7,j8,j9,k0,k1,k2,k3,k4,k5,k6,k7,k8,k9,l0,l1,l2,l3], h) = (a_mov a6 h (.c (fun t57 h1 => a_mov a0 h1 (.c (fun t58 h2 => a_mov a5 h2 (.c (fun t59 h3 => a_ia 3 t58 t59 h3 (.c (fun t60 h4 => a_fa 2 t60 h4 (.c (fun t61 h5 => a_load 1 false t61 h5 (.c (fun t62 h6 => a_len t62 h6 (.c (fun t63 h7 => a_bin .lss t57 t63 h7 (.c (fun t64 h8 => Q .normal ([a0,a1,a2,a3,a4,a5,a6,a7,a8,a9,b0,b1,b2,b3,b4,b5,b6,b7,b8,b9,d0,d1,d2,d3,d4,d5,d6,d7,d8,d9,e0,e1,e2,e3,e4,e5,e6,e7,e8,e9,f0,f1,f2,f3,f4,f5,f6,f7,f8,f9,g0,g1,g2,g3,g4,g5,g6,t57,t58,t59,t60,t61,t62,t63,t64,j5,j6,j7,j8,j9,k0,k1,k2,k3,k4,k5,k6,k7,k8,k9,l0,l1,l2,l3], h8)) ())) ())) ())) ())) ())) ())) ())) ())) := by rw [awp_eq]; kernel_rfl
noncomputable def c13_38 : Code := cr c13_36
noncomputable def c13_39 : Code := cl c13_38
theorem w13_39 : awp X n c13_39 Q st = Q .normal st := by rw [awp_eq]; kernel_rfl
noncomputable def c13_40 : Code := cr c13_38
theorem w13_40 : awp X n c13_40 Q st = Q (.exit 2) st := by rw [awp_eq]; kernel_rfl
theorem w13_38 : awp X n c13_38 Q ([a0,a1,a2,a3,a4,a5,a6,a7,a8,a9,b0,b1,b2,b3,b4,b5,b6,b7,b8,b9,d0,d1,d2,d3,d4,d5,d6,d7,d8,d9,e0,e1,e2,e3,e4,e5,e6,e7,e8,e9,f0,f1,f2,f3,f4,f5,f6,f7,f8,f9,g0,g1,g2,g3,g4,g5,g6,g7,g8,g9,j0,j1,j2,j3,j4,j5,j6,j7,j8,j9,k0,k1,k2,k3,k4,k5,k6,k7,k8,k9,l0,l1,l2,l3], h) = a_cond j4 (awp X n c13_39 Q ([a0,a1,a2,a3,a4,a5,a6,a7,a8,a9,b0,b1,b2,b3,b4,b5,b6,b7,b8,b9,d0,d1,d2,d3,d4,d5,d6,d7,d8,d9,e0,e1,e2,e3,e4,e5,e6,e7,e8,e9,f0,f1,f2,f3,f4,f5,f6,f7,f8,f9,g0,g1,g2,g3,g4,g5,g6,g7,g8,g9,j0,j1,j2,j3,j4,j5,j6,j7,j8,j9,k0,k1,k2,k3,k4,k5,k6,k7,k8,k9,l0,l1,l2,l3], h)) (awp X n c13_40 Q ([a0,a1,a2,a3,a4,a5,a6,a7,a8,a9,b0,b1,b2,b3,b4,b5,b6,b7,b8,b9,d0,d1,d2,d3,d4,d5,d6,d7,d8,d9,e0,e1,e2,e3,e4,e5,e6,e7,e8,e9,f0,f1,f2,f3,f4,f5,f6,f7,f8,f9,g0,g1,g2,g3,g4,g5,g6,g7,g8,g9,j0,j1,j2,j3,j4,j5,j6,j7,j8,j9,k0,k1,k2,k3,k4,k5,k6,k7,k8,k9,l0,l1,l2,l3], h)) := by rw [awp_eq]; kernel_rfl
theorem w13_36 : awp X n c13_36 Q st = awp X n c13_37 (thenQ (awp X n c13_38 Q) Q) st := by rw [awp_eq]; kernel_rfl
noncomputable def c13_41 : Code := cr c13_35
noncomputable def c13_42 : Code := cl c13_41
noncomputable def c13_43 : Code := cl c13_42
noncomputable def c13_44 : Code := cl c13_43
theorem w13_44 : awp X n c13_44 Q ([a0,a1,a2,a3,a4,a5,a6,a7,a8,a9,b0,b1,b2,b3,b4,b5,b6,b7,b8,b9,d0,d1,d2,d3,d4,d5,d6,d7,d8,d9,e0,e1,e2,e3,e4,e5,e6,e7,e8,e9,f0,f1,f2,f3,f4,f5,f6,f7,f8,f9,g0,g1,g2,g3,g4,g5,g6,g7,g8,g9,j0,j1,j2,j3,j4,j5,j6,j7,j8,j9,k0,k1,k2,k3,k4,k5,k6,k7,k8,k9,l0,l1,l2,l3], h) = (a_mov a0 h (.c (fun t67 h1 => a_mov a5 h1 (.c (fun t68 h2 => a_ia 3 t67 t68 h2 (.c (fun t69 h3 => a_fa 2 t69 h3 (.c (fun t70 h4 => a_load 1 false t70 h4 (.c (fun t71 h5 => a_mov a6 h5 (.c (fun t72 h6 => a_ia 1 t71 t72 h6 (.c (fun t73 h7 => a_load 1 false t73 h7 (.c (fun t74 h8 => a_mov a1 h8 (.c (fun t75 h9 => a_mov a5 h9 (.c (fun t76 h10 => a_ia 3 t75 t76 h10 (.c (fun t77 h11 => a_fa 2 t77 h11 (.c (fun t78 h12 => a_load 1 false t78 h12 (.c (fun t79 h13 => a_mov a6 h13 (.c (fun t80 h14 => a_ia 1 t79 t80 h14 (.c (fun t81 h15 => a_load 1 false t81 h15 (.c (fun t82 h16 => a_bin .neq t74 t82 h16 (.c (fun t83 h17 => Q .normal ([a0,a1,a2,a3,a4,a5,a6,a7,a8,a9,b0,b1,b2,b3,b4,b5,b6,b7,b8,b9,d0,d1,d2,d3,d4,d5,d6,d7,d8,d9,e0,e1,e2,e3,e4,e5,e6,e7,e8,e9,f0,f1,f2,f3,f4,f5,f6,f7,f8,f9,g0,g1,g2,g3,g4,g5,g6,g7,g8,g9,j0,j1,j2,j3,j4,j5,j6,t67,t68,t69,t70,t71,t72,t73,t74,t75,t76,t77,t78,t79,t80,t81,t82,t83], h17)) ())) ())) ())) ())) ())) ())) ())) ())) ())) ())) ())) ())) ())) ())) ())) ())) ())) := by rw [awp_eq]; kernel_rfl
noncomputable def c13_45 : Code := cr c13_43
noncomputable def c13_46 : Code := cl c13_45
noncomputable def c13_47 : Code := cl c13_46
theorem w13_47 : awp X n c13_47 Q ([a0,a1,a2,a3,a4,a5,a6,a7,a8,a9,b0,b1,b2,b3,b4,b5,b6,b7,b8,b9,d0,d1,d2,d3,d4,d5,d6,d7,d8,d9,e0,e1,e2,e3,e4,e5,e6,e7,e8,e9,f0,f1,f2,f3,f4,f5,f6,f7,f8,f9,g0,g1,g2,g3,g4,g5,g6,g7,g8,g9,j0,j1,j2,j3,j4,j5,j6,j7,j8,j9,k0,k1,k2,k3,k4,k5,k6,k7,k8,k9,l0,l1,l2,l3], h) = (a_mov (.v (.bool false)) h (.c (fun t4 h1 => Q .normal ([a0,a1,a2,a3,t4,a5,a6,a7,a8,a9,b0,b1,b2,b3,b4,b5,b6,b7,b8,b9,d0,d1,d2,d3,d4,d5,d6,d7,d8,d9,e0,e1,e2,e3,e4,e5,e6,e7,e8,e9,f0,f1,f2,f3,f4,f5,f6,f7,f8,f9,g0,g1,g2,g3,g4,g5,g6,g7,g8,g9,j0,j1,j2,j3,j4,j5,j6,j7,j8,j9,k0,k1,k2,k3,k4,k5,k6,k7,k8,k9,l0,l1,l2,l3], h1)) ())) := by rw [awp_eq]; kernel_rfl
noncomputable def c13_48 : Code := cr c13_46
theorem w13_48 : awp X n c13_48 Q st = Q .ret st := by rw [awp_eq]; kernel_rfl
theorem w13_46 : awp X n c13_46 Q st = awp X n c13_47 (thenQ (awp X n c13_48 Q) Q) st := by rw [awp_eq]; kernel_rfl
noncomputable def c13_49 : Code := cr c13_45
theorem w13_49 : awp X n c13_49 Q st = Q .normal st := by rw [awp_eq]; kernel_rfl
theorem w13_45 : awp X n c13_45 Q ([a0,a1,a2,a3,a4,a5,a6,a7,a8,a9,b0,b1,b2,b3,b4,b5,b6,b7,b8,b9,d0,d1,d2,d3,d4,d5,d6,d7,d8,d9,e0,e1,e2,e3,e4,e5,e6,e7,e8,e9,f0,f1,f2,f3,f4,f5,f6,f7,f8,f9,g0,g1,g2,g3,g4,g5,g6,g7,g8,g9,j0,j1,j2,j3,j4,j5,j6,j7,j8,j9,k0,k1,k2,k3,k4,k5,k6,k7,k8,k9,l0,l1,l2,l3], h) = a_cond l3 (awp X n c13_46 Q ([a0,a1,a2,a3,a4,a5,a6,a7,a8,a9,b0,b1,b2,b3,b4,b5,b6,b7,b8,b9,d0,d1,d2,d3,d4,d5,d6,d7,d8,d9,e0,e1,e2,e3,e4,e5,e6,e7,e8,e9,f0,f1,f2,f3,f4,f5,f6,f7,f8,f9,g0,g1,g2,g3,g4,g5,g6,g7,g8,g9,j0,j1,j2,j3,j4,j5,j6,j7,j8,j9,k0,k1,k2,k3,k4,k5,k6,k7,k8,k9,l0,l1,l2,l3], h)) (awp X n c13_49 Q ([a0,a1,a2,a3,a4,a5,a6,a7,a8,a9,b0,b1,b2,b3,b4,b5,b6,b7,b8,b9,d0,d1,d2,d3,d4,d5,d6,d7,d8,d9,e0,e1,e2,e3,e4,e5,e6,e7,e8,e9,f0,f1,f2,f3,f4,f5,f6,f7,f8,f9,g0,g1,g2,g3,g4,g5,g6,g7,g8,g9,j0,j1,j2,j3,j4,j5,j6,j7,j8,j9,k0,k1,k2,k3,k4,k5,k6,k7,k8,k9,l0,l1,l2,l3], h)) := by rw [awp_eq]; kernel_rfl
theorem w13_43 : awp X n c13_43 Q st = awp X n c13_44 (thenQ (awp X n c13_45 Q) Q) st := by rw [awp_eq]; kernel_rfl
theorem w13_42 : awp X n c13_42 Q st = awp X n c13_43 (blockQ 3 Q) st := by rw [awp_eq]; kernel_rfl
noncomputable def c13_50 : Code := cr c13_41
theorem w13_50 : awp X n c13_50 Q ([a0,a1,a2,a3,a4,a5,a6,a7,a8,a9,b0,b1,b2,b3,b4,b5,b6,b7,b8,b9,d0,d1,d2,d3,d4,d5,d6,d7,d8,d9,e0,e1,e2,e3,e4,e5,e6,e7,e8,e9,f0,f1,f2,f3,f4,f5,f6,f7,f8,f9,g0,g1,g2,g3,g4,g5,g6,g7,g8,g9,j0,j1,j2,j3,j4,j5,j6,j7,j8,j9,k0,k1,k2,k3,k4,k5,k6,k7,k8,k9,l0,l1,l2,l3], h) = (a_mov a6 h (.c (fun t65 h1 => a_bin .add t65 (.v (.int .i64 1)) h1 (.c (fun t66 h2 => a_mov t66 h2 (.c (fun t6 h3 => Q .normal ([a0,a1,a2,a3,a4,a5,t6,a7,a8,a9,b0,b1,b2,b3,b4,b5,b6,b7,b8,b9,d0,d1,d2,d3,d4,d5,d6,d7,d8,d9,e0,e1,e2,e3,e4,e5,e6,e7,e8,e9,f0,f1,f2,f3,f4,f5,f6,f7,f8,f9,g0,g1,g2,g3,g4,g5,g6,g7,g8,g9,j0,j1,j2,j3,j4,t65,t66,j7,j8,j9,k0,k1,k2,k3,k4,k5,k6,k7,k8,k9,l0,l1,l2,l3], h3)) ())) ())) ())) := by rw [awp_eq]; kernel_rfl
theorem w13_41 : awp X n c13_41 Q st = awp X n c13_42 (thenQ (awp X n c13_50 Q) Q) st := by rw [awp_eq]; kernel_rfl
theorem w13_35 : awp X n c13_35 Q st = awp X n c13_36 (thenQ (awp X n c13_41 Q) Q) st := by rw [awp_eq]; kernel_rfl
theorem w13_34 : awp X n c13_34 Q st = ALoop X n c13_35 Q st := by rw [awp_eq]; kernel_rfl
theorem w13_33 : awp X n c13_33 Q st = awp X n c13_34 (blockQ 2 Q) st := by rw [awp_eq]; kernel_rfl
theorem w13_31 : awp X n c13_31 Q st = awp X n c13_32 (thenQ (awp X n c13_33 Q) Q) st := by rw [awp_eq]; kernel_rfl
theorem w13_23 : awp X n c13_23 Q st = awp X n c13_24 (thenQ (awp X n c13_31 Q) Q) st := by rw [awp_eq]; kernel_rfl
theorem w13_22 : awp X n c13_22 Q st = awp X n c13_23 (blockQ 1 Q) st := by rw [awp_eq]; kernel_rfl
noncomputable def c13_51 : Code := cr c13_21
theorem w13_51 : awp X n c13_51 Q ([a0,a1,a2,a3,a4,a5,a6,a7,a8,a9,b0,b1,b2,b3,b4,b5,b6,b7,b8,b9,d0,d1,d2,d3,d4,d5,d6,d7,d8,d9,e0,e1,e2,e3,e4,e5,e6,e7,e8,e9,f0,f1,f2,f3,f4,f5,f6,f7,f8,f9,g0,g1,g2,g3,g4,g5,g6,g7,g8,g9,j0,j1,j2,j3,j4,j5,j6,j7,j8,j9,k0,k1,k2,k3,k4,k5,k6,k7,k8,k9,l0,l1,l2,l3], h) = (a_mov a5 h (.c (fun t16 h1 => a_bin .add t16 (.v (.int .i64 1)) h1 (.c (fun t17 h2 => a_mov t17 h2 (.c (fun t5 h3 => Q .normal ([a0,a1,a2,a3,a4,t5,a6,a7,a8,a9,b0,b1,b2,b3,b4,b5,t16,t17,b8,b9,d0,d1,d2,d3,d4,d5,d6,d7,d8,d9,e0,e1,e2,e3,e4,e5,e6,e7,e8,e9,f0,f1,f2,f3,f4,f5,f6,f7,f8,f9,g0,g1,g2,g3,g4,g5,g6,g7,g8,g9,j0,j1,j2,j3,j4,j5,j6,j7,j8,j9,k0,k1,k2,k3,k4,k5,k6,k7,k8,k9,l0,l1,l2,l3], h3)) ())) ())) ())) := by rw [awp_eq]; kernel_rfl
theorem w13_21 : awp X n c13_21 Q st = awp X n c13_22 (thenQ (awp X n c13_51 Q) Q) st := by rw [awp_eq]; kernel_rfl
theorem w13_15 : awp X n c13_15 Q st = awp X n c13_16 (thenQ (awp X n c13_21 Q) Q) st := by rw [awp_eq]; kernel_rfl
theorem w13_14 : awp X n c13_14 Q st = ALoop X n c13_15 Q st := by rw [awp_eq]; kernel_rfl
theorem w13_13 : awp X n c13_13 Q st = awp X n c13_14 (blockQ 0 Q) st := by rw [awp_eq]; kernel_rfl
theorem w13_11 : awp X n c13_11 Q st = awp X n c13_12 (thenQ (awp X n c13_13 Q) Q) st := by rw [awp_eq]; kernel_rfl
noncomputable def c13_52 : Code := cr c13_10
noncomputable def c13_53 : Code := cl c13_52
theorem w13_53 : awp X n c13_53 Q ([a0,a1,a2,a3,a4,a5,a6,a7,a8,a9,b0,b1,b2,b3,b4,b5,b6,b7,b8,b9,d0,d1,d2,d3,d4,d5,d6,d7,d8,d9,e0,e1,e2,e3,e4,e5,e6,e7,e8,e9,f0,f1,f2,f3,f4,f5,f6,f7,f8,f9,g0,g1,g2,g3,g4,g5,g6,g7,g8,g9,j0,j1,j2,j3,j4,j5,j6,j7,j8,j9,k0,k1,k2,k3,k4,k5,k6,k7,k8,k9,l0,l1,l2,l3], h) = (a_mov (.v (.bool true)) h (.c (fun t4 h1 => Q .normal ([a0,a1,a2,a3,t4,a5,a6,a7,a8,a9,b0,b1,b2,b3,b4,b5,b6,b7,b8,b9,d0,d1,d2,d3,d4,d5,d6,d7,d8,d9,e0,e1,e2,e3,e4,e5,e6,e7,e8,e9,f0,f1,f2,f3,f4,f5,f6,f7,f8,f9,g0,g1,g2,g3,g4,g5,g6,g7,g8,g9,j0,j1,j2,j3,j4,j5,j6,j7,j8,j9,k0,k1,k2,k3,k4,k5,k6,k7,k8,k9,l0,l1,l2,l3], h1)) ())) := by rw [awp_eq]; kernel_rfl
noncomputable def c13_54 : Code := cr c13_52
theorem w13_54 : awp X n c13_54 Q st = Q .ret st := by rw [awp_eq]; kernel_rfl
theorem w13_52 : awp X n c13_52 Q st = awp X n c13_53 (thenQ (awp X n c13_54 Q) Q) st := by rw [awp_eq]; kernel_rfl
theorem w13_10 : awp X n c13_10 Q st = awp X n c13_11 (thenQ (awp X n c13_52 Q) Q) st := by rw [awp_eq]; kernel_rfl
theorem w13_2 : awp X n c13_2 Q st = awp X n c13_3 (thenQ (awp X n c13_10 Q) Q) st := by rw [awp_eq]; kernel_rfl
theorem w13_0 : awp X n c13_0 Q st = awp X n c13_1 (thenQ (awp X n c13_2 Q) Q) st := by rw [awp_eq]; kernel_rfl
theorem q13_ret : retQ X Tryd.f13 K .ret ([a0,a1,a2,a3,a4,a5,a6,a7,a8,a9,b0,b1,b2,b3,b4,b5,b6,b7,b8,b9,d0,d1,d2,d3,d4,d5,d6,d7,d8,d9,e0,e1,e2,e3,e4,e5,e6,e7,e8,e9,f0,f1,f2,f3,f4,f5,f6,f7,f8,f9,g0,g1,g2,g3,g4,g5,g6,g7,g8,g9,j0,j1,j2,j3,j4,j5,j6,j7,j8,j9,k0,k1,k2,k3,k4,k5,k6,k7,k8,k9,l0,l1,l2,l3], h) = (K.K a4 h) := by kernel_rfl
theorem q13_normal : retQ X Tryd.f13 K .normal ([a0,a1,a2,a3,a4,a5,a6,a7,a8,a9,b0,b1,b2,b3,b4,b5,b6,b7,b8,b9,d0,d1,d2,d3,d4,d5,d6,d7,d8,d9,e0,e1,e2,e3,e4,e5,e6,e7,e8,e9,f0,f1,f2,f3,f4,f5,f6,f7,f8,f9,g0,g1,g2,g3,g4,g5,g6,g7,g8,g9,j0,j1,j2,j3,j4,j5,j6,j7,j8,j9,k0,k1,k2,k3,k4,k5,k6,k7,k8,k9,l0,l1,l2,l3], h) = (K.K a4 h) := by kernel_rfl
theorem i13 (H : awp X h.length c13_0 (retQ X Tryd.f13 K) ([a0,a1,.bad,.bad,.bad,.bad,.bad,.bad,.bad,.bad,.bad,.bad,.bad,.bad,.bad,.bad,.bad,.bad,.bad,.bad,.bad,.bad,.bad,.bad,.bad,.bad,.bad,.bad,.bad,.bad,.bad,.bad,.bad,.bad,.bad,.bad,.bad,.bad,.bad,.bad,.bad,.bad,.bad,.bad,.bad,.bad,.bad,.bad,.bad,.bad,.bad,.bad,.bad,.bad,.bad,.bad,.bad,.bad,.bad,.bad,.bad,.bad,.bad,.bad,.bad,.bad,.bad,.bad,.bad,.bad,.bad,.bad,.bad,.bad,.bad,.bad,.bad,.bad,.bad,.bad,.bad,.bad,.bad,.bad], h)) : ACall X 13 [a0, a1] h K := acall_intro (fn := Tryd.f13) (by kernel_rfl) (by kernel_rfl) (by kernel_rfl) H
noncomputable def R13 := And.intro (And.intro (And.intro (And.intro (And.intro (w13_1) (And.intro w13_4 w13_7)) (And.intro (And.intro w13_8 w13_6) (And.intro w13_9 w13_5))) (And.intro (And.intro (w13_3) (And.intro w13_12 w13_17)) (And.intro (And.intro w13_19 w13_20) (And.intro w13_18 w13_16)))) (And.intro (And.intro (And.intro (w13_25) (And.intro w13_28 w13_29)) (And.intro (And.intro w13_27 w13_30) (And.intro w13_26 w13_24))) (And.intro (And.intro (w13_32) (And.intro w13_37 w13_39)) (And.intro (And.intro w13_40 w13_38) (And.intro w13_36 w13_44))))) (And.intro (And.intro (And.intro (And.intro (w13_47) (And.intro w13_48 w13_46)) (And.intro (And.intro w13_49 w13_45) (And.intro w13_43 w13_42))) (And.intro (And.intro (w13_50) (And.intro w13_41 w13_35)) (And.intro (And.intro w13_34 w13_33) (And.intro w13_31 w13_23)))) (And.intro (And.intro (And.intro (w13_22) (And.intro w13_51 w13_21)) (And.intro (And.intro w13_15 w13_14) (And.intro w13_13 w13_11))) (And.intro (And.intro (And.intro w13_53 w13_54) (And.intro w13_52 w13_10)) (And.intro (And.intro w13_2 w13_0) (And.intro q13_ret q13_normal)))))
/-! function 14: sindri/sindrilaw16.told -/
noncomputable def c14_0 : Code := bodyOf Tryd.f14
noncomputable def c14_1 : Code := cl c14_0
theorem w14_1 : awp X n c14_1 Q ([a0,a1,a2,a3,a4,a5,a6,a7,a8,a9,b0,b1,b2,b3,b4,b5,b6,b7], h) = (a_mov (.v (.slice none 0 0)) h (.c (fun t2 h1 => Q .normal ([a0,a1,t2,a3,a4,a5,a6,a7,a8,a9,b0,b1,b2,b3,b4,b5,b6,b7], h1)) ())) := by rw [awp_eq]; kernel_rfl
noncomputable def c14_2 : Code := cr c14_0
noncomputable def c14_3 : Code := cl c14_2
theorem w14_3 : awp X n c14_3 Q ([a0,a1,a2,a3,a4,a5,a6,a7,a8,a9,b0,b1,b2,b3,b4,b5,b6,b7], h) = (a_mov (.v (.slice none 0 0)) h (.c (fun t3 h1 => Q .normal ([a0,a1,a2,t3,a4,a5,a6,a7,a8,a9,b0,b1,b2,b3,b4,b5,b6,b7], h1)) ())) := by rw [awp_eq]; kernel_rfl
noncomputable def c14_4 : Code := cr c14_2
noncomputable def c14_5 : Code := cl c14_4
noncomputable def c14_6 : Code := cl c14_5
theorem w14_6 : awp X n c14_6 Q ([a0,a1,a2,a3,a4,a5,a6,a7,a8,a9,b0,b1,b2,b3,b4,b5,b6,b7], h) = (a_mov a0 h (.c (fun t6 h1 => a_len t6 h1 (.c (fun t7 h2 => a_mov (.v (.int .i64 0)) h2 (.c (fun t8 h3 => Q .normal ([a0,a1,a2,a3,a4,a5,t6,t7,t8,a9,b0,b1,b2,b3,b4,b5,b6,b7], h3)) ())) ())) ())) := by rw [awp_eq]; kernel_rfl
noncomputable def c14_7 : Code := cr c14_5
noncomputable def c14_8 : Code := cl c14_7
noncomputable def c14_9 : Code := cl c14_8
noncomputable def c14_10 : Code := cl c14_9
theorem w14_10 : awp X n c14_10 Q ([a0,a1,a2,a3,a4,a5,a6,a7,a8,a9,b0,b1,b2,b3,b4,b5,b6,b7], h) = (a_bin .lss a8 a7 h (.c (fun t9 h1 => Q .normal ([a0,a1,a2,a3,a4,a5,a6,a7,a8,t9,b0,b1,b2,b3,b4,b5,b6,b7], h1)) ())) := by rw [awp_eq]; kernel_rfl
noncomputable def c14_11 : Code := cr c14_9
noncomputable def c14_12 : Code := cl c14_11
noncomputable def c14_13 : Code := cl c14_12
theorem w14_13 : awp X n c14_13 Q st = Q .normal st := by rw [awp_eq]; kernel_rfl
noncomputable def c14_14 : Code := cr c14_12
theorem w14_14 : awp X n c14_14 Q st = Q (.exit 0) st := by rw [awp_eq]; kernel_rfl
theorem w14_12 : awp X n c14_12 Q ([a0,a1,a2,a3,a4,a5,a6,a7,a8,a9,b0,b1,b2,b3,b4,b5,b6,b7], h) = a_cond a9 (awp X n c14_13 Q ([a0,a1,a2,a3,a4,a5,a6,a7,a8,a9,b0,b1,b2,b3,b4,b5,b6,b7], h)) (awp X n c14_14 Q ([a0,a1,a2,a3,a4,a5,a6,a7,a8,a9,b0,b1,b2,b3,b4,b5,b6,b7], h)) := by rw [awp_eq]; kernel_rfl
noncomputable def c14_15 : Code := cr c14_11
noncomputable def c14_16 : Code := cl c14_15
noncomputable def c14_17 : Code := cl c14_16
noncomputable def c14_18 : Code := cl c14_17
theorem w14_18 : awp X n c14_18 Q ([a0,a1,a2,a3,a4,a5,a6,a7,a8,a9,b0,b1,b2,b3,b4,b5,b6,b7], h) = (a_ia 3 a6 a8 h (.c (fun t10 h1 => a_load 3 true t10 h1 (.c (fun t11 h2 => a_alloc [.v (.bool false), .v (.int .u64 0), .v (.slice none 0 0)] h2 (.c (fun t5 h3 => a_store 3 t5 t11 h3 (.c (fun _v3 h4 => Q .normal ([a0,a1,a2,a3,a4,t5,a6,a7,a8,a9,t10,t11,b2,b3,b4,b5,b6,b7], h4)) ())) ())) ())) ())) := by rw [awp_eq]; kernel_rfl
noncomputable def c14_19 : Code := cr c14_17
theorem w14_19 : awp X n c14_19 Q ([a0,a1,a2,a3,a4,a5,a6,a7,a8,a9,b0,b1,b2,b3,b4,b5,b6,b7], h) = (a_mov a3 h (.c (fun t12 h1 => a_load 3 true a5 h1 (.c (fun t13 h2 => a_lit 3 1 [.v (.bool false), .v (.int .u64 0), .v (.slice none 0 0)] [(0, 3, t13)] h2 (.c (fun t14 h3 => a_app 3 40 t12 t14 h3 (.c (fun t15 h4 => a_mov t15 h4 (.c (fun t3 h5 => Q .normal ([a0,a1,a2,t3,a4,a5,a6,a7,a8,a9,b0,b1,t12,t13,t14,t15,b6,b7], h5)) ())) ())) ())) ())) ())) := by rw [awp_eq]; kernel_rfl
theorem w14_17 : awp X n c14_17 Q st = awp X n c14_18 (thenQ (awp X n c14_19 Q) Q) st := by rw [awp_eq]; kernel_rfl
theorem w14_16 : awp X n c14_16 Q st = awp X n c14_17 (blockQ 1 Q) st := by rw [awp_eq]; kernel_rfl
noncomputable def c14_20 : Code := cr c14_15
theorem w14_20 : awp X n c14_20 Q ([a0,a1,a2,a3,a4,a5,a6,a7,a8,a9,b0,b1,b2,b3,b4,b5,b6,b7], h) = (a_bin .add a8 (.v (.int .i64 1)) h (.c (fun t16 h1 => a_mov t16 h1 (.c (fun t8 h2 => Q .normal ([a0,a1,a2,a3,a4,a5,a6,a7,t8,a9,b0,b1,b2,b3,b4,b5,t16,b7], h2)) ())) ())) := by rw [awp_eq]; kernel_rfl
theorem w14_15 : awp X n c14_15 Q st = awp X n c14_16 (thenQ (awp X n c14_20 Q) Q) st := by rw [awp_eq]; kernel_rfl
theorem w14_11 : awp X n c14_11 Q st = awp X n c14_12 (thenQ (awp X n c14_15 Q) Q) st := by rw [awp_eq]; kernel_rfl
theorem w14_9 : awp X n c14_9 Q st = awp X n c14_10 (thenQ (awp X n c14_11 Q) Q) st := by rw [awp_eq]; kernel_rfl
theorem w14_8 : awp X n c14_8 Q st = ALoop X n c14_9 Q st := by rw [awp_eq]; kernel_rfl
theorem w14_7 : awp X n c14_7 Q st = awp X n c14_8 (blockQ 0 Q) st := by rw [awp_eq]; kernel_rfl
theorem w14_5 : awp X n c14_5 Q st = awp X n c14_6 (thenQ (awp X n c14_7 Q) Q) st := by rw [awp_eq]; kernel_rfl
noncomputable def c14_21 : Code := cr c14_4
noncomputable def c14_22 : Code := cl c14_21
theorem w14_22 : awp X n c14_22 Q ([a0,a1,a2,a3,a4,a5,a6,a7,a8,a9,b0,b1,b2,b3,b4,b5,b6,b7], h) = (a_mov a3 h (.c (fun t17 h1 => a_mov t17 h1 (.c (fun t2 h2 => Q .normal ([a0,a1,t2,a3,a4,a5,a6,a7,a8,a9,b0,b1,b2,b3,b4,b5,b6,t17], h2)) ())) ())) := by rw [awp_eq]; kernel_rfl
noncomputable def c14_23 : Code := cr c14_21
theorem w14_23 : awp X n c14_23 Q st = Q .ret st := by rw [awp_eq]; kernel_rfl
theorem w14_21 : awp X n c14_21 Q st = awp X n c14_22 (thenQ (awp X n c14_23 Q) Q) st := by rw [awp_eq]; kernel_rfl
theorem w14_4 : awp X n c14_4 Q st = awp X n c14_5 (thenQ (awp X n c14_21 Q) Q) st := by rw [awp_eq]; kernel_rfl
theorem w14_2 : awp X n c14_2 Q st = awp X n c14_3 (thenQ (awp X n c14_4 Q) Q) st := by rw [awp_eq]; kernel_rfl
theorem w14_0 : awp X n c14_0 Q st = awp X n c14_1 (thenQ (awp X n c14_2 Q) Q) st := by rw [awp_eq]; kernel_rfl
theorem q14_ret : retQ X Tryd.f14 K .ret ([a0,a1,a2,a3,a4,a5,a6,a7,a8,a9,b0,b1,b2,b3,b4,b5,b6,b7], h) = (K.K a2 h) := by kernel_rfl
theorem q14_normal : retQ X Tryd.f14 K .normal ([a0,a1,a2,a3,a4,a5,a6,a7,a8,a9,b0,b1,b2,b3,b4,b5,b6,b7], h) = (K.K a2 h) := by kernel_rfl
theorem i14 (H : awp X h.length c14_0 (retQ X Tryd.f14 K) ([a0,.bad,.bad,.bad,.bad,.bad,.bad,.bad,.bad,.bad,.bad,.bad,.bad,.bad,.bad,.bad,.bad,.bad], h)) : ACall X 14 [a0] h K := acall_intro (fn := Tryd.f14) (by kernel_rfl) (by kernel_rfl) (by kernel_rfl) H
noncomputable def R14 := And.intro (And.intro (And.intro (And.intro (w14_1) (And.intro w14_3 w14_6)) (And.intro (w14_10) (And.intro w14_13 w14_14))) (And.intro (And.intro (w14_12) (And.intro w14_18 w14_19)) (And.intro (And.intro w14_17 w14_16) (And.intro w14_20 w14_15)))) (And.intro (And.intro (And.intro (w14_11) (And.intro w14_9 w14_8)) (And.intro (w14_7) (And.intro w14_5 w14_22))) (And.intro (And.intro (w14_23) (And.intro w14_21 w14_4)) (And.intro (And.intro w14_2 w14_0) (And.intro q14_ret q14_normal))))
/-! function 15: sindri/tables.At -/
noncomputable def c15_0 : Code := bodyOf Tryd.f15
noncomputable def c15_1 : Code := cl c15_0
theorem w15_1 : awp X n c15_1 Q ([a0,a1,a2,a3,a4,a5,a6,a7,a8,a9,b0,b1,b2,b3,b4,b5,b6,b7,b8,b9,d0,d1,d2,d3,d4,d5,d6,d7,d8,d9,e0,e1], h) = (a_mov (.v (.int .u64 0)) h (.c (fun t6 h1 => a_mov (.v (.bool false)) h1 (.c (fun t7 h2 => Q .normal ([a0,a1,a2,a3,a4,a5,t6,t7,a8,a9,b0,b1,b2,b3,b4,b5,b6,b7,b8,b9,d0,d1,d2,d3,d4,d5,d6,d7,d8,d9,e0,e1], h2)) ())) ())) := by rw [awp_eq]; kernel_rfl
noncomputable def c15_2 : Code := cr c15_0
noncomputable def c15_3 : Code := cl c15_2
noncomputable def c15_4 : Code := cl c15_3
theorem w15_4 : awp X n c15_4 Q ([a0,a1,a2,a3,a4,a5,a6,a7,a8,a9,b0,b1,b2,b3,b4,b5,b6,b7,b8,b9,d0,d1,d2,d3,d4,d5,d6,d7,d8,d9,e0,e1], h) = (a_mov a0 h (.c (fun t10 h1 => a_len t10 h1 (.c (fun t11 h2 => a_mov (.v (.int .i64 0)) h2 (.c (fun t12 h3 => Q .normal ([a0,a1,a2,a3,a4,a5,a6,a7,a8,a9,t10,t11,t12,b3,b4,b5,b6,b7,b8,b9,d0,d1,d2,d3,d4,d5,d6,d7,d8,d9,e0,e1], h3)) ())) ())) ())) := by rw [awp_eq]; kernel_rfl
noncomputable def c15_5 : Code := cr c15_3
noncomputable def c15_6 : Code := cl c15_5
noncomputable def c15_7 : Code := cl c15_6
noncomputable def c15_8 : Code := cl c15_7
theorem w15_8 : awp X n c15_8 Q ([a0,a1,a2,a3,a4,a5,a6,a7,a8,a9,b0,b1,b2,b3,b4,b5,b6,b7,b8,b9,d0,d1,d2,d3,d4,d5,d6,d7,d8,d9,e0,e1], h) = (a_bin .lss b2 b1 h (.c (fun t13 h1 => Q .normal ([a0,a1,a2,a3,a4,a5,a6,a7,a8,a9,b0,b1,b2,t13,b4,b5,b6,b7,b8,b9,d0,d1,d2,d3,d4,d5,d6,d7,d8,d9,e0,e1], h1)) ())) := by rw [awp_eq]; kernel_rfl
noncomputable def c15_9 : Code := cr c15_7
noncomputable def c15_10 : Code := cl c15_9
noncomputable def c15_11 : Code := cl c15_10
theorem w15_11 : awp X n c15_11 Q st = Q .normal st := by rw [awp_eq]; kernel_rfl
noncomputable def c15_12 : Code := cr c15_10
theorem w15_12 : awp X n c15_12 Q st = Q (.exit 0) st := by rw [awp_eq]; kernel_rfl
theorem w15_10 : awp X n c15_10 Q ([a0,a1,a2,a3,a4,a5,a6,a7,a8,a9,b0,b1,b2,b3,b4,b5,b6,b7,b8,b9,d0,d1,d2,d3,d4,d5,d6,d7,d8,d9,e0,e1], h) = a_cond b3 (awp X n c15_11 Q ([a0,a1,a2,a3,a4,a5,a6,a7,a8,a9,b0,b1,b2,b3,b4,b5,b6,b7,b8,b9,d0,d1,d2,d3,d4,d5,d6,d7,d8,d9,e0,e1], h)) (awp X n c15_12 Q ([a0,a1,a2,a3,a4,a5,a6,a7,a8,a9,b0,b1,b2,b3,b4,b5,b6,b7,b8,b9,d0,d1,d2,d3,d4,d5,d6,d7,d8,d9,e0,e1], h)) := by rw [awp_eq]; kernel_rfl
noncomputable def c15_13 : Code := cr c15_9
noncomputable def c15_14 : Code := cl c15_13
noncomputable def c15_15 : Code := cl c15_14
noncomputable def c15_16 : Code := cl c15_15
theorem w15_16 : awp X n c15_16 Q ([a0,a1,a2,a3,a4,a5,a6,a7,a8,a9,b0,b1,b2,b3,b4,b5,b6,b7,b8,b9,d0,d1,d2,d3,d4,d5,d6,d7,d8,d9,e0,e1], h) = (a_ia 3 b0 b2 h (.c (fun t14 h1 => a_load 3 true t14 h1 (.c (fun t15 h2 => a_alloc [.v (.bool false), .v (.int .u64 0), .v (.slice none 0 0)] h2 (.c (fun t9 h3 => a_store 3 t9 t15 h3 (.c (fun _v3 h4 => Q .normal ([a0,a1,a2,a3,a4,a5,a6,a7,a8,t9,b0,b1,b2,b3,t14,t15,b6,b7,b8,b9,d0,d1,d2,d3,d4,d5,d6,d7,d8,d9,e0,e1], h4)) ())) ())) ())) ())) := by rw [awp_eq]; kernel_rfl
noncomputable def c15_17 : Code := cr c15_15
noncomputable def c15_18 : Code := cl c15_17
theorem w15_18 : awp X n c15_18 Q ([a0,a1,a2,a3,a4,a5,a6,a7,a8,a9,b0,b1,b2,b3,b4,b5,b6,b7,b8,b9,d0,d1,d2,d3,d4,d5,d6,d7,d8,d9,e0,e1], h) = (a_fa 1 a9 h (.c (fun t16 h1 => a_load 1 false t16 h1 (.c (fun t17 h2 => a_mov a1 h2 (.c (fun t18 h3 => a_bin .eql t17 t18 h3 (.c (fun t19 h4 => Q .normal ([a0,a1,a2,a3,a4,a5,a6,a7,a8,a9,b0,b1,b2,b3,b4,b5,t16,t17,t18,t19,d0,d1,d2,d3,d4,d5,d6,d7,d8,d9,e0,e1], h4)) ())) ())) ())) ())) := by rw [awp_eq]; kernel_rfl
noncomputable def c15_19 : Code := cr c15_17
noncomputable def c15_20 : Code := cl c15_19
noncomputable def c15_21 : Code := cl c15_20
noncomputable def c15_22 : Code := cl c15_21
theorem w15_22 : awp X n c15_22 Q ([a0,a1,a2,a3,a4,a5,a6,a7,a8,a9,b0,b1,b2,b3,b4,b5,b6,b7,b8,b9,d0,d1,d2,d3,d4,d5,d6,d7,d8,d9,e0,e1], h) = (a_mov a2 h (.c (fun t20 h1 => a_fa 2 a9 h1 (.c (fun t21 h2 => a_load 1 false t21 h2 (.c (fun t22 h3 => a_len t22 h3 (.c (fun t23 h4 => a_cint .u64 t23 h4 (.c (fun t24 h5 => a_bin .lss t20 t24 h5 (.c (fun t25 h6 => Q .normal ([a0,a1,a2,a3,a4,a5,a6,a7,a8,a9,b0,b1,b2,b3,b4,b5,b6,b7,b8,b9,t20,t21,t22,t23,t24,t25,d6,d7,d8,d9,e0,e1], h6)) ())) ())) ())) ())) ())) ())) := by rw [awp_eq]; kernel_rfl
noncomputable def c15_23 : Code := cr c15_21
noncomputable def c15_24 : Code := cl c15_23
noncomputable def c15_25 : Code := cl c15_24
theorem w15_25 : awp X n c15_25 Q ([a0,a1,a2,a3,a4,a5,a6,a7,a8,a9,b0,b1,b2,b3,b4,b5,b6,b7,b8,b9,d0,d1,d2,d3,d4,d5,d6,d7,d8,d9,e0,e1], h) = (a_fa 2 a9 h (.c (fun t26 h1 => a_load 1 false t26 h1 (.c (fun t27 h2 => a_mov a2 h2 (.c (fun t28 h3 => a_ia 1 t27 t28 h3 (.c (fun t29 h4 => a_load 1 false t29 h4 (.c (fun t30 h5 => a_mov t30 h5 (.c (fun t6 h6 => a_mov (.v (.bool true)) h6 (.c (fun t7 h7 => Q .normal ([a0,a1,a2,a3,a4,a5,t6,t7,a8,a9,b0,b1,b2,b3,b4,b5,b6,b7,b8,b9,d0,d1,d2,d3,d4,d5,t26,t27,t28,t29,t30,e1], h7)) ())) ())) ())) ())) ())) ())) ())) := by rw [awp_eq]; kernel_rfl
noncomputable def c15_26 : Code := cr c15_24
theorem w15_26 : awp X n c15_26 Q st = Q .ret st := by rw [awp_eq]; kernel_rfl
theorem w15_24 : awp X n c15_24 Q st = awp X n c15_25 (thenQ (awp X n c15_26 Q) Q) st := by rw [awp_eq]; kernel_rfl
noncomputable def c15_27 : Code := cr c15_23
theorem w15_27 : awp X n c15_27 Q st = Q .normal st := by rw [awp_eq]; kernel_rfl
theorem w15_23 : awp X n c15_23 Q ([a0,a1,a2,a3,a4,a5,a6,a7,a8,a9,b0,b1,b2,b3,b4,b5,b6,b7,b8,b9,d0,d1,d2,d3,d4,d5,d6,d7,d8,d9,e0,e1], h) = a_cond d5 (awp X n c15_24 Q ([a0,a1,a2,a3,a4,a5,a6,a7,a8,a9,b0,b1,b2,b3,b4,b5,b6,b7,b8,b9,d0,d1,d2,d3,d4,d5,d6,d7,d8,d9,e0,e1], h)) (awp X n c15_27 Q ([a0,a1,a2,a3,a4,a5,a6,a7,a8,a9,b0,b1,b2,b3,b4,b5,b6,b7,b8,b9,d0,d1,d2,d3,d4,d5,d6,d7,d8,d9,e0,e1], h)) := by rw [awp_eq]; kernel_rfl
theorem w15_21 : awp X n c15_21 Q st = awp X n c15_22 (thenQ (awp X n c15_23 Q) Q) st := by rw [awp_eq]; kernel_rfl
noncomputable def c15_28 : Code := cr c15_20
noncomputable def c15_29 : Code := cl c15_28
theorem w15_29 : awp X n c15_29 Q ([a0,a1,a2,a3,a4,a5,a6,a7,a8,a9,b0,b1,b2,b3,b4,b5,b6,b7,b8,b9,d0,d1,d2,d3,d4,d5,d6,d7,d8,d9,e0,e1], h) = (a_mov (.v (.int .u64 0)) h (.c (fun t6 h1 => a_mov (.v (.bool false)) h1 (.c (fun t7 h2 => Q .normal ([a0,a1,a2,a3,a4,a5,t6,t7,a8,a9,b0,b1,b2,b3,b4,b5,b6,b7,b8,b9,d0,d1,d2,d3,d4,d5,d6,d7,d8,d9,e0,e1], h2)) ())) ())) := by rw [awp_eq]; kernel_rfl
noncomputable def c15_30 : Code := cr c15_28
theorem w15_30 : awp X n c15_30 Q st = Q .ret st := by rw [awp_eq]; kernel_rfl
theorem w15_28 : awp X n c15_28 Q st = awp X n c15_29 (thenQ (awp X n c15_30 Q) Q) st := by rw [awp_eq]; kernel_rfl
theorem w15_20 : awp X n c15_20 Q st = awp X n c15_21 (thenQ (awp X n c15_28 Q) Q) st := by rw [awp_eq]; kernel_rfl
noncomputable def c15_31 : Code := cr c15_19
theorem w15_31 : awp X n c15_31 Q st = Q .normal st := by rw [awp_eq]; kernel_rfl
theorem w15_19 : awp X n c15_19 Q ([a0,a1,a2,a3,a4,a5,a6,a7,a8,a9,b0,b1,b2,b3,b4,b5,b6,b7,b8,b9,d0,d1,d2,d3,d4,d5,d6,d7,d8,d9,e0,e1], h) = a_cond b9 (awp X n c15_20 Q ([a0,a1,a2,a3,a4,a5,a6,a7,a8,a9,b0,b1,b2,b3,b4,b5,b6,b7,b8,b9,d0,d1,d2,d3,d4,d5,d6,d7,d8,d9,e0,e1], h)) (awp X n c15_31 Q ([a0,a1,a2,a3,a4,a5,a6,a7,a8,a9,b0,b1,b2,b3,b4,b5,b6,b7,b8,b9,d0,d1,d2,d3,d4,d5,d6,d7,d8,d9,e0,e1], h)) := by rw [awp_eq]; kernel_rfl
theorem w15_17 : awp X n c15_17 Q st = awp X n c15_18 (thenQ (awp X n c15_19 Q) Q) st := by rw [awp_eq]; kernel_rfl
theorem w15_15 : awp X n c15_15 Q st = awp X n c15_16 (thenQ (awp X n c15_17 Q) Q) st := by rw [awp_eq]; kernel_rfl
theorem w15_14 : awp X n c15_14 Q st = awp X n c15_15 (blockQ 1 Q) st := by rw [awp_eq]; kernel_rfl
noncomputable def c15_32 : Code := cr c15_13
theorem w15_32 : awp X n c15_32 Q ([a0,a1,a2,a3,a4,a5,a6,a7,a8,a9,b0,b1,b2,b3,b4,b5,b6,b7,b8,b9,d0,d1,d2,d3,d4,d5,d6,d7,d8,d9,e0,e1], h) = (a_bin .add b2 (.v (.int .i64 1)) h (.c (fun t31 h1 => a_mov t31 h1 (.c (fun t12 h2 => Q .normal ([a0,a1,a2,a3,a4,a5,a6,a7,a8,a9,b0,b1,t12,b3,b4,b5,b6,b7,b8,b9,d0,d1,d2,d3,d4,d5,d6,d7,d8,d9,e0,t31], h2)) ())) ())) := by rw [awp_eq]; kernel_rfl
theorem w15_13 : awp X n c15_13 Q st = awp X n c15_14 (thenQ (awp X n c15_32 Q) Q) st := by rw [awp_eq]; kernel_rfl
theorem w15_9 : awp X n c15_9 Q st = awp X n c15_10 (thenQ (awp X n c15_13 Q) Q) st := by rw [awp_eq]; kernel_rfl
theorem w15_7 : awp X n c15_7 Q st = awp X n c15_8 (thenQ (awp X n c15_9 Q) Q) st := by rw [awp_eq]; kernel_rfl
theorem w15_6 : awp X n c15_6 Q st = ALoop X n c15_7 Q st := by rw [awp_eq]; kernel_rfl
theorem w15_5 : awp X n c15_5 Q st = awp X n c15_6 (blockQ 0 Q) st := by rw [awp_eq]; kernel_rfl
theorem w15_3 : awp X n c15_3 Q st = awp X n c15_4 (thenQ (awp X n c15_5 Q) Q) st := by rw [awp_eq]; kernel_rfl
noncomputable def c15_33 : Code := cr c15_2
noncomputable def c15_34 : Code := cl c15_33
theorem w15_34 : awp X n c15_34 Q ([a0,a1,a2,a3,a4,a5,a6,a7,a8,a9,b0,b1,b2,b3,b4,b5,b6,b7,b8,b9,d0,d1,d2,d3,d4,d5,d6,d7,d8,d9,e0,e1], h) = (a_mov (.v (.int .u64 0)) h (.c (fun t6 h1 => a_mov (.v (.bool false)) h1 (.c (fun t7 h2 => Q .normal ([a0,a1,a2,a3,a4,a5,t6,t7,a8,a9,b0,b1,b2,b3,b4,b5,b6,b7,b8,b9,d0,d1,d2,d3,d4,d5,d6,d7,d8,d9,e0,e1], h2)) ())) ())) := by rw [awp_eq]; kernel_rfl
noncomputable def c15_35 : Code := cr c15_33
theorem w15_35 : awp X n c15_35 Q st = Q .ret st := by rw [awp_eq]; kernel_rfl
theorem w15_33 : awp X n c15_33 Q st = awp X n c15_34 (thenQ (awp X n c15_35 Q) Q) st := by rw [awp_eq]; kernel_rfl
theorem w15_2 : awp X n c15_2 Q st = awp X n c15_3 (thenQ (awp X n c15_33 Q) Q) st := by rw [awp_eq]; kernel_rfl
theorem w15_0 : awp X n c15_0 Q st = awp X n c15_1 (thenQ (awp X n c15_2 Q) Q) st := by rw [awp_eq]; kernel_rfl
theorem q15_ret : retQ X Tryd.f15 K .ret ([a0,a1,a2,a3,a4,a5,a6,a7,a8,a9,b0,b1,b2,b3,b4,b5,b6,b7,b8,b9,d0,d1,d2,d3,d4,d5,d6,d7,d8,d9,e0,e1], h) = (K.K (.t [a6, a7]) h) := by kernel_rfl
theorem q15_normal : retQ X Tryd.f15 K .normal ([a0,a1,a2,a3,a4,a5,a6,a7,a8,a9,b0,b1,b2,b3,b4,b5,b6,b7,b8,b9,d0,d1,d2,d3,d4,d5,d6,d7,d8,d9,e0,e1], h) = (K.K (.t [a6, a7]) h) := by kernel_rfl
theorem i15 (H : awp X h.length c15_0 (retQ X Tryd.f15 K) ([a0,a1,a2,.bad,.bad,.bad,.bad,.bad,.bad,.bad,.bad,.bad,.bad,.bad,.bad,.bad,.bad,.bad,.bad,.bad,.bad,.bad,.bad,.bad,.bad,.bad,.bad,.bad,.bad,.bad,.bad,.bad], h)) : ACall X 15 [a0, a1, a2] h K := acall_intro (fn := Tryd.f15) (by kernel_rfl) (by kernel_rfl) (by kernel_rfl) H
noncomputable def R15 := And.intro (And.intro (And.intro (And.intro (And.intro w15_1 w15_4) (And.intro w15_8 w15_11)) (And.intro (And.intro w15_12 w15_10) (And.intro (w15_16) (And.intro w15_18 w15_22)))) (And.intro (And.intro (And.intro w15_25 w15_26) (And.intro (w15_24) (And.intro w15_27 w15_23))) (And.intro (And.intro w15_21 w15_29) (And.intro (w15_30) (And.intro w15_28 w15_20))))) (And.intro (And.intro (And.intro (And.intro w15_31 w15_19) (And.intro w15_17 w15_15)) (And.intro (And.intro w15_14 w15_32) (And.intro (w15_13) (And.intro w15_9 w15_7)))) (And.intro (And.intro (And.intro w15_6 w15_5) (And.intro (w15_3) (And.intro w15_34 w15_35))) (And.intro (And.intro w15_33 w15_2) (And.intro (w15_0) (And.intro q15_ret q15_normal)))))
/-! function 16: sindri/sindriref16.At -/
noncomputable def c16_0 : Code := bodyOf Tryd.f16
noncomputable def c16_1 : Code := cl c16_0
theorem w16_1 : awp X n c16_1 Q ([a0,a1,a2,a3,a4,a5,a6,a7,a8,a9,b0,b1,b2,b3,b4,b5,b6,b7,b8,b9,d0,d1,d2,d3,d4,d5,d6,d7,d8,d9,e0,e1,e2,e3,e4,e5,e6,e7,e8,e9], h) = (a_mov (.v (.int .u64 0)) h (.c (fun t6 h1 => a_mov (.v (.bool false)) h1 (.c (fun t7 h2 => Q .normal ([a0,a1,a2,a3,a4,a5,t6,t7,a8,a9,b0,b1,b2,b3,b4,b5,b6,b7,b8,b9,d0,d1,d2,d3,d4,d5,d6,d7,d8,d9,e0,e1,e2,e3,e4,e5,e6,e7,e8,e9], h2)) ())) ())) := by rw [awp_eq]; kernel_rfl
noncomputable def c16_2 : Code := cr c16_0
noncomputable def c16_3 : Code := cl c16_2
noncomputable def c16_4 : Code := cl c16_3
theorem w16_4 : awp X n c16_4 Q ([a0,a1,a2,a3,a4,a5,a6,a7,a8,a9,b0,b1,b2,b3,b4,b5,b6,b7,b8,b9,d0,d1,d2,d3,d4,d5,d6,d7,d8,d9,e0,e1,e2,e3,e4,e5,e6,e7,e8,e9], h) = (a_mov (.v (.int .i64 0)) h (.c (fun t8 h1 => Q .normal ([a0,a1,a2,a3,a4,a5,a6,a7,t8,a9,b0,b1,b2,b3,b4,b5,b6,b7,b8,b9,d0,d1,d2,d3,d4,d5,d6,d7,d8,d9,e0,e1,e2,e3,e4,e5,e6,e7,e8,e9], h1)) ())) := by rw [awp_eq]; kernel_rfl
noncomputable def c16_5 : Code := cr c16_3
noncomputable def c16_6 : Code := cl c16_5
noncomputable def c16_7 : Code := cl c16_6
noncomputable def c16_8 : Code := cl c16_7
noncomputable def c16_9 : Code := cl c16_8
theorem w16_9 : awp X n c16_9 Q ([a0,a1,a2,a3,a4,a5,a6,a7,a8,a9,b0,b1,b2,b3,b4,b5,b6,b7,b8,b9,d0,d1,d2,d3,d4,d5,d6,d7,d8,d9,e0,e1,e2,e3,e4,e5,e6,e7,e8,e9], h) = (a_mov a8 h (.c (fun t9 h1 => a_mov a0 h1 (.c (fun t10 h2 => a_len t10 h2 (.c (fun t11 h3 => a_bin .lss t9 t11 h3 (.c (fun t12 h4 => Q .normal ([a0,a1,a2,a3,a4,a5,a6,a7,a8,t9,t10,t11,t12,b3,b4,b5,b6,b7,b8,b9,d0,d1,d2,d3,d4,d5,d6,d7,d8,d9,e0,e1,e2,e3,e4,e5,e6,e7,e8,e9], h4)) ())) ())) ())) ())) := by rw [awp_eq]; kernel_rfl
noncomputable def c16_10 : Code := cr c16_8
noncomputable def c16_11 : Code := cl c16_10
theorem w16_11 : awp X n c16_11 Q st = Q .normal st := by rw [awp_eq]; kernel_rfl
noncomputable def c16_12 : Code := cr c16_10
theorem w16_12 : awp X n c16_12 Q st = Q (.exit 0) st := by rw [awp_eq]; kernel_rfl
theorem w16_10 : awp X n c16_10 Q ([a0,a1,a2,a3,a4,a5,a6,a7,a8,a9,b0,b1,b2,b3,b4,b5,b6,b7,b8,b9,d0,d1,d2,d3,d4,d5,d6,d7,d8,d9,e0,e1,e2,e3,e4,e5,e6,e7,e8,e9], h) = a_cond b2 (awp X n c16_11 Q ([a0,a1,a2,a3,a4,a5,a6,a7,a8,a9,b0,b1,b2,b3,b4,b5,b6,b7,b8,b9,d0,d1,d2,d3,d4,d5,d6,d7,d8,d9,e0,e1,e2,e3,e4,e5,e6,e7,e8,e9], h)) (awp X n c16_12 Q ([a0,a1,a2,a3,a4,a5,a6,a7,a8,a9,b0,b1,b2,b3,b4,b5,b6,b7,b8,b9,d0,d1,d2,d3,d4,d5,d6,d7,d8,d9,e0,e1,e2,e3,e4,e5,e6,e7,e8,e9], h)) := by rw [awp_eq]; kernel_rfl
theorem w16_8 : awp X n c16_8 Q st = awp X n c16_9 (thenQ (awp X n c16_10 Q) Q) st := by rw [awp_eq]; kernel_rfl
noncomputable def c16_13 : Code := cr c16_7
noncomputable def c16_14 : Code := cl c16_13
noncomputable def c16_15 : Code := cl c16_14
noncomputable def c16_16 : Code := cl c16_15
theorem w16_16 : awp X n c16_16 Q ([a0,a1,a2,a3,a4,a5,a6,a7,a8,a9,b0,b1,b2,b3,b4,b5,b6,b7,b8,b9,d0,d1,d2,d3,d4,d5,d6,d7,d8,d9,e0,e1,e2,e3,e4,e5,e6,e7,e8,e9], h) = (a_mov a0 h (.c (fun t15 h1 => a_mov a8 h1 (.c (fun t16 h2 => a_ia 3 t15 t16 h2 (.c (fun t17 h3 => a_fa 1 t17 h3 (.c (fun t18 h4 => a_load 1 false t18 h4 (.c (fun t19 h5 => a_mov a1 h5 (.c (fun t20 h6 => a_bin .eql t19 t20 h6 (.c (fun t21 h7 => Q .normal ([a0,a1,a2,a3,a4,a5,a6,a7,a8,a9,b0,b1,b2,b3,b4,t15,t16,t17,t18,t19,t20,t21,d2,d3,d4,d5,d6,d7,d8,d9,e0,e1,e2,e3,e4,e5,e6,e7,e8,e9], h7)) ())) ())) ())) ())) ())) ())) ())) := by rw [awp_eq]; kernel_rfl
noncomputable def c16_17 : Code := cr c16_15
noncomputable def c16_18 : Code := cl c16_17
noncomputable def c16_19 : Code := cl c16_18
noncomputable def c16_20 : Code := cl c16_19
theorem w16_20 : awp X n c16_20 Q ([a0,a1,a2,a3,a4,a5,a6,a7,a8,a9,b0,b1,b2,b3,b4,b5,b6,b7,b8,b9,d0,d1,d2,d3,d4,d5,d6,d7,d8,d9,e0,e1,e2,e3,e4,e5,e6,e7,e8,e9], h) = (a_mov a2 h (.c (fun t22 h1 => a_mov a0 h1 (.c (fun t23 h2 => a_mov a8 h2 (.c (fun t24 h3 => a_ia 3 t23 t24 h3 (.c (fun t25 h4 => a_fa 2 t25 h4 (.c (fun t26 h5 => a_load 1 false t26 h5 (.c (fun t27 h6 => a_len t27 h6 (.c (fun t28 h7 => a_cint .u64 t28 h7 (.c (fun t29 h8 => a_bin .geq t22 t29 h8 (.c (fun t30 h9 => Q .normal ([a0,a1,a2,a3,a4,a5,a6,a7,a8,a9,b0,b1,b2,b3,b4,b5,b6,b7,b8,b9,d0,d1,t22,t23,t24,t25,t26,t27,t28,t29,t30,e1,e2,e3,e4,e5,e6,e7,e8,e9], h9)) ())) ())) ())) ())) ())) ())) ())) ())) ())) := by rw [awp_eq]; kernel_rfl
noncomputable def c16_21 : Code := cr c16_19
noncomputable def c16_22 : Code := cl c16_21
noncomputable def c16_23 : Code := cl c16_22
theorem w16_23 : awp X n c16_23 Q ([a0,a1,a2,a3,a4,a5,a6,a7,a8,a9,b0,b1,b2,b3,b4,b5,b6,b7,b8,b9,d0,d1,d2,d3,d4,d5,d6,d7,d8,d9,e0,e1,e2,e3,e4,e5,e6,e7,e8,e9], h) = (a_mov (.v (.int .u64 0)) h (.c (fun t6 h1 => a_mov (.v (.bool false)) h1 (.c (fun t7 h2 => Q .normal ([a0,a1,a2,a3,a4,a5,t6,t7,a8,a9,b0,b1,b2,b3,b4,b5,b6,b7,b8,b9,d0,d1,d2,d3,d4,d5,d6,d7,d8,d9,e0,e1,e2,e3,e4,e5,e6,e7,e8,e9], h2)) ())) ())) := by rw [awp_eq]; kernel_rfl
noncomputable def c16_24 : Code := cr c16_22
theorem w16_24 : awp X n c16_24 Q st = Q .ret st := by rw [awp_eq]; kernel_rfl
theorem w16_22 : awp X n c16_22 Q st = awp X n c16_23 (thenQ (awp X n c16_24 Q) Q) st := by rw [awp_eq]; kernel_rfl
noncomputable def c16_25 : Code := cr c16_21
theorem w16_25 : awp X n c16_25 Q st = Q .normal st := by rw [awp_eq]; kernel_rfl
theorem w16_21 : awp X n c16_21 Q ([a0,a1,a2,a3,a4,a5,a6,a7,a8,a9,b0,b1,b2,b3,b4,b5,b6,b7,b8,b9,d0,d1,d2,d3,d4,d5,d6,d7,d8,d9,e0,e1,e2,e3,e4,e5,e6,e7,e8,e9], h) = a_cond e0 (awp X n c16_22 Q ([a0,a1,a2,a3,a4,a5,a6,a7,a8,a9,b0,b1,b2,b3,b4,b5,b6,b7,b8,b9,d0,d1,d2,d3,d4,d5,d6,d7,d8,d9,e0,e1,e2,e3,e4,e5,e6,e7,e8,e9], h)) (awp X n c16_25 Q ([a0,a1,a2,a3,a4,a5,a6,a7,a8,a9,b0,b1,b2,b3,b4,b5,b6,b7,b8,b9,d0,d1,d2,d3,d4,d5,d6,d7,d8,d9,e0,e1,e2,e3,e4,e5,e6,e7,e8,e9], h)) := by rw [awp_eq]; kernel_rfl
theorem w16_19 : awp X n c16_19 Q st = awp X n c16_20 (thenQ (awp X n c16_21 Q) Q) st := by rw [awp_eq]; kernel_rfl
noncomputable def c16_26 : Code := cr c16_18
noncomputable def c16_27 : Code := cl c16_26
theorem w16_27 : awp X n c16_27 Q ([a0,a1,a2,a3,a4,a5,a6,a7,a8,a9,b0,b1,b2,b3,b4,b5,b6,b7,b8,b9,d0,d1,d2,d3,d4,d5,d6,d7,d8,d9,e0,e1,e2,e3,e4,e5,e6,e7,e8,e9], h) = (a_mov a0 h (.c (fun t31 h1 => a_mov a8 h1 (.c (fun t32 h2 => a_ia 3 t31 t32 h2 (.c (fun t33 h3 => a_fa 2 t33 h3 (.c (fun t34 h4 => a_load 1 false t34 h4 (.c (fun t35 h5 => a_mov a2 h5 (.c (fun t36 h6 => a_cint .i64 t36 h6 (.c (fun t37 h7 => a_ia 1 t35 t37 h7 (.c (fun t38 h8 => a_load 1 false t38 h8 (.c (fun t39 h9 => a_mov t39 h9 (.c (fun t6 h10 => a_mov (.v (.bool true)) h10 (.c (fun t7 h11 => Q .normal ([a0,a1,a2,a3,a4,a5,t6,t7,a8,a9,b0,b1,b2,b3,b4,b5,b6,b7,b8,b9,d0,d1,d2,d3,d4,d5,d6,d7,d8,d9,e0,t31,t32,t33,t34,t35,t36,t37,t38,t39], h11)) ())) ())) ())) ())) ())) ())) ())) ())) ())) ())) ())) := by rw [awp_eq]; kernel_rfl
noncomputable def c16_28 : Code := cr c16_26
theorem w16_28 : awp X n c16_28 Q st = Q .ret st := by rw [awp_eq]; kernel_rfl
theorem w16_26 : awp X n c16_26 Q st = awp X n c16_27 (thenQ (awp X n c16_28 Q) Q) st := by rw [awp_eq]; kernel_rfl
theorem w16_18 : awp X n c16_18 Q st = awp X n c16_19 (thenQ (awp X n c16_26 Q) Q) st := by rw [awp_eq]; kernel_rfl
noncomputable def c16_29 : Code := cr c16_17
theorem w16_29 : awp X n c16_29 Q st = Q .normal st := by rw [awp_eq]; kernel_rfl
theorem w16_17 : awp X n c16_17 Q ([a0,a1,a2,a3,a4,a5,a6,a7,a8,a9,b0,b1,b2,b3,b4,b5,b6,b7,b8,b9,d0,d1,d2,d3,d4,d5,d6,d7,d8,d9,e0,e1,e2,e3,e4,e5,e6,e7,e8,e9], h) = a_cond d1 (awp X n c16_18 Q ([a0,a1,a2,a3,a4,a5,a6,a7,a8,a9,b0,b1,b2,b3,b4,b5,b6,b7,b8,b9,d0,d1,d2,d3,d4,d5,d6,d7,d8,d9,e0,e1,e2,e3,e4,e5,e6,e7,e8,e9], h)) (awp X n c16_29 Q ([a0,a1,a2,a3,a4,a5,a6,a7,a8,a9,b0,b1,b2,b3,b4,b5,b6,b7,b8,b9,d0,d1,d2,d3,d4,d5,d6,d7,d8,d9,e0,e1,e2,e3,e4,e5,e6,e7,e8,e9], h)) := by rw [awp_eq]; kernel_rfl
theorem w16_15 : awp X n c16_15 Q st = awp X n c16_16 (thenQ (awp X n c16_17 Q) Q) st := by rw [awp_eq]; kernel_rfl
theorem w16_14 : awp X n c16_14 Q st = awp X n c16_15 (blockQ 1 Q) st := by rw [awp_eq]; kernel_rfl
noncomputable def c16_30 : Code := cr c16_13
theorem w16_30 : awp X n c16_30 Q ([a0,a1,a2,a3,a4,a5,a6,a7,a8,a9,b0,b1,b2,b3,b4,b5,b6,b7,b8,b9,d0,d1,d2,d3,d4,d5,d6,d7,d8,d9,e0,e1,e2,e3,e4,e5,e6,e7,e8,e9], h) = (a_mov a8 h (.c (fun t13 h1 => a_bin .add t13 (.v (.int .i64 1)) h1 (.c (fun t14 h2 => a_mov t14 h2 (.c (fun t8 h3 => Q .normal ([a0,a1,a2,a3,a4,a5,a6,a7,t8,a9,b0,b1,b2,t13,t14,b5,b6,b7,b8,b9,d0,d1,d2,d3,d4,d5,d6,d7,d8,d9,e0,e1,e2,e3,e4,e5,e6,e7,e8,e9], h3)) ())) ())) ())) := by rw [awp_eq]; kernel_rfl
theorem w16_13 : awp X n c16_13 Q st = awp X n c16_14 (thenQ (awp X n c16_30 Q) Q) st := by rw [awp_eq]; kernel_rfl
theorem w16_7 : awp X n c16_7 Q st = awp X n c16_8 (thenQ (awp X n c16_13 Q) Q) st := by rw [awp_eq]; kernel_rfl
theorem w16_6 : awp X n c16_6 Q st = ALoop X n c16_7 Q st := by rw [awp_eq]; kernel_rfl
theorem w16_5 : awp X n c16_5 Q st = awp X n c16_6 (blockQ 0 Q) st := by rw [awp_eq]; kernel_rfl
theorem w16_3 : awp X n c16_3 Q st = awp X n c16_4 (thenQ (awp X n c16_5 Q) Q) st := by rw [awp_eq]; kernel_rfl
noncomputable def c16_31 : Code := cr c16_2
noncomputable def c16_32 : Code := cl c16_31
theorem w16_32 : awp X n c16_32 Q ([a0,a1,a2,a3,a4,a5,a6,a7,a8,a9,b0,b1,b2,b3,b4,b5,b6,b7,b8,b9,d0,d1,d2,d3,d4,d5,d6,d7,d8,d9,e0,e1,e2,e3,e4,e5,e6,e7,e8,e9], h) = (a_mov (.v (.int .u64 0)) h (.c (fun t6 h1 => a_mov (.v (.bool false)) h1 (.c (fun t7 h2 => Q .normal ([a0,a1,a2,a3,a4,a5,t6,t7,a8,a9,b0,b1,b2,b3,b4,b5,b6,b7,b8,b9,d0,d1,d2,d3,d4,d5,d6,d7,d8,d9,e0,e1,e2,e3,e4,e5,e6,e7,e8,e9], h2)) ())) ())) := by rw [awp_eq]; kernel_rfl
noncomputable def c16_33 : Code := cr c16_31
theorem w16_33 : awp X n c16_33 Q st = Q .ret st := by rw [awp_eq]; kernel_rfl
theorem w16_31 : awp X n c16_31 Q st = awp X n c16_32 (thenQ (awp X n c16_33 Q) Q) st := by rw [awp_eq]; kernel_rfl
theorem w16_2 : awp X n c16_2 Q st = awp X n c16_3 (thenQ (awp X n c16_31 Q) Q) st := by rw [awp_eq]; kernel_rfl
theorem w16_0 : awp X n c16_0 Q st = awp X n c16_1 (thenQ (awp X n c16_2 Q) Q) st := by rw [awp_eq]; kernel_rfl
theorem q16_ret : retQ X Tryd.f16 K .ret ([a0,a1,a2,a3,a4,a5,a6,a7,a8,a9,b0,b1,b2,b3,b4,b5,b6,b7,b8,b9,d0,d1,d2,d3,d4,d5,d6,d7,d8,d9,e0,e1,e2,e3,e4,e5,e6,e7,e8,e9], h) = (K.K (.t [a6, a7]) h) := by kernel_rfl
theorem q16_normal : retQ X Tryd.f16 K .normal ([a0,a1,a2,a3,a4,a5,a6,a7,a8,a9,b0,b1,b2,b3,b4,b5,b6,b7,b8,b9,d0,d1,d2,d3,d4,d5,d6,d7,d8,d9,e0,e1,e2,e3,e4,e5,e6,e7,e8,e9], h) = (K.K (.t [a6, a7]) h) := by kernel_rfl
theorem i16 (H : awp X h.length c16_0 (retQ X Tryd.f16 K) ([a0,a1,a2,.bad,.bad,.bad,.bad,.bad,.bad,.bad,.bad,.bad,.bad,.bad,.bad,.bad,.bad,.bad,.bad,.bad,.bad,.bad,.bad,.bad,.bad,.bad,.bad,.bad,.bad,.bad,.bad,.bad,.bad,.bad,.bad,.bad,.bad,.bad,.bad,.bad], h)) : ACall X 16 [a0, a1, a2] h K := acall_intro (fn := Tryd.f16) (by kernel_rfl) (by kernel_rfl) (by kernel_rfl) H
noncomputable def R16 := And.intro (And.intro (And.intro (And.intro (And.intro w16_1 w16_4) (And.intro w16_9 w16_11)) (And.intro (And.intro w16_12 w16_10) (And.intro (w16_8) (And.intro w16_16 w16_20)))) (And.intro (And.intro (And.intro w16_23 w16_24) (And.intro w16_22 w16_25)) (And.intro (And.intro w16_21 w16_19) (And.intro (w16_27) (And.intro w16_28 w16_26))))) (And.intro (And.intro (And.intro (And.intro w16_18 w16_29) (And.intro w16_17 w16_15)) (And.intro (And.intro w16_14 w16_30) (And.intro (w16_13) (And.intro w16_7 w16_6)))) (And.intro (And.intro (And.intro w16_5 w16_3) (And.intro w16_32 w16_33)) (And.intro (And.intro w16_31 w16_2) (And.intro (w16_0) (And.intro q16_ret q16_normal)))))
/-! function 20: sindri/tables.put -/
noncomputable def c20_0 : Code := bodyOf Tryd.f20
noncomputable def c20_1 : Code := cl c20_0
theorem w20_1 : awp X n c20_1 Q ([a0,a1,a2,a3,a4,a5,a6,a7,a8,a9,b0,b1,b2,b3,b4,b5,b6,b7,b8,b9,d0,d1,d2,d3,d4,d5,d6,d7,d8,d9,e0,e1,e2,e3,e4,e5,e6,e7,e8,e9,f0,f1,f2,f3,f4], h) = (a_mov (.v (.slice none 0 0)) h (.c (fun t8 h1 => a_mov (.v (.int .i64 0)) h1 (.c (fun t9 h2 => Q .normal ([a0,a1,a2,a3,a4,a5,a6,a7,t8,t9,b0,b1,b2,b3,b4,b5,b6,b7,b8,b9,d0,d1,d2,d3,d4,d5,d6,d7,d8,d9,e0,e1,e2,e3,e4,e5,e6,e7,e8,e9,f0,f1,f2,f3,f4], h2)) ())) ())) := by rw [awp_eq]; kernel_rfl
noncomputable def c20_2 : Code := cr c20_0
noncomputable def c20_3 : Code := cl c20_2
noncomputable def c20_4 : Code := cl c20_3
theorem w20_4 : awp X n c20_4 Q ([a0,a1,a2,a3,a4,a5,a6,a7,a8,a9,b0,b1,b2,b3,b4,b5,b6,b7,b8,b9,d0,d1,d2,d3,d4,d5,d6,d7,d8,d9,e0,e1,e2,e3,e4,e5,e6,e7,e8,e9,f0,f1,f2,f3,f4], h) = (a_mov a2 h (.c (fun t14 h1 => a_len t14 h1 (.c (fun t15 h2 => a_mov (.v (.int .i64 0)) h2 (.c (fun t16 h3 => Q .normal ([a0,a1,a2,a3,a4,a5,a6,a7,a8,a9,b0,b1,b2,b3,t14,t15,t16,b7,b8,b9,d0,d1,d2,d3,d4,d5,d6,d7,d8,d9,e0,e1,e2,e3,e4,e5,e6,e7,e8,e9,f0,f1,f2,f3,f4], h3)) ())) ())) ())) := by rw [awp_eq]; kernel_rfl
noncomputable def c20_5 : Code := cr c20_3
noncomputable def c20_6 : Code := cl c20_5
noncomputable def c20_7 : Code := cl c20_6
noncomputable def c20_8 : Code := cl c20_7
theorem w20_8 : awp X n c20_8 Q ([a0,a1,a2,a3,a4,a5,a6,a7,a8,a9,b0,b1,b2,b3,b4,b5,b6,b7,b8,b9,d0,d1,d2,d3,d4,d5,d6,d7,d8,d9,e0,e1,e2,e3,e4,e5,e6,e7,e8,e9,f0,f1,f2,f3,f4], h) = (a_bin .lss b6 b5 h (.c (fun t17 h1 => Q .normal ([a0,a1,a2,a3,a4,a5,a6,a7,a8,a9,b0,b1,b2,b3,b4,b5,b6,t17,b8,b9,d0,d1,d2,d3,d4,d5,d6,d7,d8,d9,e0,e1,e2,e3,e4,e5,e6,e7,e8,e9,f0,f1,f2,f3,f4], h1)) ())) := by rw [awp_eq]; kernel_rfl
noncomputable def c20_9 : Code := cr c20_7
noncomputable def c20_10 : Code := cl c20_9
noncomputable def c20_11 : Code := cl c20_10
theorem w20_11 : awp X n c20_11 Q st = Q .normal st := by rw [awp_eq]; kernel_rfl
noncomputable def c20_12 : Code := cr c20_10
theorem w20_12 : awp X n c20_12 Q st = Q (.exit 0) st := by rw [awp_eq]; kernel_rfl
theorem w20_10 : awp X n c20_10 Q ([a0,a1,a2,a3,a4,a5,a6,a7,a8,a9,b0,b1,b2,b3,b4,b5,b6,b7,b8,b9,d0,d1,d2,d3,d4,d5,d6,d7,d8,d9,e0,e1,e2,e3,e4,e5,e6,e7,e8,e9,f0,f1,f2,f3,f4], h) = a_cond b7 (awp X n c20_11 Q ([a0,a1,a2,a3,a4,a5,a6,a7,a8,a9,b0,b1,b2,b3,b4,b5,b6,b7,b8,b9,d0,d1,d2,d3,d4,d5,d6,d7,d8,d9,e0,e1,e2,e3,e4,e5,e6,e7,e8,e9,f0,f1,f2,f3,f4], h)) (awp X n c20_12 Q ([a0,a1,a2,a3,a4,a5,a6,a7,a8,a9,b0,b1,b2,b3,b4,b5,b6,b7,b8,b9,d0,d1,d2,d3,d4,d5,d6,d7,d8,d9,e0,e1,e2,e3,e4,e5,e6,e7,e8,e9,f0,f1,f2,f3,f4], h)) := by rw [awp_eq]; kernel_rfl
noncomputable def c20_13 : Code := cr c20_9
noncomputable def c20_14 : Code := cl c20_13
noncomputable def c20_15 : Code := cl c20_14
noncomputable def c20_16 : Code := cl c20_15
theorem w20_16 : awp X n c20_16 Q ([a0,a1,a2,a3,a4,a5,a6,a7,a8,a9,b0,b1,b2,b3,b4,b5,b6,b7,b8,b9,d0,d1,d2,d3,d4,d5,d6,d7,d8,d9,e0,e1,e2,e3,e4,e5,e6,e7,e8,e9,f0,f1,f2,f3,f4], h) = (a_ia 1 b4 b6 h (.c (fun t18 h1 => a_load 1 false t18 h1 (.c (fun t19 h2 => a_mov t19 h2 (.c (fun t11 h3 => Q .normal ([a0,a1,a2,a3,a4,a5,a6,a7,a8,a9,b0,t11,b2,b3,b4,b5,b6,b7,t18,t19,d0,d1,d2,d3,d4,d5,d6,d7,d8,d9,e0,e1,e2,e3,e4,e5,e6,e7,e8,e9,f0,f1,f2,f3,f4], h3)) ())) ())) ())) := by rw [awp_eq]; kernel_rfl
noncomputable def c20_17 : Code := cr c20_15
noncomputable def c20_18 : Code := cl c20_17
noncomputable def c20_19 : Code := cl c20_18
theorem w20_19 : awp X n c20_19 Q ([a0,a1,a2,a3,a4,a5,a6,a7,a8,a9,b0,b1,b2,b3,b4,b5,b6,b7,b8,b9,d0,d1,d2,d3,d4,d5,d6,d7,d8,d9,e0,e1,e2,e3,e4,e5,e6,e7,e8,e9,f0,f1,f2,f3,f4], h) = (a_mov a3 h (.c (fun t20 h1 => a_bin .lss t20 (.v (.int .i64 8)) h1 (.c (fun t21 h2 => a_mov t21 h2 (.c (fun t22 h3 => a_on t22 true (fun k => a_mov b1 h3 k) h3 (.c (fun t23 h4 => a_on t22 true (fun k => a_mov a3 h4 k) h4 (.c (fun t24 h5 => a_on t22 true (fun k => a_bin .mul (.v (.int .i64 8)) t24 h5 k) h5 (.c (fun t25 h6 => a_on t22 true (fun k => a_cint .u64 t25 h6 k) h6 (.c (fun t26 h7 => a_on t22 true (fun k => a_bin .shr t23 t26 h7 k) h7 (.c (fun t27 h8 => a_on t22 true (fun k => a_bin .neq t27 (.v (.int .u64 0)) h8 k) h8 (.c (fun t28 h9 => a_pick t22 t28 (.v (.bool false)) h9 (.c (fun t29 h10 => Q .normal ([a0,a1,a2,a3,a4,a5,a6,a7,a8,a9,b0,b1,b2,b3,b4,b5,b6,b7,b8,b9,t20,t21,t22,t23,t24,t25,t26,t27,t28,t29,e0,e1,e2,e3,e4,e5,e6,e7,e8,e9,f0,f1,f2,f3,f4], h10)) ())) ())) ())) ())) ())) ())) ())) ())) ())) ())) := by rw [awp_eq]; kernel_rfl
noncomputable def c20_20 : Code := cr c20_18
noncomputable def c20_21 : Code := cl c20_20
noncomputable def c20_22 : Code := cl c20_21
theorem w20_22 : awp X n c20_22 Q ([a0,a1,a2,a3,a4,a5,a6,a7,a8,a9,b0,b1,b2,b3,b4,b5,b6,b7,b8,b9,d0,d1,d2,d3,d4,d5,d6,d7,d8,d9,e0,e1,e2,e3,e4,e5,e6,e7,e8,e9,f0,f1,f2,f3,f4], h) = (a_mov (.v (.slice none 0 0)) h (.c (fun t8 h1 => a_mov (.v (.int .i64 2)) h1 (.c (fun t9 h2 => Q .normal ([a0,a1,a2,a3,a4,a5,a6,a7,t8,t9,b0,b1,b2,b3,b4,b5,b6,b7,b8,b9,d0,d1,d2,d3,d4,d5,d6,d7,d8,d9,e0,e1,e2,e3,e4,e5,e6,e7,e8,e9,f0,f1,f2,f3,f4], h2)) ())) ())) := by rw [awp_eq]; kernel_rfl
noncomputable def c20_23 : Code := cr c20_21
theorem w20_23 : awp X n c20_23 Q st = Q .ret st := by rw [awp_eq]; kernel_rfl
theorem w20_21 : awp X n c20_21 Q st = awp X n c20_22 (thenQ (awp X n c20_23 Q) Q) st := by rw [awp_eq]; kernel_rfl
noncomputable def c20_24 : Code := cr c20_20
theorem w20_24 : awp X n c20_24 Q st = Q .normal st := by rw [awp_eq]; kernel_rfl
theorem w20_20 : awp X n c20_20 Q ([a0,a1,a2,a3,a4,a5,a6,a7,a8,a9,b0,b1,b2,b3,b4,b5,b6,b7,b8,b9,d0,d1,d2,d3,d4,d5,d6,d7,d8,d9,e0,e1,e2,e3,e4,e5,e6,e7,e8,e9,f0,f1,f2,f3,f4], h) = a_cond d9 (awp X n c20_21 Q ([a0,a1,a2,a3,a4,a5,a6,a7,a8,a9,b0,b1,b2,b3,b4,b5,b6,b7,b8,b9,d0,d1,d2,d3,d4,d5,d6,d7,d8,d9,e0,e1,e2,e3,e4,e5,e6,e7,e8,e9,f0,f1,f2,f3,f4], h)) (awp X n c20_24 Q ([a0,a1,a2,a3,a4,a5,a6,a7,a8,a9,b0,b1,b2,b3,b4,b5,b6,b7,b8,b9,d0,d1,d2,d3,d4,d5,d6,d7,d8,d9,e0,e1,e2,e3,e4,e5,e6,e7,e8,e9,f0,f1,f2,f3,f4], h)) := by rw [awp_eq]; kernel_rfl
theorem w20_18 : awp X n c20_18 Q st = awp X n c20_19 (thenQ (awp X n c20_20 Q) Q) st := by rw [awp_eq]; kernel_rfl
noncomputable def c20_25 : Code := cr c20_17
theorem w20_25 : awp X n c20_25 Q ([a0,a1,a2,a3,a4,a5,a6,a7,a8,a9,b0,b1,b2,b3,b4,b5,b6,b7,b8,b9,d0,d1,d2,d3,d4,d5,d6,d7,d8,d9,e0,e1,e2,e3,e4,e5,e6,e7,e8,e9,f0,f1,f2,f3,f4], h) = (a_mov a1 h (.c (fun t30 h1 => a_mov b1 h1 (.c (fun t31 h2 => a_mov a3 h2 (.c (fun t32 h3 => ACall X 38 [t30, t31, t32] h3 (.c (fun t33 h4 => a_mov t33 h4 (.c (fun t1 h5 => Q .normal ([a0,t1,a2,a3,a4,a5,a6,a7,a8,a9,b0,b1,b2,b3,b4,b5,b6,b7,b8,b9,d0,d1,d2,d3,d4,d5,d6,d7,d8,d9,t30,t31,t32,t33,e4,e5,e6,e7,e8,e9,f0,f1,f2,f3,f4], h5)) ())) ())) ())) ())) ())) := by rw [awp_eq]; kernel_rfl
theorem w20_17 : awp X n c20_17 Q st = awp X n c20_18 (thenQ (awp X n c20_25 Q) Q) st := by rw [awp_eq]; kernel_rfl
theorem w20_15 : awp X n c20_15 Q st = awp X n c20_16 (thenQ (awp X n c20_17 Q) Q) st := by rw [awp_eq]; kernel_rfl
theorem w20_14 : awp X n c20_14 Q st = awp X n c20_15 (blockQ 1 Q) st := by rw [awp_eq]; kernel_rfl
noncomputable def c20_26 : Code := cr c20_13
theorem w20_26 : awp X n c20_26 Q ([a0,a1,a2,a3,a4,a5,a6,a7,a8,a9,b0,b1,b2,b3,b4,b5,b6,b7,b8,b9,d0,d1,d2,d3,d4,d5,d6,d7,d8,d9,e0,e1,e2,e3,e4,e5,e6,e7,e8,e9,f0,f1,f2,f3,f4], h) = (a_bin .add b6 (.v (.int .i64 1)) h (.c (fun t34 h1 => a_mov t34 h1 (.c (fun t16 h2 => Q .normal ([a0,a1,a2,a3,a4,a5,a6,a7,a8,a9,b0,b1,b2,b3,b4,b5,t16,b7,b8,b9,d0,d1,d2,d3,d4,d5,d6,d7,d8,d9,e0,e1,e2,e3,t34,e5,e6,e7,e8,e9,f0,f1,f2,f3,f4], h2)) ())) ())) := by rw [awp_eq]; kernel_rfl
theorem w20_13 : awp X n c20_13 Q st = awp X n c20_14 (thenQ (awp X n c20_26 Q) Q) st := by rw [awp_eq]; kernel_rfl
theorem w20_9 : awp X n c20_9 Q st = awp X n c20_10 (thenQ (awp X n c20_13 Q) Q) st := by rw [awp_eq]; kernel_rfl
theorem w20_7 : awp X n c20_7 Q st = awp X n c20_8 (thenQ (awp X n c20_9 Q) Q) st := by rw [awp_eq]; kernel_rfl
theorem w20_6 : awp X n c20_6 Q st = ALoop X n c20_7 Q st := by rw [awp_eq]; kernel_rfl
theorem w20_5 : awp X n c20_5 Q st = awp X n c20_6 (blockQ 0 Q) st := by rw [awp_eq]; kernel_rfl
theorem w20_3 : awp X n c20_3 Q st = awp X n c20_4 (thenQ (awp X n c20_5 Q) Q) st := by rw [awp_eq]; kernel_rfl
noncomputable def c20_27 : Code := cr c20_2
noncomputable def c20_28 : Code := cl c20_27
theorem w20_28 : awp X n c20_28 Q ([a0,a1,a2,a3,a4,a5,a6,a7,a8,a9,b0,b1,b2,b3,b4,b5,b6,b7,b8,b9,d0,d1,d2,d3,d4,d5,d6,d7,d8,d9,e0,e1,e2,e3,e4,e5,e6,e7,e8,e9,f0,f1,f2,f3,f4], h) = (a_mov a0 h (.c (fun t36 h1 => a_mov a1 h1 (.c (fun t37 h2 => ACall X 39 [(.v (.slice none 0 0)), t36, t37] h2 (.c (fun t38 h3 => a_mov t38 h3 (.c (fun t35 h4 => a_ext 0 t35 h4 (.c (fun t39 h5 => a_ext 1 t35 h5 (.c (fun t40 h6 => a_mov t39 h6 (.c (fun t12 h7 => a_mov t40 h7 (.c (fun t13 h8 => Q .normal ([a0,a1,a2,a3,a4,a5,a6,a7,a8,a9,b0,b1,t12,t13,b4,b5,b6,b7,b8,b9,d0,d1,d2,d3,d4,d5,d6,d7,d8,d9,e0,e1,e2,e3,e4,t35,t36,t37,t38,t39,t40,f1,f2,f3,f4], h8)) ())) ())) ())) ())) ())) ())) ())) ())) := by rw [awp_eq]; kernel_rfl
noncomputable def c20_29 : Code := cr c20_27
noncomputable def c20_30 : Code := cl c20_29
noncomputable def c20_31 : Code := cl c20_30
theorem w20_31 : awp X n c20_31 Q ([a0,a1,a2,a3,a4,a5,a6,a7,a8,a9,b0,b1,b2,b3,b4,b5,b6,b7,b8,b9,d0,d1,d2,d3,d4,d5,d6,d7,d8,d9,e0,e1,e2,e3,e4,e5,e6,e7,e8,e9,f0,f1,f2,f3,f4], h) = (a_mov b3 h (.c (fun t41 h1 => a_bin .neq t41 (.v (.int .i64 0)) h1 (.c (fun t42 h2 => Q .normal ([a0,a1,a2,a3,a4,a5,a6,a7,a8,a9,b0,b1,b2,b3,b4,b5,b6,b7,b8,b9,d0,d1,d2,d3,d4,d5,d6,d7,d8,d9,e0,e1,e2,e3,e4,e5,e6,e7,e8,e9,f0,t41,t42,f3,f4], h2)) ())) ())) := by rw [awp_eq]; kernel_rfl
noncomputable def c20_32 : Code := cr c20_30
noncomputable def c20_33 : Code := cl c20_32
noncomputable def c20_34 : Code := cl c20_33
theorem w20_34 : awp X n c20_34 Q ([a0,a1,a2,a3,a4,a5,a6,a7,a8,a9,b0,b1,b2,b3,b4,b5,b6,b7,b8,b9,d0,d1,d2,d3,d4,d5,d6,d7,d8,d9,e0,e1,e2,e3,e4,e5,e6,e7,e8,e9,f0,f1,f2,f3,f4], h) = (a_mov b3 h (.c (fun t43 h1 => a_mov (.v (.slice none 0 0)) h1 (.c (fun t8 h2 => a_mov t43 h2 (.c (fun t9 h3 => Q .normal ([a0,a1,a2,a3,a4,a5,a6,a7,t8,t9,b0,b1,b2,b3,b4,b5,b6,b7,b8,b9,d0,d1,d2,d3,d4,d5,d6,d7,d8,d9,e0,e1,e2,e3,e4,e5,e6,e7,e8,e9,f0,f1,f2,t43,f4], h3)) ())) ())) ())) := by rw [awp_eq]; kernel_rfl
noncomputable def c20_35 : Code := cr c20_33
theorem w20_35 : awp X n c20_35 Q st = Q .ret st := by rw [awp_eq]; kernel_rfl
theorem w20_33 : awp X n c20_33 Q st = awp X n c20_34 (thenQ (awp X n c20_35 Q) Q) st := by rw [awp_eq]; kernel_rfl
noncomputable def c20_36 : Code := cr c20_32
theorem w20_36 : awp X n c20_36 Q st = Q .normal st := by rw [awp_eq]; kernel_rfl
theorem w20_32 : awp X n c20_32 Q ([a0,a1,a2,a3,a4,a5,a6,a7,a8,a9,b0,b1,b2,b3,b4,b5,b6,b7,b8,b9,d0,d1,d2,d3,d4,d5,d6,d7,d8,d9,e0,e1,e2,e3,e4,e5,e6,e7,e8,e9,f0,f1,f2,f3,f4], h) = a_cond f2 (awp X n c20_33 Q ([a0,a1,a2,a3,a4,a5,a6,a7,a8,a9,b0,b1,b2,b3,b4,b5,b6,b7,b8,b9,d0,d1,d2,d3,d4,d5,d6,d7,d8,d9,e0,e1,e2,e3,e4,e5,e6,e7,e8,e9,f0,f1,f2,f3,f4], h)) (awp X n c20_36 Q ([a0,a1,a2,a3,a4,a5,a6,a7,a8,a9,b0,b1,b2,b3,b4,b5,b6,b7,b8,b9,d0,d1,d2,d3,d4,d5,d6,d7,d8,d9,e0,e1,e2,e3,e4,e5,e6,e7,e8,e9,f0,f1,f2,f3,f4], h)) := by rw [awp_eq]; kernel_rfl
theorem w20_30 : awp X n c20_30 Q st = awp X n c20_31 (thenQ (awp X n c20_32 Q) Q) st := by rw [awp_eq]; kernel_rfl
noncomputable def c20_37 : Code := cr c20_29
noncomputable def c20_38 : Code := cl c20_37
theorem w20_38 : awp X n c20_38 Q ([a0,a1,a2,a3,a4,a5,a6,a7,a8,a9,b0,b1,b2,b3,b4,b5,b6,b7,b8,b9,d0,d1,d2,d3,d4,d5,d6,d7,d8,d9,e0,e1,e2,e3,e4,e5,e6,e7,e8,e9,f0,f1,f2,f3,f4], h) = (a_mov b2 h (.c (fun t44 h1 => a_mov t44 h1 (.c (fun t8 h2 => a_mov (.v (.int .i64 0)) h2 (.c (fun t9 h3 => Q .normal ([a0,a1,a2,a3,a4,a5,a6,a7,t8,t9,b0,b1,b2,b3,b4,b5,b6,b7,b8,b9,d0,d1,d2,d3,d4,d5,d6,d7,d8,d9,e0,e1,e2,e3,e4,e5,e6,e7,e8,e9,f0,f1,f2,f3,t44], h3)) ())) ())) ())) := by rw [awp_eq]; kernel_rfl
noncomputable def c20_39 : Code := cr c20_37
theorem w20_39 : awp X n c20_39 Q st = Q .ret st := by rw [awp_eq]; kernel_rfl
theorem w20_37 : awp X n c20_37 Q st = awp X n c20_38 (thenQ (awp X n c20_39 Q) Q) st := by rw [awp_eq]; kernel_rfl
theorem w20_29 : awp X n c20_29 Q st = awp X n c20_30 (thenQ (awp X n c20_37 Q) Q) st := by rw [awp_eq]; kernel_rfl
theorem w20_27 : awp X n c20_27 Q st = awp X n c20_28 (thenQ (awp X n c20_29 Q) Q) st := by rw [awp_eq]; kernel_rfl
theorem w20_2 : awp X n c20_2 Q st = awp X n c20_3 (thenQ (awp X n c20_27 Q) Q) st := by rw [awp_eq]; kernel_rfl
theorem w20_0 : awp X n c20_0 Q st = awp X n c20_1 (thenQ (awp X n c20_2 Q) Q) st := by rw [awp_eq]; kernel_rfl
theorem q20_ret : retQ X Tryd.f20 K .ret ([a0,a1,a2,a3,a4,a5,a6,a7,a8,a9,b0,b1,b2,b3,b4,b5,b6,b7,b8,b9,d0,d1,d2,d3,d4,d5,d6,d7,d8,d9,e0,e1,e2,e3,e4,e5,e6,e7,e8,e9,f0,f1,f2,f3,f4], h) = (K.K (.t [a8, a9]) h) := by kernel_rfl
theorem q20_normal : retQ X Tryd.f20 K .normal ([a0,a1,a2,a3,a4,a5,a6,a7,a8,a9,b0,b1,b2,b3,b4,b5,b6,b7,b8,b9,d0,d1,d2,d3,d4,d5,d6,d7,d8,d9,e0,e1,e2,e3,e4,e5,e6,e7,e8,e9,f0,f1,f2,f3,f4], h) = (K.K (.t [a8, a9]) h) := by kernel_rfl
theorem i20 (H : awp X h.length c20_0 (retQ X Tryd.f20 K) ([a0,a1,a2,a3,.bad,.bad,.bad,.bad,.bad,.bad,.bad,.bad,.bad,.bad,.bad,.bad,.bad,.bad,.bad,.bad,.bad,.bad,.bad,.bad,.bad,.bad,.bad,.bad,.bad,.bad,.bad,.bad,.bad,.bad,.bad,.bad,.bad,.bad,.bad,.bad,.bad,.bad,.bad,.bad,.bad], h)) : ACall X 20 [a0, a1, a2, a3] h K := acall_intro (fn := Tryd.f20) (by kernel_rfl) (by kernel_rfl) (by kernel_rfl) H
noncomputable def R20 := And.intro (And.intro (And.intro (And.intro (And.intro w20_1 w20_4) (And.intro (w20_8) (And.intro w20_11 w20_12))) (And.intro (And.intro w20_10 w20_16) (And.intro (w20_19) (And.intro w20_22 w20_23)))) (And.intro (And.intro (And.intro w20_21 w20_24) (And.intro (w20_20) (And.intro w20_18 w20_25))) (And.intro (And.intro (w20_17) (And.intro w20_15 w20_14)) (And.intro (w20_26) (And.intro w20_13 w20_9))))) (And.intro (And.intro (And.intro (And.intro w20_7 w20_6) (And.intro (w20_5) (And.intro w20_3 w20_28))) (And.intro (And.intro w20_31 w20_34) (And.intro (w20_35) (And.intro w20_33 w20_36)))) (And.intro (And.intro (And.intro w20_32 w20_30) (And.intro (w20_38) (And.intro w20_39 w20_37))) (And.intro (And.intro (w20_29) (And.intro w20_27 w20_2)) (And.intro (w20_0) (And.intro q20_ret q20_normal)))))
/-! function 25: sindri/tables.all -/
noncomputable def c25_0 : Code := bodyOf Tryd.f25
noncomputable def c25_1 : Code := cl c25_0
theorem w25_1 : awp X n c25_1 Q ([a0,a1,a2,a3,a4,a5,a6,a7,a8,a9,b0,b1,b2,b3,b4,b5,b6,b7,b8,b9,d0,d1,d2,d3,d4,d5,d6,d7,d8,d9,e0,e1,e2,e3,e4,e5,e6,e7,e8,e9,f0,f1,f2,f3,f4,f5,f6,f7,f8,f9,g0,g1,g2,g3,g4,g5,g6,g7,g8,g9,j0,j1,j2,j3,j4,j5,j6,j7,j8,j9,k0,k1,k2], h) = (a_mov (.v (.slice none 0 0)) h (.c (fun t6 h1 => a_mov (.v (.int .i64 0)) h1 (.c (fun t7 h2 => Q .normal ([a0,a1,a2,a3,a4,a5,t6,t7,a8,a9,b0,b1,b2,b3,b4,b5,b6,b7,b8,b9,d0,d1,d2,d3,d4,d5,d6,d7,d8,d9,e0,e1,e2,e3,e4,e5,e6,e7,e8,e9,f0,f1,f2,f3,f4,f5,f6,f7,f8,f9,g0,g1,g2,g3,g4,g5,g6,g7,g8,g9,j0,j1,j2,j3,j4,j5,j6,j7,j8,j9,k0,k1,k2], h2)) ())) ())) := by rw [awp_eq]; kernel_rfl
noncomputable def c25_2 : Code := cr c25_0
noncomputable def c25_3 : Code := cl c25_2
theorem w25_3 : awp X n c25_3 Q ([a0,a1,a2,a3,a4,a5,a6,a7,a8,a9,b0,b1,b2,b3,b4,b5,b6,b7,b8,b9,d0,d1,d2,d3,d4,d5,d6,d7,d8,d9,e0,e1,e2,e3,e4,e5,e6,e7,e8,e9,f0,f1,f2,f3,f4,f5,f6,f7,f8,f9,g0,g1,g2,g3,g4,g5,g6,g7,g8,g9,j0,j1,j2,j3,j4,j5,j6,j7,j8,j9,k0,k1,k2], h) = (a_mov a0 h (.c (fun t16 h1 => ACall X 17 [t16] h1 (.c (fun t17 h2 => a_mov t17 h2 (.c (fun t8 h3 => Q .normal ([a0,a1,a2,a3,a4,a5,a6,a7,t8,a9,b0,b1,b2,b3,b4,b5,t16,t17,b8,b9,d0,d1,d2,d3,d4,d5,d6,d7,d8,d9,e0,e1,e2,e3,e4,e5,e6,e7,e8,e9,f0,f1,f2,f3,f4,f5,f6,f7,f8,f9,g0,g1,g2,g3,g4,g5,g6,g7,g8,g9,j0,j1,j2,j3,j4,j5,j6,j7,j8,j9,k0,k1,k2], h3)) ())) ())) ())) := by rw [awp_eq]; kernel_rfl
noncomputable def c25_4 : Code := cr c25_2
noncomputable def c25_5 : Code := cl c25_4
theorem w25_5 : awp X n c25_5 Q ([a0,a1,a2,a3,a4,a5,a6,a7,a8,a9,b0,b1,b2,b3,b4,b5,b6,b7,b8,b9,d0,d1,d2,d3,d4,d5,d6,d7,d8,d9,e0,e1,e2,e3,e4,e5,e6,e7,e8,e9,f0,f1,f2,f3,f4,f5,f6,f7,f8,f9,g0,g1,g2,g3,g4,g5,g6,g7,g8,g9,j0,j1,j2,j3,j4,j5,j6,j7,j8,j9,k0,k1,k2], h) = (a_mov (.v (.slice none 0 0)) h (.c (fun t9 h1 => Q .normal ([a0,a1,a2,a3,a4,a5,a6,a7,a8,t9,b0,b1,b2,b3,b4,b5,b6,b7,b8,b9,d0,d1,d2,d3,d4,d5,d6,d7,d8,d9,e0,e1,e2,e3,e4,e5,e6,e7,e8,e9,f0,f1,f2,f3,f4,f5,f6,f7,f8,f9,g0,g1,g2,g3,g4,g5,g6,g7,g8,g9,j0,j1,j2,j3,j4,j5,j6,j7,j8,j9,k0,k1,k2], h1)) ())) := by rw [awp_eq]; kernel_rfl
noncomputable def c25_6 : Code := cr c25_4
noncomputable def c25_7 : Code := cl c25_6
noncomputable def c25_8 : Code := cl c25_7
noncomputable def c25_9 : Code := cl c25_8
noncomputable def c25_10 : Code := cl c25_9
noncomputable def c25_11 : Code := cl c25_10
theorem w25_11 : awp X n c25_11 Q ([a0,a1,a2,a3,a4,a5,a6,a7,a8,a9,b0,b1,b2,b3,b4,b5,b6,b7,b8,b9,d0,d1,d2,d3,d4,d5,d6,d7,d8,d9,e0,e1,e2,e3,e4,e5,e6,e7,e8,e9,f0,f1,f2,f3,f4,f5,f6,f7,f8,f9,g0,g1,g2,g3,g4,g5,g6,g7,g8,g9,j0,j1,j2,j3,j4,j5,j6,j7,j8,j9,k0,k1,k2], h) = (a_mov a8 h (.c (fun t18 h1 => ACall X 41 [t18] h1 (.c (fun t19 h2 => a_bin .gtr t19 (.v (.int .i64 0)) h2 (.c (fun t20 h3 => Q .normal ([a0,a1,a2,a3,a4,a5,a6,a7,a8,a9,b0,b1,b2,b3,b4,b5,b6,b7,t18,t19,t20,d1,d2,d3,d4,d5,d6,d7,d8,d9,e0,e1,e2,e3,e4,e5,e6,e7,e8,e9,f0,f1,f2,f3,f4,f5,f6,f7,f8,f9,g0,g1,g2,g3,g4,g5,g6,g7,g8,g9,j0,j1,j2,j3,j4,j5,j6,j7,j8,j9,k0,k1,k2], h3)) ())) ())) ())) := by rw [awp_eq]; kernel_rfl
noncomputable def c25_12 : Code := cr c25_10
noncomputable def c25_13 : Code := cl c25_12
theorem w25_13 : awp X n c25_13 Q st = Q .normal st := by rw [awp_eq]; kernel_rfl
noncomputable def c25_14 : Code := cr c25_12
theorem w25_14 : awp X n c25_14 Q st = Q (.exit 0) st := by rw [awp_eq]; kernel_rfl
theorem w25_12 : awp X n c25_12 Q ([a0,a1,a2,a3,a4,a5,a6,a7,a8,a9,b0,b1,b2,b3,b4,b5,b6,b7,b8,b9,d0,d1,d2,d3,d4,d5,d6,d7,d8,d9,e0,e1,e2,e3,e4,e5,e6,e7,e8,e9,f0,f1,f2,f3,f4,f5,f6,f7,f8,f9,g0,g1,g2,g3,g4,g5,g6,g7,g8,g9,j0,j1,j2,j3,j4,j5,j6,j7,j8,j9,k0,k1,k2], h) = a_cond d0 (awp X n c25_13 Q ([a0,a1,a2,a3,a4,a5,a6,a7,a8,a9,b0,b1,b2,b3,b4,b5,b6,b7,b8,b9,d0,d1,d2,d3,d4,d5,d6,d7,d8,d9,e0,e1,e2,e3,e4,e5,e6,e7,e8,e9,f0,f1,f2,f3,f4,f5,f6,f7,f8,f9,g0,g1,g2,g3,g4,g5,g6,g7,g8,g9,j0,j1,j2,j3,j4,j5,j6,j7,j8,j9,k0,k1,k2], h)) (awp X n c25_14 Q ([a0,a1,a2,a3,a4,a5,a6,a7,a8,a9,b0,b1,b2,b3,b4,b5,b6,b7,b8,b9,d0,d1,d2,d3,d4,d5,d6,d7,d8,d9,e0,e1,e2,e3,e4,e5,e6,e7,e8,e9,f0,f1,f2,f3,f4,f5,f6,f7,f8,f9,g0,g1,g2,g3,g4,g5,g6,g7,g8,g9,j0,j1,j2,j3,j4,j5,j6,j7,j8,j9,k0,k1,k2], h)) := by rw [awp_eq]; kernel_rfl
theorem w25_10 : awp X n c25_10 Q st = awp X n c25_11 (thenQ (awp X n c25_12 Q) Q) st := by rw [awp_eq]; kernel_rfl
noncomputable def c25_15 : Code := cr c25_9
noncomputable def c25_16 : Code := cl c25_15
noncomputable def c25_17 : Code := cl c25_16
theorem w25_17 : awp X n c25_17 Q ([a0,a1,a2,a3,a4,a5,a6,a7,a8,a9,b0,b1,b2,b3,b4,b5,b6,b7,b8,b9,d0,d1,d2,d3,d4,d5,d6,d7,d8,d9,e0,e1,e2,e3,e4,e5,e6,e7,e8,e9,f0,f1,f2,f3,f4,f5,f6,f7,f8,f9,g0,g1,g2,g3,g4,g5,g6,g7,g8,g9,j0,j1,j2,j3,j4,j5,j6,j7,j8,j9,k0,k1,k2], h) = (a_mov a8 h (.c (fun t22 h1 => ACall X 42 [t22] h1 (.c (fun t23 h2 => a_mov t23 h2 (.c (fun t21 h3 => a_ext 0 t21 h3 (.c (fun t24 h4 => a_ext 1 t21 h4 (.c (fun t25 h5 => a_mov t24 h5 (.c (fun t10 h6 => a_mov t25 h6 (.c (fun t11 h7 => Q .normal ([a0,a1,a2,a3,a4,a5,a6,a7,a8,a9,t10,t11,b2,b3,b4,b5,b6,b7,b8,b9,d0,t21,t22,t23,t24,t25,d6,d7,d8,d9,e0,e1,e2,e3,e4,e5,e6,e7,e8,e9,f0,f1,f2,f3,f4,f5,f6,f7,f8,f9,g0,g1,g2,g3,g4,g5,g6,g7,g8,g9,j0,j1,j2,j3,j4,j5,j6,j7,j8,j9,k0,k1,k2], h7)) ())) ())) ())) ())) ())) ())) ())) := by rw [awp_eq]; kernel_rfl
noncomputable def c25_18 : Code := cr c25_16
noncomputable def c25_19 : Code := cl c25_18
theorem w25_19 : awp X n c25_19 Q ([a0,a1,a2,a3,a4,a5,a6,a7,a8,a9,b0,b1,b2,b3,b4,b5,b6,b7,b8,b9,d0,d1,d2,d3,d4,d5,d6,d7,d8,d9,e0,e1,e2,e3,e4,e5,e6,e7,e8,e9,f0,f1,f2,f3,f4,f5,f6,f7,f8,f9,g0,g1,g2,g3,g4,g5,g6,g7,g8,g9,j0,j1,j2,j3,j4,j5,j6,j7,j8,j9,k0,k1,k2], h) = (a_mov a1 h (.c (fun t26 h1 => a_mov b0 h1 (.c (fun t27 h2 => a_callv X t26 [t27] h2 (.c (fun t28 h3 => a_mov t28 h3 (.c (fun t12 h4 => Q .normal ([a0,a1,a2,a3,a4,a5,a6,a7,a8,a9,b0,b1,t12,b3,b4,b5,b6,b7,b8,b9,d0,d1,d2,d3,d4,d5,t26,t27,t28,d9,e0,e1,e2,e3,e4,e5,e6,e7,e8,e9,f0,f1,f2,f3,f4,f5,f6,f7,f8,f9,g0,g1,g2,g3,g4,g5,g6,g7,g8,g9,j0,j1,j2,j3,j4,j5,j6,j7,j8,j9,k0,k1,k2], h4)) ())) ())) ())) ())) := by rw [awp_eq]; kernel_rfl
noncomputable def c25_20 : Code := cr c25_18
noncomputable def c25_21 : Code := cl c25_20
noncomputable def c25_22 : Code := cl c25_21
theorem w25_22 : awp X n c25_22 Q ([a0,a1,a2,a3,a4,a5,a6,a7,a8,a9,b0,b1,b2,b3,b4,b5,b6,b7,b8,b9,d0,d1,d2,d3,d4,d5,d6,d7,d8,d9,e0,e1,e2,e3,e4,e5,e6,e7,e8,e9,f0,f1,f2,f3,f4,f5,f6,f7,f8,f9,g0,g1,g2,g3,g4,g5,g6,g7,g8,g9,j0,j1,j2,j3,j4,j5,j6,j7,j8,j9,k0,k1,k2], h) = (a_mov b0 h (.c (fun t29 h1 => ACall X 34 [t29] h1 (.c (fun t30 h2 => a_mov t30 h2 (.c (fun t13 h3 => Q .normal ([a0,a1,a2,a3,a4,a5,a6,a7,a8,a9,b0,b1,b2,t13,b4,b5,b6,b7,b8,b9,d0,d1,d2,d3,d4,d5,d6,d7,d8,t29,t30,e1,e2,e3,e4,e5,e6,e7,e8,e9,f0,f1,f2,f3,f4,f5,f6,f7,f8,f9,g0,g1,g2,g3,g4,g5,g6,g7,g8,g9,j0,j1,j2,j3,j4,j5,j6,j7,j8,j9,k0,k1,k2], h3)) ())) ())) ())) := by rw [awp_eq]; kernel_rfl
noncomputable def c25_23 : Code := cr c25_21
noncomputable def c25_24 : Code := cl c25_23
theorem w25_24 : awp X n c25_24 Q ([a0,a1,a2,a3,a4,a5,a6,a7,a8,a9,b0,b1,b2,b3,b4,b5,b6,b7,b8,b9,d0,d1,d2,d3,d4,d5,d6,d7,d8,d9,e0,e1,e2,e3,e4,e5,e6,e7,e8,e9,f0,f1,f2,f3,f4,f5,f6,f7,f8,f9,g0,g1,g2,g3,g4,g5,g6,g7,g8,g9,j0,j1,j2,j3,j4,j5,j6,j7,j8,j9,k0,k1,k2], h) = (a_mov b3 h (.c (fun t31 h1 => a_bin .neq t31 (.v (.int .i64 0)) h1 (.c (fun t32 h2 => Q .normal ([a0,a1,a2,a3,a4,a5,a6,a7,a8,a9,b0,b1,b2,b3,b4,b5,b6,b7,b8,b9,d0,d1,d2,d3,d4,d5,d6,d7,d8,d9,e0,t31,t32,e3,e4,e5,e6,e7,e8,e9,f0,f1,f2,f3,f4,f5,f6,f7,f8,f9,g0,g1,g2,g3,g4,g5,g6,g7,g8,g9,j0,j1,j2,j3,j4,j5,j6,j7,j8,j9,k0,k1,k2], h2)) ())) ())) := by rw [awp_eq]; kernel_rfl
noncomputable def c25_25 : Code := cr c25_23
noncomputable def c25_26 : Code := cl c25_25
noncomputable def c25_27 : Code := cl c25_26
theorem w25_27 : awp X n c25_27 Q ([a0,a1,a2,a3,a4,a5,a6,a7,a8,a9,b0,b1,b2,b3,b4,b5,b6,b7,b8,b9,d0,d1,d2,d3,d4,d5,d6,d7,d8,d9,e0,e1,e2,e3,e4,e5,e6,e7,e8,e9,f0,f1,f2,f3,f4,f5,f6,f7,f8,f9,g0,g1,g2,g3,g4,g5,g6,g7,g8,g9,j0,j1,j2,j3,j4,j5,j6,j7,j8,j9,k0,k1,k2], h) = (a_mov b3 h (.c (fun t33 h1 => a_mov (.v (.slice none 0 0)) h1 (.c (fun t6 h2 => a_mov t33 h2 (.c (fun t7 h3 => Q .normal ([a0,a1,a2,a3,a4,a5,t6,t7,a8,a9,b0,b1,b2,b3,b4,b5,b6,b7,b8,b9,d0,d1,d2,d3,d4,d5,d6,d7,d8,d9,e0,e1,e2,t33,e4,e5,e6,e7,e8,e9,f0,f1,f2,f3,f4,f5,f6,f7,f8,f9,g0,g1,g2,g3,g4,g5,g6,g7,g8,g9,j0,j1,j2,j3,j4,j5,j6,j7,j8,j9,k0,k1,k2], h3)) ())) ())) ())) := by rw [awp_eq]; kernel_rfl
noncomputable def c25_28 : Code := cr c25_26
theorem w25_28 : awp X n c25_28 Q st = Q .ret st := by rw [awp_eq]; kernel_rfl
theorem w25_26 : awp X n c25_26 Q st = awp X n c25_27 (thenQ (awp X n c25_28 Q) Q) st := by rw [awp_eq]; kernel_rfl
noncomputable def c25_29 : Code := cr c25_25
theorem w25_29 : awp X n c25_29 Q st = Q .normal st := by rw [awp_eq]; kernel_rfl
theorem w25_25 : awp X n c25_25 Q ([a0,a1,a2,a3,a4,a5,a6,a7,a8,a9,b0,b1,b2,b3,b4,b5,b6,b7,b8,b9,d0,d1,d2,d3,d4,d5,d6,d7,d8,d9,e0,e1,e2,e3,e4,e5,e6,e7,e8,e9,f0,f1,f2,f3,f4,f5,f6,f7,f8,f9,g0,g1,g2,g3,g4,g5,g6,g7,g8,g9,j0,j1,j2,j3,j4,j5,j6,j7,j8,j9,k0,k1,k2], h) = a_cond e2 (awp X n c25_26 Q ([a0,a1,a2,a3,a4,a5,a6,a7,a8,a9,b0,b1,b2,b3,b4,b5,b6,b7,b8,b9,d0,d1,d2,d3,d4,d5,d6,d7,d8,d9,e0,e1,e2,e3,e4,e5,e6,e7,e8,e9,f0,f1,f2,f3,f4,f5,f6,f7,f8,f9,g0,g1,g2,g3,g4,g5,g6,g7,g8,g9,j0,j1,j2,j3,j4,j5,j6,j7,j8,j9,k0,k1,k2], h)) (awp X n c25_29 Q ([a0,a1,a2,a3,a4,a5,a6,a7,a8,a9,b0,b1,b2,b3,b4,b5,b6,b7,b8,b9,d0,d1,d2,d3,d4,d5,d6,d7,d8,d9,e0,e1,e2,e3,e4,e5,e6,e7,e8,e9,f0,f1,f2,f3,f4,f5,f6,f7,f8,f9,g0,g1,g2,g3,g4,g5,g6,g7,g8,g9,j0,j1,j2,j3,j4,j5,j6,j7,j8,j9,k0,k1,k2], h)) := by rw [awp_eq]; kernel_rfl
theorem w25_23 : awp X n c25_23 Q st = awp X n c25_24 (thenQ (awp X n c25_25 Q) Q) st := by rw [awp_eq]; kernel_rfl
theorem w25_21 : awp X n c25_21 Q st = awp X n c25_22 (thenQ (awp X n c25_23 Q) Q) st := by rw [awp_eq]; kernel_rfl
noncomputable def c25_30 : Code := cr c25_20
noncomputable def c25_31 : Code := cl c25_30
theorem w25_31 : awp X n c25_31 Q ([a0,a1,a2,a3,a4,a5,a6,a7,a8,a9,b0,b1,b2,b3,b4,b5,b6,b7,b8,b9,d0,d1,d2,d3,d4,d5,d6,d7,d8,d9,e0,e1,e2,e3,e4,e5,e6,e7,e8,e9,f0,f1,f2,f3,f4,f5,f6,f7,f8,f9,g0,g1,g2,g3,g4,g5,g6,g7,g8,g9,j0,j1,j2,j3,j4,j5,j6,j7,j8,j9,k0,k1,k2], h) = (a_mov a2 h (.c (fun t34 h1 => a_mov b1 h1 (.c (fun t35 h2 => a_callv X t34 [t35] h2 (.c (fun t36 h3 => a_mov t36 h3 (.c (fun t14 h4 => Q .normal ([a0,a1,a2,a3,a4,a5,a6,a7,a8,a9,b0,b1,b2,b3,t14,b5,b6,b7,b8,b9,d0,d1,d2,d3,d4,d5,d6,d7,d8,d9,e0,e1,e2,e3,t34,t35,t36,e7,e8,e9,f0,f1,f2,f3,f4,f5,f6,f7,f8,f9,g0,g1,g2,g3,g4,g5,g6,g7,g8,g9,j0,j1,j2,j3,j4,j5,j6,j7,j8,j9,k0,k1,k2], h4)) ())) ())) ())) ())) := by rw [awp_eq]; kernel_rfl
noncomputable def c25_32 : Code := cr c25_30
noncomputable def c25_33 : Code := cl c25_32
theorem w25_33 : awp X n c25_33 Q ([a0,a1,a2,a3,a4,a5,a6,a7,a8,a9,b0,b1,b2,b3,b4,b5,b6,b7,b8,b9,d0,d1,d2,d3,d4,d5,d6,d7,d8,d9,e0,e1,e2,e3,e4,e5,e6,e7,e8,e9,f0,f1,f2,f3,f4,f5,f6,f7,f8,f9,g0,g1,g2,g3,g4,g5,g6,g7,g8,g9,j0,j1,j2,j3,j4,j5,j6,j7,j8,j9,k0,k1,k2], h) = (a_mov b1 h (.c (fun t37 h1 => a_mov a8 h1 (.c (fun t38 h2 => ACall X 43 [t38] h2 (.c (fun t39 h3 => a_mov b0 h3 (.c (fun t40 h4 => ACall X 41 [t40] h4 (.c (fun t41 h5 => a_bin .sub t39 t41 h5 (.c (fun t42 h6 => a_cint .u64 t42 h6 (.c (fun t43 h7 => a_build [.v (.bool false), .v (.int .u64 0), .v (.slice none 0 0)] [(0, 1, t37), (1, 1, t43)] h7 (.c (fun t44 h8 => a_alloc [.v (.bool false), .v (.int .u64 0), .v (.slice none 0 0)] h8 (.c (fun t15 h9 => a_store 3 t15 t44 h9 (.c (fun _v9 h10 => Q .normal ([a0,a1,a2,a3,a4,a5,a6,a7,a8,a9,b0,b1,b2,b3,b4,t15,b6,b7,b8,b9,d0,d1,d2,d3,d4,d5,d6,d7,d8,d9,e0,e1,e2,e3,e4,e5,e6,t37,t38,t39,t40,t41,t42,t43,t44,f5,f6,f7,f8,f9,g0,g1,g2,g3,g4,g5,g6,g7,g8,g9,j0,j1,j2,j3,j4,j5,j6,j7,j8,j9,k0,k1,k2], h10)) ())) ())) ())) ())) ())) ())) ())) ())) ())) ())) := by rw [awp_eq]; kernel_rfl
noncomputable def c25_34 : Code := cr c25_32
noncomputable def c25_35 : Code := cl c25_34
noncomputable def c25_36 : Code := cl c25_35
noncomputable def c25_37 : Code := cl c25_36
theorem w25_37 : awp X n c25_37 Q ([a0,a1,a2,a3,a4,a5,a6,a7,a8,a9,b0,b1,b2,b3,b4,b5,b6,b7,b8,b9,d0,d1,d2,d3,d4,d5,d6,d7,d8,d9,e0,e1,e2,e3,e4,e5,e6,e7,e8,e9,f0,f1,f2,f3,f4,f5,f6,f7,f8,f9,g0,g1,g2,g3,g4,g5,g6,g7,g8,g9,j0,j1,j2,j3,j4,j5,j6,j7,j8,j9,k0,k1,k2], h) = (a_mov b2 h (.c (fun t46 h1 => a_un .not t46 h1 (.c (fun t47 h2 => a_mov t47 h2 (.c (fun t45 h3 => Q .normal ([a0,a1,a2,a3,a4,a5,a6,a7,a8,a9,b0,b1,b2,b3,b4,b5,b6,b7,b8,b9,d0,d1,d2,d3,d4,d5,d6,d7,d8,d9,e0,e1,e2,e3,e4,e5,e6,e7,e8,e9,f0,f1,f2,f3,f4,t45,t46,t47,f8,f9,g0,g1,g2,g3,g4,g5,g6,g7,g8,g9,j0,j1,j2,j3,j4,j5,j6,j7,j8,j9,k0,k1,k2], h3)) ())) ())) ())) := by rw [awp_eq]; kernel_rfl
noncomputable def c25_38 : Code := cr c25_36
noncomputable def c25_39 : Code := cl c25_38
noncomputable def c25_40 : Code := cl c25_39
theorem w25_40 : awp X n c25_40 Q ([a0,a1,a2,a3,a4,a5,a6,a7,a8,a9,b0,b1,b2,b3,b4,b5,b6,b7,b8,b9,d0,d1,d2,d3,d4,d5,d6,d7,d8,d9,e0,e1,e2,e3,e4,e5,e6,e7,e8,e9,f0,f1,f2,f3,f4,f5,f6,f7,f8,f9,g0,g1,g2,g3,g4,g5,g6,g7,g8,g9,j0,j1,j2,j3,j4,j5,j6,j7,j8,j9,k0,k1,k2], h) = (a_mov (.v (.slice none 0 0)) h (.c (fun t6 h1 => a_mov (.v (.int .i64 42)) h1 (.c (fun t7 h2 => Q .normal ([a0,a1,a2,a3,a4,a5,t6,t7,a8,a9,b0,b1,b2,b3,b4,b5,b6,b7,b8,b9,d0,d1,d2,d3,d4,d5,d6,d7,d8,d9,e0,e1,e2,e3,e4,e5,e6,e7,e8,e9,f0,f1,f2,f3,f4,f5,f6,f7,f8,f9,g0,g1,g2,g3,g4,g5,g6,g7,g8,g9,j0,j1,j2,j3,j4,j5,j6,j7,j8,j9,k0,k1,k2], h2)) ())) ())) := by rw [awp_eq]; kernel_rfl
noncomputable def c25_41 : Code := cr c25_39
theorem w25_41 : awp X n c25_41 Q st = Q .ret st := by rw [awp_eq]; kernel_rfl
theorem w25_39 : awp X n c25_39 Q st = awp X n c25_40 (thenQ (awp X n c25_41 Q) Q) st := by rw [awp_eq]; kernel_rfl
noncomputable def c25_42 : Code := cr c25_38
noncomputable def c25_43 : Code := cl c25_42
theorem w25_43 : awp X n c25_43 Q ([a0,a1,a2,a3,a4,a5,a6,a7,a8,a9,b0,b1,b2,b3,b4,b5,b6,b7,b8,b9,d0,d1,d2,d3,d4,d5,d6,d7,d8,d9,e0,e1,e2,e3,e4,e5,e6,e7,e8,e9,f0,f1,f2,f3,f4,f5,f6,f7,f8,f9,g0,g1,g2,g3,g4,g5,g6,g7,g8,g9,j0,j1,j2,j3,j4,j5,j6,j7,j8,j9,k0,k1,k2], h) = (a_mov b0 h (.c (fun t49 h1 => ACall X 41 [t49] h1 (.c (fun t50 h2 => a_mov b4 h2 (.c (fun t51 h3 => a_bin .rem t50 t51 h3 (.c (fun t52 h4 => a_bin .neq t52 (.v (.int .i64 0)) h4 (.c (fun t53 h5 => a_mov t53 h5 (.c (fun t48 h6 => Q .normal ([a0,a1,a2,a3,a4,a5,a6,a7,a8,a9,b0,b1,b2,b3,b4,b5,b6,b7,b8,b9,d0,d1,d2,d3,d4,d5,d6,d7,d8,d9,e0,e1,e2,e3,e4,e5,e6,e7,e8,e9,f0,f1,f2,f3,f4,f5,f6,f7,t48,t49,t50,t51,t52,t53,g4,g5,g6,g7,g8,g9,j0,j1,j2,j3,j4,j5,j6,j7,j8,j9,k0,k1,k2], h6)) ())) ())) ())) ())) ())) ())) := by rw [awp_eq]; kernel_rfl
noncomputable def c25_44 : Code := cr c25_42
noncomputable def c25_45 : Code := cl c25_44
noncomputable def c25_46 : Code := cl c25_45
theorem w25_46 : awp X n c25_46 Q ([a0,a1,a2,a3,a4,a5,a6,a7,a8,a9,b0,b1,b2,b3,b4,b5,b6,b7,b8,b9,d0,d1,d2,d3,d4,d5,d6,d7,d8,d9,e0,e1,e2,e3,e4,e5,e6,e7,e8,e9,f0,f1,f2,f3,f4,f5,f6,f7,f8,f9,g0,g1,g2,g3,g4,g5,g6,g7,g8,g9,j0,j1,j2,j3,j4,j5,j6,j7,j8,j9,k0,k1,k2], h) = (a_mov (.v (.slice none 0 0)) h (.c (fun t6 h1 => a_mov (.v (.int .i64 10)) h1 (.c (fun t7 h2 => Q .normal ([a0,a1,a2,a3,a4,a5,t6,t7,a8,a9,b0,b1,b2,b3,b4,b5,b6,b7,b8,b9,d0,d1,d2,d3,d4,d5,d6,d7,d8,d9,e0,e1,e2,e3,e4,e5,e6,e7,e8,e9,f0,f1,f2,f3,f4,f5,f6,f7,f8,f9,g0,g1,g2,g3,g4,g5,g6,g7,g8,g9,j0,j1,j2,j3,j4,j5,j6,j7,j8,j9,k0,k1,k2], h2)) ())) ())) := by rw [awp_eq]; kernel_rfl
noncomputable def c25_47 : Code := cr c25_45
theorem w25_47 : awp X n c25_47 Q st = Q .ret st := by rw [awp_eq]; kernel_rfl
theorem w25_45 : awp X n c25_45 Q st = awp X n c25_46 (thenQ (awp X n c25_47 Q) Q) st := by rw [awp_eq]; kernel_rfl
noncomputable def c25_48 : Code := cr c25_44
theorem w25_48 : awp X n c25_48 Q st = Q .normal st := by rw [awp_eq]; kernel_rfl
theorem w25_44 : awp X n c25_44 Q ([a0,a1,a2,a3,a4,a5,a6,a7,a8,a9,b0,b1,b2,b3,b4,b5,b6,b7,b8,b9,d0,d1,d2,d3,d4,d5,d6,d7,d8,d9,e0,e1,e2,e3,e4,e5,e6,e7,e8,e9,f0,f1,f2,f3,f4,f5,f6,f7,f8,f9,g0,g1,g2,g3,g4,g5,g6,g7,g8,g9,j0,j1,j2,j3,j4,j5,j6,j7,j8,j9,k0,k1,k2], h) = a_cond f8 (awp X n c25_45 Q ([a0,a1,a2,a3,a4,a5,a6,a7,a8,a9,b0,b1,b2,b3,b4,b5,b6,b7,b8,b9,d0,d1,d2,d3,d4,d5,d6,d7,d8,d9,e0,e1,e2,e3,e4,e5,e6,e7,e8,e9,f0,f1,f2,f3,f4,f5,f6,f7,f8,f9,g0,g1,g2,g3,g4,g5,g6,g7,g8,g9,j0,j1,j2,j3,j4,j5,j6,j7,j8,j9,k0,k1,k2], h)) (awp X n c25_48 Q ([a0,a1,a2,a3,a4,a5,a6,a7,a8,a9,b0,b1,b2,b3,b4,b5,b6,b7,b8,b9,d0,d1,d2,d3,d4,d5,d6,d7,d8,d9,e0,e1,e2,e3,e4,e5,e6,e7,e8,e9,f0,f1,f2,f3,f4,f5,f6,f7,f8,f9,g0,g1,g2,g3,g4,g5,g6,g7,g8,g9,j0,j1,j2,j3,j4,j5,j6,j7,j8,j9,k0,k1,k2], h)) := by rw [awp_eq]; kernel_rfl
theorem w25_42 : awp X n c25_42 Q st = awp X n c25_43 (thenQ (awp X n c25_44 Q) Q) st := by rw [awp_eq]; kernel_rfl
theorem w25_38 : awp X n c25_38 Q ([a0,a1,a2,a3,a4,a5,a6,a7,a8,a9,b0,b1,b2,b3,b4,b5,b6,b7,b8,b9,d0,d1,d2,d3,d4,d5,d6,d7,d8,d9,e0,e1,e2,e3,e4,e5,e6,e7,e8,e9,f0,f1,f2,f3,f4,f5,f6,f7,f8,f9,g0,g1,g2,g3,g4,g5,g6,g7,g8,g9,j0,j1,j2,j3,j4,j5,j6,j7,j8,j9,k0,k1,k2], h) = a_cond f5 (awp X n c25_39 Q ([a0,a1,a2,a3,a4,a5,a6,a7,a8,a9,b0,b1,b2,b3,b4,b5,b6,b7,b8,b9,d0,d1,d2,d3,d4,d5,d6,d7,d8,d9,e0,e1,e2,e3,e4,e5,e6,e7,e8,e9,f0,f1,f2,f3,f4,f5,f6,f7,f8,f9,g0,g1,g2,g3,g4,g5,g6,g7,g8,g9,j0,j1,j2,j3,j4,j5,j6,j7,j8,j9,k0,k1,k2], h)) (awp X n c25_42 Q ([a0,a1,a2,a3,a4,a5,a6,a7,a8,a9,b0,b1,b2,b3,b4,b5,b6,b7,b8,b9,d0,d1,d2,d3,d4,d5,d6,d7,d8,d9,e0,e1,e2,e3,e4,e5,e6,e7,e8,e9,f0,f1,f2,f3,f4,f5,f6,f7,f8,f9,g0,g1,g2,g3,g4,g5,g6,g7,g8,g9,j0,j1,j2,j3,j4,j5,j6,j7,j8,j9,k0,k1,k2], h)) := by rw [awp_eq]; kernel_rfl
theorem w25_36 : awp X n c25_36 Q st = awp X n c25_37 (thenQ (awp X n c25_38 Q) Q) st := by rw [awp_eq]; kernel_rfl
theorem w25_35 : awp X n c25_35 Q st = awp X n c25_36 (blockQ 2 Q) st := by rw [awp_eq]; kernel_rfl
noncomputable def c25_49 : Code := cr c25_34
noncomputable def c25_50 : Code := cl c25_49
noncomputable def c25_51 : Code := cl c25_50
noncomputable def c25_52 : Code := cl c25_51
noncomputable def c25_53 : Code := cl c25_52
noncomputable def c25_54 : Code := cl c25_53
theorem w25_54 : awp X n c25_54 Q ([a0,a1,a2,a3,a4,a5,a6,a7,a8,a9,b0,b1,b2,b3,b4,b5,b6,b7,b8,b9,d0,d1,d2,d3,d4,d5,d6,d7,d8,d9,e0,e1,e2,e3,e4,e5,e6,e7,e8,e9,f0,f1,f2,f3,f4,f5,f6,f7,f8,f9,g0,g1,g2,g3,g4,g5,g6,g7,g8,g9,j0,j1,j2,j3,j4,j5,j6,j7,j8,j9,k0,k1,k2], h) = (a_mov b0 h (.c (fun t54 h1 => ACall X 41 [t54] h1 (.c (fun t55 h2 => a_bin .gtr t55 (.v (.int .i64 0)) h2 (.c (fun t56 h3 => Q .normal ([a0,a1,a2,a3,a4,a5,a6,a7,a8,a9,b0,b1,b2,b3,b4,b5,b6,b7,b8,b9,d0,d1,d2,d3,d4,d5,d6,d7,d8,d9,e0,e1,e2,e3,e4,e5,e6,e7,e8,e9,f0,f1,f2,f3,f4,f5,f6,f7,f8,f9,g0,g1,g2,g3,t54,t55,t56,g7,g8,g9,j0,j1,j2,j3,j4,j5,j6,j7,j8,j9,k0,k1,k2], h3)) ())) ())) ())) := by rw [awp_eq]; kernel_rfl
noncomputable def c25_55 : Code := cr c25_53
noncomputable def c25_56 : Code := cl c25_55
theorem w25_56 : awp X n c25_56 Q st = Q .normal st := by rw [awp_eq]; kernel_rfl
noncomputable def c25_57 : Code := cr c25_55
theorem w25_57 : awp X n c25_57 Q st = Q (.exit 3) st := by rw [awp_eq]; kernel_rfl
theorem w25_55 : awp X n c25_55 Q ([a0,a1,a2,a3,a4,a5,a6,a7,a8,a9,b0,b1,b2,b3,b4,b5,b6,b7,b8,b9,d0,d1,d2,d3,d4,d5,d6,d7,d8,d9,e0,e1,e2,e3,e4,e5,e6,e7,e8,e9,f0,f1,f2,f3,f4,f5,f6,f7,f8,f9,g0,g1,g2,g3,g4,g5,g6,g7,g8,g9,j0,j1,j2,j3,j4,j5,j6,j7,j8,j9,k0,k1,k2], h) = a_cond g6 (awp X n c25_56 Q ([a0,a1,a2,a3,a4,a5,a6,a7,a8,a9,b0,b1,b2,b3,b4,b5,b6,b7,b8,b9,d0,d1,d2,d3,d4,d5,d6,d7,d8,d9,e0,e1,e2,e3,e4,e5,e6,e7,e8,e9,f0,f1,f2,f3,f4,f5,f6,f7,f8,f9,g0,g1,g2,g3,g4,g5,g6,g7,g8,g9,j0,j1,j2,j3,j4,j5,j6,j7,j8,j9,k0,k1,k2], h)) (awp X n c25_57 Q ([a0,a1,a2,a3,a4,a5,a6,a7,a8,a9,b0,b1,b2,b3,b4,b5,b6,b7,b8,b9,d0,d1,d2,d3,d4,d5,d6,d7,d8,d9,e0,e1,e2,e3,e4,e5,e6,e7,e8,e9,f0,f1,f2,f3,f4,f5,f6,f7,f8,f9,g0,g1,g2,g3,g4,g5,g6,g7,g8,g9,j0,j1,j2,j3,j4,j5,j6,j7,j8,j9,k0,k1,k2], h)) := by rw [awp_eq]; kernel_rfl
theorem w25_53 : awp X n c25_53 Q st = awp X n c25_54 (thenQ (awp X n c25_55 Q) Q) st := by rw [awp_eq]; kernel_rfl
noncomputable def c25_58 : Code := cr c25_52
noncomputable def c25_59 : Code := cl c25_58
theorem w25_59 : awp X n c25_59 Q ([a0,a1,a2,a3,a4,a5,a6,a7,a8,a9,b0,b1,b2,b3,b4,b5,b6,b7,b8,b9,d0,d1,d2,d3,d4,d5,d6,d7,d8,d9,e0,e1,e2,e3,e4,e5,e6,e7,e8,e9,f0,f1,f2,f3,f4,f5,f6,f7,f8,f9,g0,g1,g2,g3,g4,g5,g6,g7,g8,g9,j0,j1,j2,j3,j4,j5,j6,j7,j8,j9,k0,k1,k2], h) = (a_fa 2 b5 h (.c (fun t57 h1 => a_load 1 false t57 h1 (.c (fun t58 h2 => a_mov b0 h2 (.c (fun t59 h3 => a_mov b4 h3 (.c (fun t60 h4 => ACall X 19 [t59, t60] h4 (.c (fun t61 h5 => conj [a_load 1 false t57 h5 (.c (fun v_ _ => v_ = t58) ())] ∧ (a_lit 1 1 [.v (.int .u64 0)] [(0, 1, t61)] h5 (.c (fun t62 h6 => conj [a_load 1 false t57 h6 (.c (fun v_ _ => v_ = t58) ())] ∧ (a_app 1 8 t58 t62 h6 (.c (fun t63 h7 => conj [] ∧ (a_fa 2 b5 h7 (.c (fun t64 h8 => a_store 1 t64 t63 h8 (.c (fun _v8 h9 => conj [] ∧ (Q .normal ([a0,a1,a2,a3,a4,a5,a6,a7,a8,a9,b0,b1,b2,b3,b4,b5,b6,b7,b8,b9,d0,d1,d2,d3,d4,d5,d6,d7,d8,d9,e0,e1,e2,e3,e4,e5,e6,e7,e8,e9,f0,f1,f2,f3,f4,f5,f6,f7,f8,f9,g0,g1,g2,g3,g4,g5,g6,t57,t58,t59,t60,t61,t62,t63,t64,j5,j6,j7,j8,j9,k0,k1,k2], h9))) ())) ()))) ()))) ()))) ())) ())) ())) ())) ())) := by rw [awp_eq]; kernel_rfl
theorem w25_58 : awp X n c25_58 Q st = awp X n c25_59 (blockQ 4 Q) st := by rw [awp_eq]; kernel_rfl
theorem w25_52 : awp X n c25_52 Q st = awp X n c25_53 (thenQ (awp X n c25_58 Q) Q) st := by rw [awp_eq]; kernel_rfl
theorem w25_51 : awp X n c25_51 Q st = ALoop X n c25_52 Q st := by rw [awp_eq]; kernel_rfl
theorem w25_50 : awp X n c25_50 Q st = awp X n c25_51 (blockQ 3 Q) st := by rw [awp_eq]; kernel_rfl
noncomputable def c25_60 : Code := cr c25_49
noncomputable def c25_61 : Code := cl c25_60
theorem w25_61 : awp X n c25_61 Q ([a0,a1,a2,a3,a4,a5,a6,a7,a8,a9,b0,b1,b2,b3,b4,b5,b6,b7,b8,b9,d0,d1,d2,d3,d4,d5,d6,d7,d8,d9,e0,e1,e2,e3,e4,e5,e6,e7,e8,e9,f0,f1,f2,f3,f4,f5,f6,f7,f8,f9,g0,g1,g2,g3,g4,g5,g6,g7,g8,g9,j0,j1,j2,j3,j4,j5,j6,j7,j8,j9,k0,k1,k2], h) = (a_mov a9 h (.c (fun t65 h1 => a_load 3 true b5 h1 (.c (fun t66 h2 => a_lit 3 1 [.v (.bool false), .v (.int .u64 0), .v (.slice none 0 0)] [(0, 3, t66)] h2 (.c (fun t67 h3 => a_app 3 40 t65 t67 h3 (.c (fun t68 h4 => a_mov t68 h4 (.c (fun t9 h5 => Q .normal ([a0,a1,a2,a3,a4,a5,a6,a7,a8,t9,b0,b1,b2,b3,b4,b5,b6,b7,b8,b9,d0,d1,d2,d3,d4,d5,d6,d7,d8,d9,e0,e1,e2,e3,e4,e5,e6,e7,e8,e9,f0,f1,f2,f3,f4,f5,f6,f7,f8,f9,g0,g1,g2,g3,g4,g5,g6,g7,g8,g9,j0,j1,j2,j3,j4,t65,t66,t67,t68,j9,k0,k1,k2], h5)) ())) ())) ())) ())) ())) := by rw [awp_eq]; kernel_rfl
noncomputable def c25_62 : Code := cr c25_60
noncomputable def c25_63 : Code := cl c25_62
theorem w25_63 : awp X n c25_63 Q ([a0,a1,a2,a3,a4,a5,a6,a7,a8,a9,b0,b1,b2,b3,b4,b5,b6,b7,b8,b9,d0,d1,d2,d3,d4,d5,d6,d7,d8,d9,e0,e1,e2,e3,e4,e5,e6,e7,e8,e9,f0,f1,f2,f3,f4,f5,f6,f7,f8,f9,g0,g1,g2,g3,g4,g5,g6,g7,g8,g9,j0,j1,j2,j3,j4,j5,j6,j7,j8,j9,k0,k1,k2], h) = (a_mov a9 h (.c (fun t69 h1 => a_len t69 h1 (.c (fun t70 h2 => a_bin .gtr t70 (.v (.int .i64 60)) h2 (.c (fun t71 h3 => Q .normal ([a0,a1,a2,a3,a4,a5,a6,a7,a8,a9,b0,b1,b2,b3,b4,b5,b6,b7,b8,b9,d0,d1,d2,d3,d4,d5,d6,d7,d8,d9,e0,e1,e2,e3,e4,e5,e6,e7,e8,e9,f0,f1,f2,f3,f4,f5,f6,f7,f8,f9,g0,g1,g2,g3,g4,g5,g6,g7,g8,g9,j0,j1,j2,j3,j4,j5,j6,j7,j8,t69,t70,t71,k2], h3)) ())) ())) ())) := by rw [awp_eq]; kernel_rfl
noncomputable def c25_64 : Code := cr c25_62
noncomputable def c25_65 : Code := cl c25_64
noncomputable def c25_66 : Code := cl c25_65
theorem w25_66 : awp X n c25_66 Q ([a0,a1,a2,a3,a4,a5,a6,a7,a8,a9,b0,b1,b2,b3,b4,b5,b6,b7,b8,b9,d0,d1,d2,d3,d4,d5,d6,d7,d8,d9,e0,e1,e2,e3,e4,e5,e6,e7,e8,e9,f0,f1,f2,f3,f4,f5,f6,f7,f8,f9,g0,g1,g2,g3,g4,g5,g6,g7,g8,g9,j0,j1,j2,j3,j4,j5,j6,j7,j8,j9,k0,k1,k2], h) = (a_mov (.v (.slice none 0 0)) h (.c (fun t6 h1 => a_mov (.v (.int .i64 3)) h1 (.c (fun t7 h2 => Q .normal ([a0,a1,a2,a3,a4,a5,t6,t7,a8,a9,b0,b1,b2,b3,b4,b5,b6,b7,b8,b9,d0,d1,d2,d3,d4,d5,d6,d7,d8,d9,e0,e1,e2,e3,e4,e5,e6,e7,e8,e9,f0,f1,f2,f3,f4,f5,f6,f7,f8,f9,g0,g1,g2,g3,g4,g5,g6,g7,g8,g9,j0,j1,j2,j3,j4,j5,j6,j7,j8,j9,k0,k1,k2], h2)) ())) ())) := by rw [awp_eq]; kernel_rfl
noncomputable def c25_67 : Code := cr c25_65
theorem w25_67 : awp X n c25_67 Q st = Q .ret st := by rw [awp_eq]; kernel_rfl
theorem w25_65 : awp X n c25_65 Q st = awp X n c25_66 (thenQ (awp X n c25_67 Q) Q) st := by rw [awp_eq]; kernel_rfl
noncomputable def c25_68 : Code := cr c25_64
theorem w25_68 : awp X n c25_68 Q st = Q .normal st := by rw [awp_eq]; kernel_rfl
theorem w25_64 : awp X n c25_64 Q ([a0,a1,a2,a3,a4,a5,a6,a7,a8,a9,b0,b1,b2,b3,b4,b5,b6,b7,b8,b9,d0,d1,d2,d3,d4,d5,d6,d7,d8,d9,e0,e1,e2,e3,e4,e5,e6,e7,e8,e9,f0,f1,f2,f3,f4,f5,f6,f7,f8,f9,g0,g1,g2,g3,g4,g5,g6,g7,g8,g9,j0,j1,j2,j3,j4,j5,j6,j7,j8,j9,k0,k1,k2], h) = a_cond k1 (awp X n c25_65 Q ([a0,a1,a2,a3,a4,a5,a6,a7,a8,a9,b0,b1,b2,b3,b4,b5,b6,b7,b8,b9,d0,d1,d2,d3,d4,d5,d6,d7,d8,d9,e0,e1,e2,e3,e4,e5,e6,e7,e8,e9,f0,f1,f2,f3,f4,f5,f6,f7,f8,f9,g0,g1,g2,g3,g4,g5,g6,g7,g8,g9,j0,j1,j2,j3,j4,j5,j6,j7,j8,j9,k0,k1,k2], h)) (awp X n c25_68 Q ([a0,a1,a2,a3,a4,a5,a6,a7,a8,a9,b0,b1,b2,b3,b4,b5,b6,b7,b8,b9,d0,d1,d2,d3,d4,d5,d6,d7,d8,d9,e0,e1,e2,e3,e4,e5,e6,e7,e8,e9,f0,f1,f2,f3,f4,f5,f6,f7,f8,f9,g0,g1,g2,g3,g4,g5,g6,g7,g8,g9,j0,j1,j2,j3,j4,j5,j6,j7,j8,j9,k0,k1,k2], h)) := by rw [awp_eq]; kernel_rfl
theorem w25_62 : awp X n c25_62 Q st = awp X n c25_63 (thenQ (awp X n c25_64 Q) Q) st := by rw [awp_eq]; kernel_rfl
theorem w25_60 : awp X n c25_60 Q st = awp X n c25_61 (thenQ (awp X n c25_62 Q) Q) st := by rw [awp_eq]; kernel_rfl
theorem w25_49 : awp X n c25_49 Q st = awp X n c25_50 (thenQ (awp X n c25_60 Q) Q) st := by rw [awp_eq]; kernel_rfl
theorem w25_34 : awp X n c25_34 Q st = awp X n c25_35 (thenQ (awp X n c25_49 Q) Q) st := by rw [awp_eq]; kernel_rfl
theorem w25_32 : awp X n c25_32 Q st = awp X n c25_33 (thenQ (awp X n c25_34 Q) Q) st := by rw [awp_eq]; kernel_rfl
theorem w25_30 : awp X n c25_30 Q st = awp X n c25_31 (thenQ (awp X n c25_32 Q) Q) st := by rw [awp_eq]; kernel_rfl
theorem w25_20 : awp X n c25_20 Q st = awp X n c25_21 (thenQ (awp X n c25_30 Q) Q) st := by rw [awp_eq]; kernel_rfl
theorem w25_18 : awp X n c25_18 Q st = awp X n c25_19 (thenQ (awp X n c25_20 Q) Q) st := by rw [awp_eq]; kernel_rfl
theorem w25_16 : awp X n c25_16 Q st = awp X n c25_17 (thenQ (awp X n c25_18 Q) Q) st := by rw [awp_eq]; kernel_rfl
theorem w25_15 : awp X n c25_15 Q st = awp X n c25_16 (blockQ 1 Q) st := by rw [awp_eq]; kernel_rfl
theorem w25_9 : awp X n c25_9 Q st = awp X n c25_10 (thenQ (awp X n c25_15 Q) Q) st := by rw [awp_eq]; kernel_rfl
theorem w25_8 : awp X n c25_8 Q st = ALoop X n c25_9 Q st := by rw [awp_eq]; kernel_rfl
theorem w25_7 : awp X n c25_7 Q st = awp X n c25_8 (blockQ 0 Q) st := by rw [awp_eq]; kernel_rfl
noncomputable def c25_69 : Code := cr c25_6
noncomputable def c25_70 : Code := cl c25_69
theorem w25_70 : awp X n c25_70 Q ([a0,a1,a2,a3,a4,a5,a6,a7,a8,a9,b0,b1,b2,b3,b4,b5,b6,b7,b8,b9,d0,d1,d2,d3,d4,d5,d6,d7,d8,d9,e0,e1,e2,e3,e4,e5,e6,e7,e8,e9,f0,f1,f2,f3,f4,f5,f6,f7,f8,f9,g0,g1,g2,g3,g4,g5,g6,g7,g8,g9,j0,j1,j2,j3,j4,j5,j6,j7,j8,j9,k0,k1,k2], h) = (a_mov a9 h (.c (fun t72 h1 => a_mov t72 h1 (.c (fun t6 h2 => a_mov (.v (.int .i64 0)) h2 (.c (fun t7 h3 => Q .normal ([a0,a1,a2,a3,a4,a5,t6,t7,a8,a9,b0,b1,b2,b3,b4,b5,b6,b7,b8,b9,d0,d1,d2,d3,d4,d5,d6,d7,d8,d9,e0,e1,e2,e3,e4,e5,e6,e7,e8,e9,f0,f1,f2,f3,f4,f5,f6,f7,f8,f9,g0,g1,g2,g3,g4,g5,g6,g7,g8,g9,j0,j1,j2,j3,j4,j5,j6,j7,j8,j9,k0,k1,t72], h3)) ())) ())) ())) := by rw [awp_eq]; kernel_rfl
noncomputable def c25_71 : Code := cr c25_69
theorem w25_71 : awp X n c25_71 Q st = Q .ret st := by rw [awp_eq]; kernel_rfl
theorem w25_69 : awp X n c25_69 Q st = awp X n c25_70 (thenQ (awp X n c25_71 Q) Q) st := by rw [awp_eq]; kernel_rfl
theorem w25_6 : awp X n c25_6 Q st = awp X n c25_7 (thenQ (awp X n c25_69 Q) Q) st := by rw [awp_eq]; kernel_rfl
theorem w25_4 : awp X n c25_4 Q st = awp X n c25_5 (thenQ (awp X n c25_6 Q) Q) st := by rw [awp_eq]; kernel_rfl
theorem w25_2 : awp X n c25_2 Q st = awp X n c25_3 (thenQ (awp X n c25_4 Q) Q) st := by rw [awp_eq]; kernel_rfl
theorem w25_0 : awp X n c25_0 Q st = awp X n c25_1 (thenQ (awp X n c25_2 Q) Q) st := by rw [awp_eq]; kernel_rfl
theorem q25_ret : retQ X Tryd.f25 K .ret ([a0,a1,a2,a3,a4,a5,a6,a7,a8,a9,b0,b1,b2,b3,b4,b5,b6,b7,b8,b9,d0,d1,d2,d3,d4,d5,d6,d7,d8,d9,e0,e1,e2,e3,e4,e5,e6,e7,e8,e9,f0,f1,f2,f3,f4,f5,f6,f7,f8,f9,g0,g1,g2,g3,g4,g5,g6,g7,g8,g9,j0,j1,j2,j3,j4,j5,j6,j7,j8,j9,k0,k1,k2], h) = (K.K (.t [a6, a7]) h) := by kernel_rfl
theorem q25_normal : retQ X Tryd.f25 K .normal ([a0,a1,a2,a3,a4,a5,a6,a7,a8,a9,b0,b1,b2,b3,b4,b5,b6,b7,b8,b9,d0,d1,d2,d3,d4,d5,d6,d7,d8,d9,e0,e1,e2,e3,e4,e5,e6,e7,e8,e9,f0,f1,f2,f3,f4,f5,f6,f7,f8,f9,g0,g1,g2,g3,g4,g5,g6,g7,g8,g9,j0,j1,j2,j3,j4,j5,j6,j7,j8,j9,k0,k1,k2], h) = (K.K (.t [a6, a7]) h) := by kernel_rfl
theorem i25 (H : awp X h.length c25_0 (retQ X Tryd.f25 K) ([a0,a1,a2,.bad,.bad,.bad,.bad,.bad,.bad,.bad,.bad,.bad,.bad,.bad,.bad,.bad,.bad,.bad,.bad,.bad,.bad,.bad,.bad,.bad,.bad,.bad,.bad,.bad,.bad,.bad,.bad,.bad,.bad,.bad,.bad,.bad,.bad,.bad,.bad,.bad,.bad,.bad,.bad,.bad,.bad,.bad,.bad,.bad,.bad,.bad,.bad,.bad,.bad,.bad,.bad,.bad,.bad,.bad,.bad,.bad,.bad,.bad,.bad,.bad,.bad,.bad,.bad,.bad,.bad,.bad,.bad,.bad,.bad], h)) : ACall X 25 [a0, a1, a2] h K := acall_intro (fn := Tryd.f25) (by kernel_rfl) (by kernel_rfl) (by kernel_rfl) H
noncomputable def R25 := And.intro (And.intro (And.intro (And.intro (And.intro (And.intro w25_1 w25_3) (And.intro w25_5 w25_11)) (And.intro (And.intro w25_13 w25_14) (And.intro (w25_12) (And.intro w25_10 w25_17)))) (And.intro (And.intro (And.intro w25_19 w25_22) (And.intro w25_24 w25_27)) (And.intro (And.intro w25_28 w25_26) (And.intro (w25_29) (And.intro w25_25 w25_23))))) (And.intro (And.intro (And.intro (And.intro w25_21 w25_31) (And.intro w25_33 w25_37)) (And.intro (And.intro w25_40 w25_41) (And.intro (w25_39) (And.intro w25_43 w25_46)))) (And.intro (And.intro (And.intro w25_47 w25_45) (And.intro (w25_48) (And.intro w25_44 w25_42))) (And.intro (And.intro w25_38 w25_36) (And.intro (w25_35) (And.intro w25_54 w25_56)))))) (And.intro (And.intro (And.intro (And.intro (And.intro w25_57 w25_55) (And.intro w25_53 w25_59)) (And.intro (And.intro w25_58 w25_52) (And.intro (w25_51) (And.intro w25_50 w25_61)))) (And.intro (And.intro (And.intro w25_63 w25_66) (And.intro w25_67 w25_65)) (And.intro (And.intro w25_68 w25_64) (And.intro (w25_62) (And.intro w25_60 w25_49))))) (And.intro (And.intro (And.intro (And.intro w25_34 w25_32) (And.intro w25_30 w25_20)) (And.intro (And.intro w25_18 w25_16) (And.intro (w25_15) (And.intro w25_9 w25_8)))) (And.intro (And.intro (And.intro w25_7 w25_70) (And.intro (w25_71) (And.intro w25_69 w25_6))) (And.intro (And.intro w25_4 w25_2) (And.intro (w25_0) (And.intro q25_ret q25_normal))))))
/-! function 26: sindri/tables.Strs$1 -/
noncomputable def c26_0 : Code := bodyOf Tryd.f26
noncomputable def c26_1 : Code := cl c26_0
theorem w26_1 : awp X n c26_1 Q ([a0,a1,a2,a3,a4,a5,a6,a7,a8,a9,b0,b1,b2,b3,b4], h) = (a_mov (.v (.bool false)) h (.c (fun t2 h1 => Q .normal ([a0,a1,t2,a3,a4,a5,a6,a7,a8,a9,b0,b1,b2,b3,b4], h1)) ())) := by rw [awp_eq]; kernel_rfl
noncomputable def c26_2 : Code := cr c26_0
noncomputable def c26_3 : Code := cl c26_2
theorem w26_3 : awp X n c26_3 Q ([a0,a1,a2,a3,a4,a5,a6,a7,a8,a9,b0,b1,b2,b3,b4], h) = (a_mov a0 h (.c (fun t5 h1 => ACall X 27 [t5] h1 (.c (fun t6 h2 => a_mov a0 h2 (.c (fun t7 h3 => ACall X 27 [t7] h3 (.c (fun t8 h4 => a_mov t6 h4 (.c (fun t3 h5 => a_mov t8 h5 (.c (fun t4 h6 => Q .normal ([a0,a1,a2,t3,t4,t5,t6,t7,t8,a9,b0,b1,b2,b3,b4], h6)) ())) ())) ())) ())) ())) ())) := by rw [awp_eq]; kernel_rfl
noncomputable def c26_4 : Code := cr c26_2
noncomputable def c26_5 : Code := cl c26_4
theorem w26_5 : awp X n c26_5 Q ([a0,a1,a2,a3,a4,a5,a6,a7,a8,a9,b0,b1,b2,b3,b4], h) = (a_mov a3 h (.c (fun t9 h1 => a_bin .eql t9 (.v (.int .u64 5)) h1 (.c (fun t10 h2 => a_mov t10 h2 (.c (fun t11 h3 => a_on t11 true (fun k => a_mov a4 h3 k) h3 (.c (fun t12 h4 => a_on t11 true (fun k => a_bin .eql t12 (.v (.int .u64 0)) h4 k) h4 (.c (fun t13 h5 => a_pick t11 t13 (.v (.bool false)) h5 (.c (fun t14 h6 => a_mov t14 h6 (.c (fun t2 h7 => Q .normal ([a0,a1,t2,a3,a4,a5,a6,a7,a8,t9,t10,t11,t12,t13,t14], h7)) ())) ())) ())) ())) ())) ())) ())) := by rw [awp_eq]; kernel_rfl
noncomputable def c26_6 : Code := cr c26_4
theorem w26_6 : awp X n c26_6 Q st = Q .ret st := by rw [awp_eq]; kernel_rfl
theorem w26_4 : awp X n c26_4 Q st = awp X n c26_5 (thenQ (awp X n c26_6 Q) Q) st := by rw [awp_eq]; kernel_rfl
theorem w26_2 : awp X n c26_2 Q st = awp X n c26_3 (thenQ (awp X n c26_4 Q) Q) st := by rw [awp_eq]; kernel_rfl
theorem w26_0 : awp X n c26_0 Q st = awp X n c26_1 (thenQ (awp X n c26_2 Q) Q) st := by rw [awp_eq]; kernel_rfl
theorem q26_ret : retQ X Tryd.f26 K .ret ([a0,a1,a2,a3,a4,a5,a6,a7,a8,a9,b0,b1,b2,b3,b4], h) = (K.K a2 h) := by kernel_rfl
theorem q26_normal : retQ X Tryd.f26 K .normal ([a0,a1,a2,a3,a4,a5,a6,a7,a8,a9,b0,b1,b2,b3,b4], h) = (K.K a2 h) := by kernel_rfl
theorem i26 (H : awp X h.length c26_0 (retQ X Tryd.f26 K) ([a0,.bad,.bad,.bad,.bad,.bad,.bad,.bad,.bad,.bad,.bad,.bad,.bad,.bad,.bad], h)) : ACall X 26 [a0] h K := acall_intro (fn := Tryd.f26) (by kernel_rfl) (by kernel_rfl) (by kernel_rfl) H
noncomputable def R26 := And.intro (And.intro (And.intro w26_1 w26_3) (And.intro w26_5 w26_6)) (And.intro (And.intro w26_4 w26_2) (And.intro (w26_0) (And.intro q26_ret q26_normal)))
/-! function 31: sindri/tables.Addrs$1 -/
noncomputable def c31_0 : Code := bodyOf Tryd.f31
noncomputable def c31_1 : Code := cl c31_0
theorem w31_1 : awp X n c31_1 Q ([a0,a1,a2,a3,a4,a5,a6,a7,a8,a9,b0,b1,b2,b3,b4,b5,b6,b7,b8,b9,d0,d1], h) = (a_mov (.v (.bool false)) h (.c (fun t2 h1 => Q .normal ([a0,a1,t2,a3,a4,a5,a6,a7,a8,a9,b0,b1,b2,b3,b4,b5,b6,b7,b8,b9,d0,d1], h1)) ())) := by rw [awp_eq]; kernel_rfl
noncomputable def c31_2 : Code := cr c31_0
noncomputable def c31_3 : Code := cl c31_2
theorem w31_3 : awp X n c31_3 Q ([a0,a1,a2,a3,a4,a5,a6,a7,a8,a9,b0,b1,b2,b3,b4,b5,b6,b7,b8,b9,d0,d1], h) = (a_mov a0 h (.c (fun t6 h1 => ACall X 27 [t6] h1 (.c (fun t7 h2 => a_mov a0 h2 (.c (fun t8 h3 => ACall X 32 [t8] h3 (.c (fun t9 h4 => a_mov a0 h4 (.c (fun t10 h5 => ACall X 32 [t10] h5 (.c (fun t11 h6 => a_mov t7 h6 (.c (fun t3 h7 => a_mov t9 h7 (.c (fun t4 h8 => a_mov t11 h8 (.c (fun t5 h9 => Q .normal ([a0,a1,a2,t3,t4,t5,t6,t7,t8,t9,t10,t11,b2,b3,b4,b5,b6,b7,b8,b9,d0,d1], h9)) ())) ())) ())) ())) ())) ())) ())) ())) ())) := by rw [awp_eq]; kernel_rfl
noncomputable def c31_4 : Code := cr c31_2
noncomputable def c31_5 : Code := cl c31_4
theorem w31_5 : awp X n c31_5 Q ([a0,a1,a2,a3,a4,a5,a6,a7,a8,a9,b0,b1,b2,b3,b4,b5,b6,b7,b8,b9,d0,d1], h) = (a_mov a3 h (.c (fun t12 h1 => a_bin .eql t12 (.v (.int .u64 5)) h1 (.c (fun t13 h2 => a_mov t13 h2 (.c (fun t14 h3 => a_on t14 true (fun k => a_mov a4 h3 k) h3 (.c (fun t15 h4 => a_on t14 true (fun k => a_bin .eql t15 (.v (.int .u64 8)) h4 k) h4 (.c (fun t16 h5 => a_pick t14 t16 (.v (.bool false)) h5 (.c (fun t17 h6 => a_mov t17 h6 (.c (fun t18 h7 => a_on t18 true (fun k => a_mov a5 h7 k) h7 (.c (fun t19 h8 => a_on t18 true (fun k => a_bin .eql t19 (.v (.int .u64 0)) h8 k) h8 (.c (fun t20 h9 => a_pick t18 t20 (.v (.bool false)) h9 (.c (fun t21 h10 => a_mov t21 h10 (.c (fun t2 h11 => Q .normal ([a0,a1,t2,a3,a4,a5,a6,a7,a8,a9,b0,b1,t12,t13,t14,t15,t16,t17,t18,t19,t20,t21], h11)) ())) ())) ())) ())) ())) ())) ())) ())) ())) ())) ())) := by rw [awp_eq]; kernel_rfl
noncomputable def c31_6 : Code := cr c31_4
theorem w31_6 : awp X n c31_6 Q st = Q .ret st := by rw [awp_eq]; kernel_rfl
theorem w31_4 : awp X n c31_4 Q st = awp X n c31_5 (thenQ (awp X n c31_6 Q) Q) st := by rw [awp_eq]; kernel_rfl
theorem w31_2 : awp X n c31_2 Q st = awp X n c31_3 (thenQ (awp X n c31_4 Q) Q) st := by rw [awp_eq]; kernel_rfl
theorem w31_0 : awp X n c31_0 Q st = awp X n c31_1 (thenQ (awp X n c31_2 Q) Q) st := by rw [awp_eq]; kernel_rfl
theorem q31_ret : retQ X Tryd.f31 K .ret ([a0,a1,a2,a3,a4,a5,a6,a7,a8,a9,b0,b1,b2,b3,b4,b5,b6,b7,b8,b9,d0,d1], h) = (K.K a2 h) := by kernel_rfl
theorem q31_normal : retQ X Tryd.f31 K .normal ([a0,a1,a2,a3,a4,a5,a6,a7,a8,a9,b0,b1,b2,b3,b4,b5,b6,b7,b8,b9,d0,d1], h) = (K.K a2 h) := by kernel_rfl
theorem i31 (H : awp X h.length c31_0 (retQ X Tryd.f31 K) ([a0,.bad,.bad,.bad,.bad,.bad,.bad,.bad,.bad,.bad,.bad,.bad,.bad,.bad,.bad,.bad,.bad,.bad,.bad,.bad,.bad,.bad], h)) : ACall X 31 [a0] h K := acall_intro (fn := Tryd.f31) (by kernel_rfl) (by kernel_rfl) (by kernel_rfl) H
noncomputable def R31 := And.intro (And.intro (And.intro w31_1 w31_3) (And.intro w31_5 w31_6)) (And.intro (And.intro w31_4 w31_2) (And.intro (w31_0) (And.intro q31_ret q31_normal)))
/-! function 33: sindri/tables.Addrs$2 -/
noncomputable def c33_0 : Code := bodyOf Tryd.f33
noncomputable def c33_1 : Code := cl c33_0
theorem w33_1 : awp X n c33_1 Q ([a0,a1,a2], h) = (a_mov (.v (.int .i64 0)) h (.c (fun t2 h1 => Q .normal ([a0,a1,t2], h1)) ())) := by rw [awp_eq]; kernel_rfl
noncomputable def c33_2 : Code := cr c33_0
noncomputable def c33_3 : Code := cl c33_2
theorem w33_3 : awp X n c33_3 Q ([a0,a1,a2], h) = (a_mov (.v (.int .i64 8)) h (.c (fun t2 h1 => Q .normal ([a0,a1,t2], h1)) ())) := by rw [awp_eq]; kernel_rfl
noncomputable def c33_4 : Code := cr c33_2
theorem w33_4 : awp X n c33_4 Q st = Q .ret st := by rw [awp_eq]; kernel_rfl
theorem w33_2 : awp X n c33_2 Q st = awp X n c33_3 (thenQ (awp X n c33_4 Q) Q) st := by rw [awp_eq]; kernel_rfl
theorem w33_0 : awp X n c33_0 Q st = awp X n c33_1 (thenQ (awp X n c33_2 Q) Q) st := by rw [awp_eq]; kernel_rfl
theorem q33_ret : retQ X Tryd.f33 K .ret ([a0,a1,a2], h) = (K.K a2 h) := by kernel_rfl
theorem q33_normal : retQ X Tryd.f33 K .normal ([a0,a1,a2], h) = (K.K a2 h) := by kernel_rfl
theorem i33 (H : awp X h.length c33_0 (retQ X Tryd.f33 K) ([a0,.bad,.bad], h)) : ACall X 33 [a0] h K := acall_intro (fn := Tryd.f33) (by kernel_rfl) (by kernel_rfl) (by kernel_rfl) H
noncomputable def R33 := And.intro (And.intro (w33_1) (And.intro w33_3 w33_4)) (And.intro (And.intro w33_2 w33_0) (And.intro q33_ret q33_normal))
end Go.Proofs.YtlngajfpplebmaaDoor
