import Derived.Test.YtmjjfchahkdceaaDoorEnv
set_option linter.unusedVariables false
set_option linter.defProp false
set_option maxRecDepth 100000
namespace Go.Proofs.YtmjjfchahkdceaaDoor
open Go.Ab
variable (n : Nat) (h : Heap) (Q : Qt) (st : St) (K : Kt) (a0 a1 a2 a3 a4 a5 a6 a7 a8 a9 b0 b1 b2 b3 b4 b5 b6 b7 b8 b9 d0 d1 d2 d3 d4 d5 d6 : AV)
/-! function 20: sindri/length.Body -/
noncomputable def c20_0 : Code := bodyOf Tryd.f20
noncomputable def c20_1 : Code := cl c20_0
theorem w20_1 : awp X n c20_1 Q ((a0::a1::a2::a3::a4::a5::a6::a7::a8::a9::b0::b1::b2::b3::b4::b5::b6::b7::b8::b9::[]), h) = (a_mov (.v (.pointer none)) h (.c (fun t2 h1 => a_mov (.v (.bool false)) h1 (.c (fun t3 h2 => Q .normal ((a0::a1::t2::t3::a4::a5::a6::a7::a8::a9::b0::b1::b2::b3::b4::b5::b6::b7::b8::b9::[]), h2)) ())) ())) := by rw [awp_eq]; kernel_rfl
noncomputable def c20_2 : Code := cr c20_0
noncomputable def c20_3 : Code := cl c20_2
theorem w20_3 : awp X n c20_3 Q ((a0::a1::a2::a3::a4::a5::a6::a7::a8::a9::b0::b1::b2::b3::b4::b5::b6::b7::b8::b9::[]), h) = (a_mov a0 h (.c (fun t6 h1 => ACall X 33 [t6] h1 (.c (fun t7 h2 => a_mov t7 h2 (.c (fun t5 h3 => a_ext 0 t5 h3 (.c (fun t8 h4 => a_ext 1 t5 h4 (.c (fun t9 h5 => a_mov t8 h5 (.c (fun t4 h6 => a_mov t9 h6 (.c (fun t3 h7 => Q .normal ((a0::a1::a2::t3::t4::t5::t6::t7::t8::t9::b0::b1::b2::b3::b4::b5::b6::b7::b8::b9::[]), h7)) ())) ())) ())) ())) ())) ())) ())) := by rw [awp_eq]; kernel_rfl
noncomputable def c20_4 : Code := cr c20_2
noncomputable def c20_5 : Code := cl c20_4
theorem w20_5 : awp X n c20_5 Q ((a0::a1::a2::a3::a4::a5::a6::a7::a8::a9::b0::b1::b2::b3::b4::b5::b6::b7::b8::b9::[]), h) = (a_mov a0 h (.c (fun t10 h1 => a_mov a4 h1 (.c (fun t11 h2 => ACall X 34 [t10, t11] h2 (.c (fun t12 h3 => a_mov t12 h3 (.c (fun t2 h4 => Q .normal ((a0::a1::t2::a3::a4::a5::a6::a7::a8::a9::t10::t11::t12::b3::b4::b5::b6::b7::b8::b9::[]), h4)) ())) ())) ())) ())) := by rw [awp_eq]; kernel_rfl
noncomputable def c20_6 : Code := cr c20_4
noncomputable def c20_7 : Code := cl c20_6
theorem w20_7 : awp X n c20_7 Q ((a0::a1::a2::a3::a4::a5::a6::a7::a8::a9::b0::b1::b2::b3::b4::b5::b6::b7::b8::b9::[]), h) = (a_mov a2 h (.c (fun t13 h1 => a_mov a3 h1 (.c (fun t14 h2 => a_mov t14 h2 (.c (fun t15 h3 => a_on t15 true (fun k => a_mov a2 h3 k) h3 (.c (fun t16 h4 => a_on t15 true (fun k => ACall X 21 [t16] h4 k) h4 (.c (fun t17 h5 => a_on t15 true (fun k => a_bin .eql t17 (.v (.int .i64 0)) h5 k) h5 (.c (fun t18 h6 => a_pick t15 t18 (.v (.bool false)) h6 (.c (fun t19 h7 => a_mov t13 h7 (.c (fun t2 h8 => a_mov t19 h8 (.c (fun t3 h9 => Q .normal ((a0::a1::t2::t3::a4::a5::a6::a7::a8::a9::b0::b1::b2::t13::t14::t15::t16::t17::t18::t19::[]), h9)) ())) ())) ())) ())) ())) ())) ())) ())) ())) := by rw [awp_eq]; kernel_rfl
noncomputable def c20_8 : Code := cr c20_6
theorem w20_8 : awp X n c20_8 Q st = Q .ret st := by rw [awp_eq]; kernel_rfl
theorem w20_6 : awp X n c20_6 Q st = awp X n c20_7 (thenQ (awp X n c20_8 Q) Q) st := by rw [awp_eq]; kernel_rfl
theorem w20_4 : awp X n c20_4 Q st = awp X n c20_5 (thenQ (awp X n c20_6 Q) Q) st := by rw [awp_eq]; kernel_rfl
theorem w20_2 : awp X n c20_2 Q st = awp X n c20_3 (thenQ (awp X n c20_4 Q) Q) st := by rw [awp_eq]; kernel_rfl
theorem w20_0 : awp X n c20_0 Q st = awp X n c20_1 (thenQ (awp X n c20_2 Q) Q) st := by rw [awp_eq]; kernel_rfl
theorem q20_ret : retQ X Tryd.f20 K .ret ((a0::a1::a2::a3::a4::a5::a6::a7::a8::a9::b0::b1::b2::b3::b4::b5::b6::b7::b8::b9::[]), h) = (K.K (.t [a2, a3]) h) := by kernel_rfl
theorem q20_normal : retQ X Tryd.f20 K .normal ((a0::a1::a2::a3::a4::a5::a6::a7::a8::a9::b0::b1::b2::b3::b4::b5::b6::b7::b8::b9::[]), h) = (K.K (.t [a2, a3]) h) := by kernel_rfl
theorem i20 (H : awp X h.length c20_0 (retQ X Tryd.f20 K) ((a0::.bad::.bad::.bad::.bad::.bad::.bad::.bad::.bad::.bad::.bad::.bad::.bad::.bad::.bad::.bad::.bad::.bad::.bad::.bad::[]), h)) : ACall X 20 [a0] h K := acall_intro (fn := Tryd.f20) (by kernel_rfl) (by kernel_rfl) (by kernel_rfl) H
noncomputable def R20 := And.intro (And.intro (And.intro w20_1 w20_3) (And.intro (w20_5) (And.intro w20_7 w20_8))) (And.intro (And.intro (w20_6) (And.intro w20_4 w20_2)) (And.intro (w20_0) (And.intro q20_ret q20_normal)))
/-! function 27: sindri/length.Off -/
noncomputable def c27_0 : Code := bodyOf Tryd.f27
noncomputable def c27_1 : Code := cl c27_0
theorem w27_1 : awp X n c27_1 Q ((a0::a1::a2::a3::a4::a5::a6::a7::[]), h) = (a_mov (.v (.int .i64 0)) h (.c (fun t2 h1 => Q .normal ((a0::a1::t2::a3::a4::a5::a6::a7::[]), h1)) ())) := by rw [awp_eq]; kernel_rfl
noncomputable def c27_2 : Code := cr c27_0
noncomputable def c27_3 : Code := cl c27_2
noncomputable def c27_4 : Code := cl c27_3
theorem w27_4 : awp X n c27_4 Q ((a0::a1::a2::a3::a4::a5::a6::a7::[]), h) = (a_mov a0 h (.c (fun t3 h1 => Q .normal ((a0::a1::a2::t3::a4::a5::a6::a7::[]), h1)) ())) := by rw [awp_eq]; kernel_rfl
noncomputable def c27_5 : Code := cr c27_3
noncomputable def c27_6 : Code := cl c27_5
noncomputable def c27_7 : Code := cl c27_6
theorem w27_7 : awp X n c27_7 Q ((a0::a1::a2::a3::a4::a5::a6::a7::[]), h) = (a_iarr 2 1 (.q [.v (.int .i64 4), .v (.int .i64 8)] 0) (.v (.int .i64 1)) h (.c (fun t4 h1 => a_load 1 false t4 h1 (.c (fun t5 h2 => a_mov t5 h2 (.c (fun t2 h3 => Q .normal ((a0::a1::t2::a3::t4::t5::a6::a7::[]), h3)) ())) ())) ())) := by rw [awp_eq]; kernel_rfl
noncomputable def c27_8 : Code := cr c27_6
theorem w27_8 : awp X n c27_8 Q st = Q .ret st := by rw [awp_eq]; kernel_rfl
theorem w27_6 : awp X n c27_6 Q st = awp X n c27_7 (thenQ (awp X n c27_8 Q) Q) st := by rw [awp_eq]; kernel_rfl
noncomputable def c27_9 : Code := cr c27_5
theorem w27_9 : awp X n c27_9 Q st = Q .normal st := by rw [awp_eq]; kernel_rfl
theorem w27_5 : awp X n c27_5 Q ((a0::a1::a2::a3::a4::a5::a6::a7::[]), h) = a_cond a3 (awp X n c27_6 Q ((a0::a1::a2::a3::a4::a5::a6::a7::[]), h)) (awp X n c27_9 Q ((a0::a1::a2::a3::a4::a5::a6::a7::[]), h)) := by rw [awp_eq]; kernel_rfl
theorem w27_3 : awp X n c27_3 Q st = awp X n c27_4 (thenQ (awp X n c27_5 Q) Q) st := by rw [awp_eq]; kernel_rfl
noncomputable def c27_10 : Code := cr c27_2
noncomputable def c27_11 : Code := cl c27_10
theorem w27_11 : awp X n c27_11 Q ((a0::a1::a2::a3::a4::a5::a6::a7::[]), h) = (a_iarr 2 1 (.q [.v (.int .i64 4), .v (.int .i64 8)] 0) (.v (.int .i64 0)) h (.c (fun t6 h1 => a_load 1 false t6 h1 (.c (fun t7 h2 => a_mov t7 h2 (.c (fun t2 h3 => Q .normal ((a0::a1::t2::a3::a4::a5::t6::t7::[]), h3)) ())) ())) ())) := by rw [awp_eq]; kernel_rfl
noncomputable def c27_12 : Code := cr c27_10
theorem w27_12 : awp X n c27_12 Q st = Q .ret st := by rw [awp_eq]; kernel_rfl
theorem w27_10 : awp X n c27_10 Q st = awp X n c27_11 (thenQ (awp X n c27_12 Q) Q) st := by rw [awp_eq]; kernel_rfl
theorem w27_2 : awp X n c27_2 Q st = awp X n c27_3 (thenQ (awp X n c27_10 Q) Q) st := by rw [awp_eq]; kernel_rfl
theorem w27_0 : awp X n c27_0 Q st = awp X n c27_1 (thenQ (awp X n c27_2 Q) Q) st := by rw [awp_eq]; kernel_rfl
theorem q27_ret : retQ X Tryd.f27 K .ret ((a0::a1::a2::a3::a4::a5::a6::a7::[]), h) = (K.K a2 h) := by kernel_rfl
theorem q27_normal : retQ X Tryd.f27 K .normal ((a0::a1::a2::a3::a4::a5::a6::a7::[]), h) = (K.K a2 h) := by kernel_rfl
theorem i27 (H : awp X h.length c27_0 (retQ X Tryd.f27 K) ((a0::.bad::.bad::.bad::.bad::.bad::.bad::.bad::[]), h)) : ACall X 27 [a0] h K := acall_intro (fn := Tryd.f27) (by kernel_rfl) (by kernel_rfl) (by kernel_rfl) H
noncomputable def R27 := And.intro (And.intro (And.intro (w27_1) (And.intro w27_4 w27_7)) (And.intro (And.intro w27_8 w27_6) (And.intro w27_9 w27_5))) (And.intro (And.intro (And.intro w27_3 w27_11) (And.intro w27_12 w27_10)) (And.intro (And.intro w27_2 w27_0) (And.intro q27_ret q27_normal)))
/-! function 29: sindri/length.Wrap -/
noncomputable def c29_0 : Code := bodyOf Tryd.f29
noncomputable def c29_1 : Code := cl c29_0
theorem w29_1 : awp X n c29_1 Q ((a0::a1::a2::a3::a4::a5::a6::a7::a8::a9::b0::b1::b2::b3::b4::b5::b6::b7::b8::b9::d0::d1::d2::d3::d4::[]), h) = (a_mov (.v (.slice none 0 0)) h (.c (fun t6 h1 => a_mov (.v (.int .i64 0)) h1 (.c (fun t7 h2 => Q .normal ((a0::a1::a2::a3::a4::a5::t6::t7::a8::a9::b0::b1::b2::b3::b4::b5::b6::b7::b8::b9::d0::d1::d2::d3::d4::[]), h2)) ())) ())) := by rw [awp_eq]; kernel_rfl
noncomputable def c29_2 : Code := cr c29_0
noncomputable def c29_3 : Code := cl c29_2
theorem w29_3 : awp X n c29_3 Q ((a0::a1::a2::a3::a4::a5::a6::a7::a8::a9::b0::b1::b2::b3::b4::b5::b6::b7::b8::b9::d0::d1::d2::d3::d4::[]), h) = (a_mov a0 h (.c (fun t10 h1 => a_mov a2 h1 (.c (fun t11 h2 => a_len t11 h2 (.c (fun t12 h3 => a_cint .u64 t12 h3 (.c (fun t13 h4 => a_mov a1 h4 (.c (fun t14 h5 => ACall X 46 [t10, t13, t14] h5 (.c (fun t15 h6 => a_mov t15 h6 (.c (fun t9 h7 => a_ext 0 t9 h7 (.c (fun t16 h8 => a_ext 1 t9 h8 (.c (fun t17 h9 => a_mov t16 h9 (.c (fun t0 h10 => a_mov t17 h10 (.c (fun t8 h11 => Q .normal ((t0::a1::a2::a3::a4::a5::a6::a7::t8::t9::t10::t11::t12::t13::t14::t15::t16::t17::b8::b9::d0::d1::d2::d3::d4::[]), h11)) ())) ())) ())) ())) ())) ())) ())) ())) ())) ())) ())) := by rw [awp_eq]; kernel_rfl
noncomputable def c29_4 : Code := cr c29_2
noncomputable def c29_5 : Code := cl c29_4
noncomputable def c29_6 : Code := cl c29_5
theorem w29_6 : awp X n c29_6 Q ((a0::a1::a2::a3::a4::a5::a6::a7::a8::a9::b0::b1::b2::b3::b4::b5::b6::b7::b8::b9::d0::d1::d2::d3::d4::[]), h) = (a_mov a8 h (.c (fun t18 h1 => a_bin .neq t18 (.v (.int .i64 0)) h1 (.c (fun t19 h2 => Q .normal ((a0::a1::a2::a3::a4::a5::a6::a7::a8::a9::b0::b1::b2::b3::b4::b5::b6::b7::t18::t19::d0::d1::d2::d3::d4::[]), h2)) ())) ())) := by rw [awp_eq]; kernel_rfl
noncomputable def c29_7 : Code := cr c29_5
noncomputable def c29_8 : Code := cl c29_7
noncomputable def c29_9 : Code := cl c29_8
theorem w29_9 : awp X n c29_9 Q ((a0::a1::a2::a3::a4::a5::a6::a7::a8::a9::b0::b1::b2::b3::b4::b5::b6::b7::b8::b9::d0::d1::d2::d3::d4::[]), h) = (a_mov a0 h (.c (fun t20 h1 => a_mov a8 h1 (.c (fun t21 h2 => a_mov t20 h2 (.c (fun t6 h3 => a_mov t21 h3 (.c (fun t7 h4 => Q .normal ((a0::a1::a2::a3::a4::a5::t6::t7::a8::a9::b0::b1::b2::b3::b4::b5::b6::b7::b8::b9::t20::t21::d2::d3::d4::[]), h4)) ())) ())) ())) ())) := by rw [awp_eq]; kernel_rfl
noncomputable def c29_10 : Code := cr c29_8
theorem w29_10 : awp X n c29_10 Q st = Q .ret st := by rw [awp_eq]; kernel_rfl
theorem w29_8 : awp X n c29_8 Q st = awp X n c29_9 (thenQ (awp X n c29_10 Q) Q) st := by rw [awp_eq]; kernel_rfl
noncomputable def c29_11 : Code := cr c29_7
theorem w29_11 : awp X n c29_11 Q st = Q .normal st := by rw [awp_eq]; kernel_rfl
theorem w29_7 : awp X n c29_7 Q ((a0::a1::a2::a3::a4::a5::a6::a7::a8::a9::b0::b1::b2::b3::b4::b5::b6::b7::b8::b9::d0::d1::d2::d3::d4::[]), h) = a_cond b9 (awp X n c29_8 Q ((a0::a1::a2::a3::a4::a5::a6::a7::a8::a9::b0::b1::b2::b3::b4::b5::b6::b7::b8::b9::d0::d1::d2::d3::d4::[]), h)) (awp X n c29_11 Q ((a0::a1::a2::a3::a4::a5::a6::a7::a8::a9::b0::b1::b2::b3::b4::b5::b6::b7::b8::b9::d0::d1::d2::d3::d4::[]), h)) := by rw [awp_eq]; kernel_rfl
theorem w29_5 : awp X n c29_5 Q st = awp X n c29_6 (thenQ (awp X n c29_7 Q) Q) st := by rw [awp_eq]; kernel_rfl
noncomputable def c29_12 : Code := cr c29_4
noncomputable def c29_13 : Code := cl c29_12
theorem w29_13 : awp X n c29_13 Q ((a0::a1::a2::a3::a4::a5::a6::a7::a8::a9::b0::b1::b2::b3::b4::b5::b6::b7::b8::b9::d0::d1::d2::d3::d4::[]), h) = (a_mov a0 h (.c (fun t22 h1 => a_mov a2 h1 (.c (fun t23 h2 => a_app 1 1 t22 t23 h2 (.c (fun t24 h3 => a_mov t24 h3 (.c (fun t6 h4 => a_mov (.v (.int .i64 0)) h4 (.c (fun t7 h5 => Q .normal ((a0::a1::a2::a3::a4::a5::t6::t7::a8::a9::b0::b1::b2::b3::b4::b5::b6::b7::b8::b9::d0::d1::t22::t23::t24::[]), h5)) ())) ())) ())) ())) ())) := by rw [awp_eq]; kernel_rfl
noncomputable def c29_14 : Code := cr c29_12
theorem w29_14 : awp X n c29_14 Q st = Q .ret st := by rw [awp_eq]; kernel_rfl
theorem w29_12 : awp X n c29_12 Q st = awp X n c29_13 (thenQ (awp X n c29_14 Q) Q) st := by rw [awp_eq]; kernel_rfl
theorem w29_4 : awp X n c29_4 Q st = awp X n c29_5 (thenQ (awp X n c29_12 Q) Q) st := by rw [awp_eq]; kernel_rfl
theorem w29_2 : awp X n c29_2 Q st = awp X n c29_3 (thenQ (awp X n c29_4 Q) Q) st := by rw [awp_eq]; kernel_rfl
theorem w29_0 : awp X n c29_0 Q st = awp X n c29_1 (thenQ (awp X n c29_2 Q) Q) st := by rw [awp_eq]; kernel_rfl
theorem q29_ret : retQ X Tryd.f29 K .ret ((a0::a1::a2::a3::a4::a5::a6::a7::a8::a9::b0::b1::b2::b3::b4::b5::b6::b7::b8::b9::d0::d1::d2::d3::d4::[]), h) = (K.K (.t [a6, a7]) h) := by kernel_rfl
theorem q29_normal : retQ X Tryd.f29 K .normal ((a0::a1::a2::a3::a4::a5::a6::a7::a8::a9::b0::b1::b2::b3::b4::b5::b6::b7::b8::b9::d0::d1::d2::d3::d4::[]), h) = (K.K (.t [a6, a7]) h) := by kernel_rfl
theorem i29 (H : awp X h.length c29_0 (retQ X Tryd.f29 K) ((a0::a1::a2::.bad::.bad::.bad::.bad::.bad::.bad::.bad::.bad::.bad::.bad::.bad::.bad::.bad::.bad::.bad::.bad::.bad::.bad::.bad::.bad::.bad::.bad::[]), h)) : ACall X 29 [a0, a1, a2] h K := acall_intro (fn := Tryd.f29) (by kernel_rfl) (by kernel_rfl) (by kernel_rfl) H
noncomputable def R29 := And.intro (And.intro (And.intro (And.intro w29_1 w29_3) (And.intro w29_6 w29_9)) (And.intro (And.intro w29_10 w29_8) (And.intro w29_11 w29_7))) (And.intro (And.intro (And.intro w29_5 w29_13) (And.intro w29_14 w29_12)) (And.intro (And.intro w29_4 w29_2) (And.intro (w29_0) (And.intro q29_ret q29_normal))))
/-! function 30: sindri/sindriref05.Off -/
noncomputable def c30_0 : Code := bodyOf Tryd.f30
noncomputable def c30_1 : Code := cl c30_0
theorem w30_1 : awp X n c30_1 Q ([a0,a1,a2,a3], h) = (a_mov (.v (.int .i64 0)) h (.c (fun t2 h1 => Q .normal ([a0,a1,t2,a3], h1)) ())) := by rw [awp_eq]; kernel_rfl
noncomputable def c30_2 : Code := cr c30_0
noncomputable def c30_3 : Code := cl c30_2
noncomputable def c30_4 : Code := cl c30_3
theorem w30_4 : awp X n c30_4 Q ([a0,a1,a2,a3], h) = (a_mov a0 h (.c (fun t3 h1 => Q .normal ([a0,a1,a2,t3], h1)) ())) := by rw [awp_eq]; kernel_rfl
noncomputable def c30_5 : Code := cr c30_3
noncomputable def c30_6 : Code := cl c30_5
noncomputable def c30_7 : Code := cl c30_6
theorem w30_7 : awp X n c30_7 Q ([a0,a1,a2,a3], h) = (a_mov (.v (.int .i64 8)) h (.c (fun t2 h1 => Q .normal ([a0,a1,t2,a3], h1)) ())) := by rw [awp_eq]; kernel_rfl
noncomputable def c30_8 : Code := cr c30_6
theorem w30_8 : awp X n c30_8 Q st = Q .ret st := by rw [awp_eq]; kernel_rfl
theorem w30_6 : awp X n c30_6 Q st = awp X n c30_7 (thenQ (awp X n c30_8 Q) Q) st := by rw [awp_eq]; kernel_rfl
noncomputable def c30_9 : Code := cr c30_5
theorem w30_9 : awp X n c30_9 Q st = Q .normal st := by rw [awp_eq]; kernel_rfl
theorem w30_5 : awp X n c30_5 Q ([a0,a1,a2,a3], h) = a_cond a3 (awp X n c30_6 Q ([a0,a1,a2,a3], h)) (awp X n c30_9 Q ([a0,a1,a2,a3], h)) := by rw [awp_eq]; kernel_rfl
theorem w30_3 : awp X n c30_3 Q st = awp X n c30_4 (thenQ (awp X n c30_5 Q) Q) st := by rw [awp_eq]; kernel_rfl
noncomputable def c30_10 : Code := cr c30_2
noncomputable def c30_11 : Code := cl c30_10
theorem w30_11 : awp X n c30_11 Q ([a0,a1,a2,a3], h) = (a_mov (.v (.int .i64 4)) h (.c (fun t2 h1 => Q .normal ([a0,a1,t2,a3], h1)) ())) := by rw [awp_eq]; kernel_rfl
noncomputable def c30_12 : Code := cr c30_10
theorem w30_12 : awp X n c30_12 Q st = Q .ret st := by rw [awp_eq]; kernel_rfl
theorem w30_10 : awp X n c30_10 Q st = awp X n c30_11 (thenQ (awp X n c30_12 Q) Q) st := by rw [awp_eq]; kernel_rfl
theorem w30_2 : awp X n c30_2 Q st = awp X n c30_3 (thenQ (awp X n c30_10 Q) Q) st := by rw [awp_eq]; kernel_rfl
theorem w30_0 : awp X n c30_0 Q st = awp X n c30_1 (thenQ (awp X n c30_2 Q) Q) st := by rw [awp_eq]; kernel_rfl
theorem q30_ret : retQ X Tryd.f30 K .ret ([a0,a1,a2,a3], h) = (K.K a2 h) := by kernel_rfl
theorem q30_normal : retQ X Tryd.f30 K .normal ([a0,a1,a2,a3], h) = (K.K a2 h) := by kernel_rfl
theorem i30 (H : awp X h.length c30_0 (retQ X Tryd.f30 K) ([a0,.bad,.bad,.bad], h)) : ACall X 30 [a0] h K := acall_intro (fn := Tryd.f30) (by kernel_rfl) (by kernel_rfl) (by kernel_rfl) H
noncomputable def R30 := And.intro (And.intro (And.intro (w30_1) (And.intro w30_4 w30_7)) (And.intro (And.intro w30_8 w30_6) (And.intro w30_9 w30_5))) (And.intro (And.intro (And.intro w30_3 w30_11) (And.intro w30_12 w30_10)) (And.intro (And.intro w30_2 w30_0) (And.intro q30_ret q30_normal)))
/-! function 32: sindri/sindriref05.Put -/
noncomputable def c32_0 : Code := bodyOf Tryd.f32
noncomputable def c32_1 : Code := cl c32_0
theorem w32_1 : awp X n c32_1 Q ((a0::a1::a2::a3::a4::a5::a6::a7::a8::a9::b0::b1::b2::b3::b4::[]), h) = (a_mov (.v (.slice none 0 0)) h (.c (fun t4 h1 => a_mov (.v (.int .i64 0)) h1 (.c (fun t5 h2 => Q .normal ((a0::a1::a2::a3::t4::t5::a6::a7::a8::a9::b0::b1::b2::b3::b4::[]), h2)) ())) ())) := by rw [awp_eq]; kernel_rfl
noncomputable def c32_2 : Code := cr c32_0
noncomputable def c32_3 : Code := cl c32_2
noncomputable def c32_4 : Code := cl c32_3
theorem w32_4 : awp X n c32_4 Q ((a0::a1::a2::a3::a4::a5::a6::a7::a8::a9::b0::b1::b2::b3::b4::[]), h) = (a_mov a1 h (.c (fun t6 h1 => Q .normal ((a0::a1::a2::a3::a4::a5::t6::a7::a8::a9::b0::b1::b2::b3::b4::[]), h1)) ())) := by rw [awp_eq]; kernel_rfl
noncomputable def c32_5 : Code := cr c32_3
noncomputable def c32_6 : Code := cl c32_5
noncomputable def c32_7 : Code := cl c32_6
theorem w32_7 : awp X n c32_7 Q ((a0::a1::a2::a3::a4::a5::a6::a7::a8::a9::b0::b1::b2::b3::b4::[]), h) = (ACall X 31 [(.v (.int .u64 4294967295)), (.v (.int .i64 4))] h (.c (fun t7 h1 => a_mov a0 h1 (.c (fun t8 h2 => ACall X 31 [t8, (.v (.int .i64 8))] h2 (.c (fun t9 h3 => a_app 1 1 t7 t9 h3 (.c (fun t10 h4 => a_mov t10 h4 (.c (fun t4 h5 => a_mov (.v (.int .i64 0)) h5 (.c (fun t5 h6 => Q .normal ((a0::a1::a2::a3::t4::t5::a6::t7::t8::t9::t10::b1::b2::b3::b4::[]), h6)) ())) ())) ())) ())) ())) ())) := by rw [awp_eq]; kernel_rfl
noncomputable def c32_8 : Code := cr c32_6
theorem w32_8 : awp X n c32_8 Q st = Q .ret st := by rw [awp_eq]; kernel_rfl
theorem w32_6 : awp X n c32_6 Q st = awp X n c32_7 (thenQ (awp X n c32_8 Q) Q) st := by rw [awp_eq]; kernel_rfl
noncomputable def c32_9 : Code := cr c32_5
theorem w32_9 : awp X n c32_9 Q st = Q .normal st := by rw [awp_eq]; kernel_rfl
theorem w32_5 : awp X n c32_5 Q ((a0::a1::a2::a3::a4::a5::a6::a7::a8::a9::b0::b1::b2::b3::b4::[]), h) = a_cond a6 (awp X n c32_6 Q ((a0::a1::a2::a3::a4::a5::a6::a7::a8::a9::b0::b1::b2::b3::b4::[]), h)) (awp X n c32_9 Q ((a0::a1::a2::a3::a4::a5::a6::a7::a8::a9::b0::b1::b2::b3::b4::[]), h)) := by rw [awp_eq]; kernel_rfl
theorem w32_3 : awp X n c32_3 Q st = awp X n c32_4 (thenQ (awp X n c32_5 Q) Q) st := by rw [awp_eq]; kernel_rfl
noncomputable def c32_10 : Code := cr c32_2
noncomputable def c32_11 : Code := cl c32_10
noncomputable def c32_12 : Code := cl c32_11
theorem w32_12 : awp X n c32_12 Q ((a0::a1::a2::a3::a4::a5::a6::a7::a8::a9::b0::b1::b2::b3::b4::[]), h) = (a_mov a0 h (.c (fun t11 h1 => a_bin .geq t11 (.v (.int .u64 4294967280)) h1 (.c (fun t12 h2 => Q .normal ((a0::a1::a2::a3::a4::a5::a6::a7::a8::a9::b0::t11::t12::b3::b4::[]), h2)) ())) ())) := by rw [awp_eq]; kernel_rfl
noncomputable def c32_13 : Code := cr c32_11
noncomputable def c32_14 : Code := cl c32_13
noncomputable def c32_15 : Code := cl c32_14
theorem w32_15 : awp X n c32_15 Q ((a0::a1::a2::a3::a4::a5::a6::a7::a8::a9::b0::b1::b2::b3::b4::[]), h) = (a_mov (.v (.slice none 0 0)) h (.c (fun t4 h1 => a_mov (.v (.int .i64 13)) h1 (.c (fun t5 h2 => Q .normal ((a0::a1::a2::a3::t4::t5::a6::a7::a8::a9::b0::b1::b2::b3::b4::[]), h2)) ())) ())) := by rw [awp_eq]; kernel_rfl
noncomputable def c32_16 : Code := cr c32_14
theorem w32_16 : awp X n c32_16 Q st = Q .ret st := by rw [awp_eq]; kernel_rfl
theorem w32_14 : awp X n c32_14 Q st = awp X n c32_15 (thenQ (awp X n c32_16 Q) Q) st := by rw [awp_eq]; kernel_rfl
noncomputable def c32_17 : Code := cr c32_13
theorem w32_17 : awp X n c32_17 Q st = Q .normal st := by rw [awp_eq]; kernel_rfl
theorem w32_13 : awp X n c32_13 Q ((a0::a1::a2::a3::a4::a5::a6::a7::a8::a9::b0::b1::b2::b3::b4::[]), h) = a_cond b2 (awp X n c32_14 Q ((a0::a1::a2::a3::a4::a5::a6::a7::a8::a9::b0::b1::b2::b3::b4::[]), h)) (awp X n c32_17 Q ((a0::a1::a2::a3::a4::a5::a6::a7::a8::a9::b0::b1::b2::b3::b4::[]), h)) := by rw [awp_eq]; kernel_rfl
theorem w32_11 : awp X n c32_11 Q st = awp X n c32_12 (thenQ (awp X n c32_13 Q) Q) st := by rw [awp_eq]; kernel_rfl
noncomputable def c32_18 : Code := cr c32_10
noncomputable def c32_19 : Code := cl c32_18
theorem w32_19 : awp X n c32_19 Q ((a0::a1::a2::a3::a4::a5::a6::a7::a8::a9::b0::b1::b2::b3::b4::[]), h) = (a_mov a0 h (.c (fun t13 h1 => ACall X 31 [t13, (.v (.int .i64 4))] h1 (.c (fun t14 h2 => a_mov t14 h2 (.c (fun t4 h3 => a_mov (.v (.int .i64 0)) h3 (.c (fun t5 h4 => Q .normal ((a0::a1::a2::a3::t4::t5::a6::a7::a8::a9::b0::b1::b2::t13::t14::[]), h4)) ())) ())) ())) ())) := by rw [awp_eq]; kernel_rfl
noncomputable def c32_20 : Code := cr c32_18
theorem w32_20 : awp X n c32_20 Q st = Q .ret st := by rw [awp_eq]; kernel_rfl
theorem w32_18 : awp X n c32_18 Q st = awp X n c32_19 (thenQ (awp X n c32_20 Q) Q) st := by rw [awp_eq]; kernel_rfl
theorem w32_10 : awp X n c32_10 Q st = awp X n c32_11 (thenQ (awp X n c32_18 Q) Q) st := by rw [awp_eq]; kernel_rfl
theorem w32_2 : awp X n c32_2 Q st = awp X n c32_3 (thenQ (awp X n c32_10 Q) Q) st := by rw [awp_eq]; kernel_rfl
theorem w32_0 : awp X n c32_0 Q st = awp X n c32_1 (thenQ (awp X n c32_2 Q) Q) st := by rw [awp_eq]; kernel_rfl
theorem q32_ret : retQ X Tryd.f32 K .ret ((a0::a1::a2::a3::a4::a5::a6::a7::a8::a9::b0::b1::b2::b3::b4::[]), h) = (K.K (.t [a4, a5]) h) := by kernel_rfl
theorem q32_normal : retQ X Tryd.f32 K .normal ((a0::a1::a2::a3::a4::a5::a6::a7::a8::a9::b0::b1::b2::b3::b4::[]), h) = (K.K (.t [a4, a5]) h) := by kernel_rfl
theorem i32 (H : awp X h.length c32_0 (retQ X Tryd.f32 K) ((a0::a1::.bad::.bad::.bad::.bad::.bad::.bad::.bad::.bad::.bad::.bad::.bad::.bad::.bad::[]), h)) : ACall X 32 [a0, a1] h K := acall_intro (fn := Tryd.f32) (by kernel_rfl) (by kernel_rfl) (by kernel_rfl) H
noncomputable def R32 := And.intro (And.intro (And.intro (And.intro w32_1 w32_4) (And.intro (w32_7) (And.intro w32_8 w32_6))) (And.intro (And.intro (w32_9) (And.intro w32_5 w32_3)) (And.intro (w32_12) (And.intro w32_15 w32_16)))) (And.intro (And.intro (And.intro (w32_14) (And.intro w32_17 w32_13)) (And.intro (w32_11) (And.intro w32_19 w32_20))) (And.intro (And.intro (w32_18) (And.intro w32_10 w32_2)) (And.intro (w32_0) (And.intro q32_ret q32_normal))))
/-! function 33: sindri/length.Take -/
noncomputable def c33_0 : Code := bodyOf Tryd.f33
noncomputable def c33_1 : Code := cl c33_0
theorem w33_1 : awp X n c33_1 Q ((a0::a1::a2::a3::a4::a5::a6::a7::a8::a9::b0::b1::b2::b3::b4::b5::b6::b7::b8::b9::d0::d1::d2::d3::d4::d5::d6::[]), h) = (a_mov (.v (.int .u64 0)) h (.c (fun t2 h1 => a_mov (.v (.bool false)) h1 (.c (fun t3 h2 => Q .normal ((a0::a1::t2::t3::a4::a5::a6::a7::a8::a9::b0::b1::b2::b3::b4::b5::b6::b7::b8::b9::d0::d1::d2::d3::d4::d5::d6::[]), h2)) ())) ())) := by rw [awp_eq]; kernel_rfl
noncomputable def c33_2 : Code := cr c33_0
noncomputable def c33_3 : Code := cl c33_2
theorem w33_3 : awp X n c33_3 Q ((a0::a1::a2::a3::a4::a5::a6::a7::a8::a9::b0::b1::b2::b3::b4::b5::b6::b7::b8::b9::d0::d1::d2::d3::d4::d5::d6::[]), h) = (a_mov a0 h (.c (fun t4 h1 => ACall X 27 [(.v (.bool false))] h1 (.c (fun t5 h2 => ACall X 39 [t4, t5] h2 (.c (fun t6 h3 => a_mov t6 h3 (.c (fun t2 h4 => Q .normal ((a0::a1::t2::a3::t4::t5::t6::a7::a8::a9::b0::b1::b2::b3::b4::b5::b6::b7::b8::b9::d0::d1::d2::d3::d4::d5::d6::[]), h4)) ())) ())) ())) ())) := by rw [awp_eq]; kernel_rfl
noncomputable def c33_4 : Code := cr c33_2
noncomputable def c33_5 : Code := cl c33_4
noncomputable def c33_6 : Code := cl c33_5
noncomputable def c33_7 : Code := cl c33_6
theorem w33_7 : awp X n c33_7 Q ((a0::a1::a2::a3::a4::a5::a6::a7::a8::a9::b0::b1::b2::b3::b4::b5::b6::b7::b8::b9::d0::d1::d2::d3::d4::d5::d6::[]), h) = (a_mov a0 h (.c (fun t8 h1 => ACall X 21 [t8] h1 (.c (fun t9 h2 => a_bin .neq t9 (.v (.int .i64 0)) h2 (.c (fun t10 h3 => a_mov t10 h3 (.c (fun t7 h4 => Q .normal ((a0::a1::a2::a3::a4::a5::a6::t7::t8::t9::t10::b1::b2::b3::b4::b5::b6::b7::b8::b9::d0::d1::d2::d3::d4::d5::d6::[]), h4)) ())) ())) ())) ())) := by rw [awp_eq]; kernel_rfl
noncomputable def c33_8 : Code := cr c33_6
noncomputable def c33_9 : Code := cl c33_8
noncomputable def c33_10 : Code := cl c33_9
theorem w33_10 : awp X n c33_10 Q ((a0::a1::a2::a3::a4::a5::a6::a7::a8::a9::b0::b1::b2::b3::b4::b5::b6::b7::b8::b9::d0::d1::d2::d3::d4::d5::d6::[]), h) = (a_mov (.v (.int .u64 0)) h (.c (fun t2 h1 => a_mov (.v (.bool false)) h1 (.c (fun t3 h2 => Q .normal ((a0::a1::t2::t3::a4::a5::a6::a7::a8::a9::b0::b1::b2::b3::b4::b5::b6::b7::b8::b9::d0::d1::d2::d3::d4::d5::d6::[]), h2)) ())) ())) := by rw [awp_eq]; kernel_rfl
noncomputable def c33_11 : Code := cr c33_9
theorem w33_11 : awp X n c33_11 Q st = Q .ret st := by rw [awp_eq]; kernel_rfl
theorem w33_9 : awp X n c33_9 Q st = awp X n c33_10 (thenQ (awp X n c33_11 Q) Q) st := by rw [awp_eq]; kernel_rfl
noncomputable def c33_12 : Code := cr c33_8
noncomputable def c33_13 : Code := cl c33_12
theorem w33_13 : awp X n c33_13 Q ((a0::a1::a2::a3::a4::a5::a6::a7::a8::a9::b0::b1::b2::b3::b4::b5::b6::b7::b8::b9::d0::d1::d2::d3::d4::d5::d6::[]), h) = (a_mov a2 h (.c (fun t12 h1 => a_bin .lss t12 (.v (.int .u64 4294967280)) h1 (.c (fun t13 h2 => a_mov t13 h2 (.c (fun t11 h3 => Q .normal ((a0::a1::a2::a3::a4::a5::a6::a7::a8::a9::b0::t11::t12::t13::b4::b5::b6::b7::b8::b9::d0::d1::d2::d3::d4::d5::d6::[]), h3)) ())) ())) ())) := by rw [awp_eq]; kernel_rfl
noncomputable def c33_14 : Code := cr c33_12
noncomputable def c33_15 : Code := cl c33_14
noncomputable def c33_16 : Code := cl c33_15
theorem w33_16 : awp X n c33_16 Q ((a0::a1::a2::a3::a4::a5::a6::a7::a8::a9::b0::b1::b2::b3::b4::b5::b6::b7::b8::b9::d0::d1::d2::d3::d4::d5::d6::[]), h) = (a_mov a2 h (.c (fun t14 h1 => a_mov t14 h1 (.c (fun t2 h2 => a_mov (.v (.bool false)) h2 (.c (fun t3 h3 => Q .normal ((a0::a1::t2::t3::a4::a5::a6::a7::a8::a9::b0::b1::b2::b3::t14::b5::b6::b7::b8::b9::d0::d1::d2::d3::d4::d5::d6::[]), h3)) ())) ())) ())) := by rw [awp_eq]; kernel_rfl
noncomputable def c33_17 : Code := cr c33_15
theorem w33_17 : awp X n c33_17 Q st = Q .ret st := by rw [awp_eq]; kernel_rfl
theorem w33_15 : awp X n c33_15 Q st = awp X n c33_16 (thenQ (awp X n c33_17 Q) Q) st := by rw [awp_eq]; kernel_rfl
noncomputable def c33_18 : Code := cr c33_14
noncomputable def c33_19 : Code := cl c33_18
theorem w33_19 : awp X n c33_19 Q ((a0::a1::a2::a3::a4::a5::a6::a7::a8::a9::b0::b1::b2::b3::b4::b5::b6::b7::b8::b9::d0::d1::d2::d3::d4::d5::d6::[]), h) = (a_mov a2 h (.c (fun t16 h1 => a_bin .neq t16 (.v (.int .u64 4294967295)) h1 (.c (fun t17 h2 => a_mov t17 h2 (.c (fun t15 h3 => Q .normal ((a0::a1::a2::a3::a4::a5::a6::a7::a8::a9::b0::b1::b2::b3::b4::t15::t16::t17::b8::b9::d0::d1::d2::d3::d4::d5::d6::[]), h3)) ())) ())) ())) := by rw [awp_eq]; kernel_rfl
noncomputable def c33_20 : Code := cr c33_18
noncomputable def c33_21 : Code := cl c33_20
noncomputable def c33_22 : Code := cl c33_21
theorem w33_22 : awp X n c33_22 Q ((a0::a1::a2::a3::a4::a5::a6::a7::a8::a9::b0::b1::b2::b3::b4::b5::b6::b7::b8::b9::d0::d1::d2::d3::d4::d5::d6::[]), h) = (a_mov a0 h (.c (fun t18 h1 => ACall X 41 [t18, (.v (.int .i64 13))] h1 (.c (fun t19 h2 => Q .normal ((a0::a1::a2::a3::a4::a5::a6::a7::a8::a9::b0::b1::b2::b3::b4::b5::b6::b7::t18::t19::d0::d1::d2::d3::d4::d5::d6::[]), h2)) ())) ())) := by rw [awp_eq]; kernel_rfl
noncomputable def c33_23 : Code := cr c33_21
noncomputable def c33_24 : Code := cl c33_23
theorem w33_24 : awp X n c33_24 Q ((a0::a1::a2::a3::a4::a5::a6::a7::a8::a9::b0::b1::b2::b3::b4::b5::b6::b7::b8::b9::d0::d1::d2::d3::d4::d5::d6::[]), h) = (a_mov (.v (.int .u64 0)) h (.c (fun t2 h1 => a_mov (.v (.bool false)) h1 (.c (fun t3 h2 => Q .normal ((a0::a1::t2::t3::a4::a5::a6::a7::a8::a9::b0::b1::b2::b3::b4::b5::b6::b7::b8::b9::d0::d1::d2::d3::d4::d5::d6::[]), h2)) ())) ())) := by rw [awp_eq]; kernel_rfl
noncomputable def c33_25 : Code := cr c33_23
theorem w33_25 : awp X n c33_25 Q st = Q .ret st := by rw [awp_eq]; kernel_rfl
theorem w33_23 : awp X n c33_23 Q st = awp X n c33_24 (thenQ (awp X n c33_25 Q) Q) st := by rw [awp_eq]; kernel_rfl
theorem w33_21 : awp X n c33_21 Q st = awp X n c33_22 (thenQ (awp X n c33_23 Q) Q) st := by rw [awp_eq]; kernel_rfl
noncomputable def c33_26 : Code := cr c33_20
theorem w33_26 : awp X n c33_26 Q st = Q .normal st := by rw [awp_eq]; kernel_rfl
theorem w33_20 : awp X n c33_20 Q ((a0::a1::a2::a3::a4::a5::a6::a7::a8::a9::b0::b1::b2::b3::b4::b5::b6::b7::b8::b9::d0::d1::d2::d3::d4::d5::d6::[]), h) = a_cond b5 (awp X n c33_21 Q ((a0::a1::a2::a3::a4::a5::a6::a7::a8::a9::b0::b1::b2::b3::b4::b5::b6::b7::b8::b9::d0::d1::d2::d3::d4::d5::d6::[]), h)) (awp X n c33_26 Q ((a0::a1::a2::a3::a4::a5::a6::a7::a8::a9::b0::b1::b2::b3::b4::b5::b6::b7::b8::b9::d0::d1::d2::d3::d4::d5::d6::[]), h)) := by rw [awp_eq]; kernel_rfl
theorem w33_18 : awp X n c33_18 Q st = awp X n c33_19 (thenQ (awp X n c33_20 Q) Q) st := by rw [awp_eq]; kernel_rfl
theorem w33_14 : awp X n c33_14 Q ((a0::a1::a2::a3::a4::a5::a6::a7::a8::a9::b0::b1::b2::b3::b4::b5::b6::b7::b8::b9::d0::d1::d2::d3::d4::d5::d6::[]), h) = a_cond b1 (awp X n c33_15 Q ((a0::a1::a2::a3::a4::a5::a6::a7::a8::a9::b0::b1::b2::b3::b4::b5::b6::b7::b8::b9::d0::d1::d2::d3::d4::d5::d6::[]), h)) (awp X n c33_18 Q ((a0::a1::a2::a3::a4::a5::a6::a7::a8::a9::b0::b1::b2::b3::b4::b5::b6::b7::b8::b9::d0::d1::d2::d3::d4::d5::d6::[]), h)) := by rw [awp_eq]; kernel_rfl
theorem w33_12 : awp X n c33_12 Q st = awp X n c33_13 (thenQ (awp X n c33_14 Q) Q) st := by rw [awp_eq]; kernel_rfl
theorem w33_8 : awp X n c33_8 Q ((a0::a1::a2::a3::a4::a5::a6::a7::a8::a9::b0::b1::b2::b3::b4::b5::b6::b7::b8::b9::d0::d1::d2::d3::d4::d5::d6::[]), h) = a_cond a7 (awp X n c33_9 Q ((a0::a1::a2::a3::a4::a5::a6::a7::a8::a9::b0::b1::b2::b3::b4::b5::b6::b7::b8::b9::d0::d1::d2::d3::d4::d5::d6::[]), h)) (awp X n c33_12 Q ((a0::a1::a2::a3::a4::a5::a6::a7::a8::a9::b0::b1::b2::b3::b4::b5::b6::b7::b8::b9::d0::d1::d2::d3::d4::d5::d6::[]), h)) := by rw [awp_eq]; kernel_rfl
theorem w33_6 : awp X n c33_6 Q st = awp X n c33_7 (thenQ (awp X n c33_8 Q) Q) st := by rw [awp_eq]; kernel_rfl
theorem w33_5 : awp X n c33_5 Q st = awp X n c33_6 (blockQ 0 Q) st := by rw [awp_eq]; kernel_rfl
noncomputable def c33_27 : Code := cr c33_4
noncomputable def c33_28 : Code := cl c33_27
theorem w33_28 : awp X n c33_28 Q ((a0::a1::a2::a3::a4::a5::a6::a7::a8::a9::b0::b1::b2::b3::b4::b5::b6::b7::b8::b9::d0::d1::d2::d3::d4::d5::d6::[]), h) = (a_mov a0 h (.c (fun t20 h1 => ACall X 27 [(.v (.bool true))] h1 (.c (fun t21 h2 => ACall X 39 [t20, t21] h2 (.c (fun t22 h3 => a_mov t22 h3 (.c (fun t2 h4 => Q .normal ((a0::a1::t2::a3::a4::a5::a6::a7::a8::a9::b0::b1::b2::b3::b4::b5::b6::b7::b8::b9::t20::t21::t22::d3::d4::d5::d6::[]), h4)) ())) ())) ())) ())) := by rw [awp_eq]; kernel_rfl
noncomputable def c33_29 : Code := cr c33_27
noncomputable def c33_30 : Code := cl c33_29
theorem w33_30 : awp X n c33_30 Q ((a0::a1::a2::a3::a4::a5::a6::a7::a8::a9::b0::b1::b2::b3::b4::b5::b6::b7::b8::b9::d0::d1::d2::d3::d4::d5::d6::[]), h) = (a_mov a2 h (.c (fun t23 h1 => a_mov a0 h1 (.c (fun t24 h2 => ACall X 21 [t24] h2 (.c (fun t25 h3 => a_bin .eql t25 (.v (.int .i64 0)) h3 (.c (fun t26 h4 => a_mov t23 h4 (.c (fun t2 h5 => a_mov t26 h5 (.c (fun t3 h6 => Q .normal ((a0::a1::t2::t3::a4::a5::a6::a7::a8::a9::b0::b1::b2::b3::b4::b5::b6::b7::b8::b9::d0::d1::d2::t23::t24::t25::t26::[]), h6)) ())) ())) ())) ())) ())) ())) := by rw [awp_eq]; kernel_rfl
noncomputable def c33_31 : Code := cr c33_29
theorem w33_31 : awp X n c33_31 Q st = Q .ret st := by rw [awp_eq]; kernel_rfl
theorem w33_29 : awp X n c33_29 Q st = awp X n c33_30 (thenQ (awp X n c33_31 Q) Q) st := by rw [awp_eq]; kernel_rfl
theorem w33_27 : awp X n c33_27 Q st = awp X n c33_28 (thenQ (awp X n c33_29 Q) Q) st := by rw [awp_eq]; kernel_rfl
theorem w33_4 : awp X n c33_4 Q st = awp X n c33_5 (thenQ (awp X n c33_27 Q) Q) st := by rw [awp_eq]; kernel_rfl
theorem w33_2 : awp X n c33_2 Q st = awp X n c33_3 (thenQ (awp X n c33_4 Q) Q) st := by rw [awp_eq]; kernel_rfl
theorem w33_0 : awp X n c33_0 Q st = awp X n c33_1 (thenQ (awp X n c33_2 Q) Q) st := by rw [awp_eq]; kernel_rfl
theorem q33_ret : retQ X Tryd.f33 K .ret ((a0::a1::a2::a3::a4::a5::a6::a7::a8::a9::b0::b1::b2::b3::b4::b5::b6::b7::b8::b9::d0::d1::d2::d3::d4::d5::d6::[]), h) = (K.K (.t [a2, a3]) h) := by kernel_rfl
theorem q33_normal : retQ X Tryd.f33 K .normal ((a0::a1::a2::a3::a4::a5::a6::a7::a8::a9::b0::b1::b2::b3::b4::b5::b6::b7::b8::b9::d0::d1::d2::d3::d4::d5::d6::[]), h) = (K.K (.t [a2, a3]) h) := by kernel_rfl
theorem i33 (H : awp X h.length c33_0 (retQ X Tryd.f33 K) ((a0::.bad::.bad::.bad::.bad::.bad::.bad::.bad::.bad::.bad::.bad::.bad::.bad::.bad::.bad::.bad::.bad::.bad::.bad::.bad::.bad::.bad::.bad::.bad::.bad::.bad::.bad::[]), h)) : ACall X 33 [a0] h K := acall_intro (fn := Tryd.f33) (by kernel_rfl) (by kernel_rfl) (by kernel_rfl) H
noncomputable def R33 := And.intro (And.intro (And.intro (And.intro (And.intro w33_1 w33_3) (And.intro w33_7 w33_10)) (And.intro (And.intro w33_11 w33_9) (And.intro w33_13 w33_16))) (And.intro (And.intro (And.intro w33_17 w33_15) (And.intro w33_19 w33_22)) (And.intro (And.intro w33_24 w33_25) (And.intro (w33_23) (And.intro w33_21 w33_26))))) (And.intro (And.intro (And.intro (And.intro w33_20 w33_18) (And.intro w33_14 w33_12)) (And.intro (And.intro w33_8 w33_6) (And.intro w33_5 w33_28))) (And.intro (And.intro (And.intro w33_30 w33_31) (And.intro w33_29 w33_27)) (And.intro (And.intro w33_4 w33_2) (And.intro (w33_0) (And.intro q33_ret q33_normal)))))
/-! function 42: sindri/sindriref05.Body -/
noncomputable def c42_0 : Code := bodyOf Tryd.f42
noncomputable def c42_1 : Code := cl c42_0
theorem w42_1 : awp X n c42_1 Q ((a0::a1::a2::a3::a4::a5::a6::a7::a8::a9::b0::b1::b2::b3::b4::b5::b6::b7::b8::b9::d0::d1::[]), h) = (a_mov (.v (.pointer none)) h (.c (fun t2 h1 => a_mov (.v (.bool false)) h1 (.c (fun t3 h2 => Q .normal ((a0::a1::t2::t3::a4::a5::a6::a7::a8::a9::b0::b1::b2::b3::b4::b5::b6::b7::b8::b9::d0::d1::[]), h2)) ())) ())) := by rw [awp_eq]; kernel_rfl
noncomputable def c42_2 : Code := cr c42_0
noncomputable def c42_3 : Code := cl c42_2
theorem w42_3 : awp X n c42_3 Q ((a0::a1::a2::a3::a4::a5::a6::a7::a8::a9::b0::b1::b2::b3::b4::b5::b6::b7::b8::b9::d0::d1::[]), h) = (a_mov a0 h (.c (fun t8 h1 => ACall X 49 [t8] h1 (.c (fun t9 h2 => a_mov t9 h2 (.c (fun t7 h3 => a_ext 0 t7 h3 (.c (fun t10 h4 => a_ext 1 t7 h4 (.c (fun t11 h5 => a_mov t10 h5 (.c (fun t4 h6 => a_mov t11 h6 (.c (fun t5 h7 => Q .normal ((a0::a1::a2::a3::t4::t5::a6::t7::t8::t9::t10::t11::b2::b3::b4::b5::b6::b7::b8::b9::d0::d1::[]), h7)) ())) ())) ())) ())) ())) ())) ())) := by rw [awp_eq]; kernel_rfl
noncomputable def c42_4 : Code := cr c42_2
noncomputable def c42_5 : Code := cl c42_4
theorem w42_5 : awp X n c42_5 Q ((a0::a1::a2::a3::a4::a5::a6::a7::a8::a9::b0::b1::b2::b3::b4::b5::b6::b7::b8::b9::d0::d1::[]), h) = (a_mov a0 h (.c (fun t12 h1 => a_mov a4 h1 (.c (fun t13 h2 => ACall X 50 [t12, t13] h2 (.c (fun t14 h3 => a_mov t14 h3 (.c (fun t6 h4 => Q .normal ((a0::a1::a2::a3::a4::a5::t6::a7::a8::a9::b0::b1::t12::t13::t14::b5::b6::b7::b8::b9::d0::d1::[]), h4)) ())) ())) ())) ())) := by rw [awp_eq]; kernel_rfl
noncomputable def c42_6 : Code := cr c42_4
noncomputable def c42_7 : Code := cl c42_6
noncomputable def c42_8 : Code := cl c42_7
theorem w42_8 : awp X n c42_8 Q ((a0::a1::a2::a3::a4::a5::a6::a7::a8::a9::b0::b1::b2::b3::b4::b5::b6::b7::b8::b9::d0::d1::[]), h) = (a_mov a6 h (.c (fun t15 h1 => a_nilc t15 h1 (.c (fun t16 h2 => a_fa 2 t16 h2 (.c (fun t17 h3 => a_load 1 false t17 h3 (.c (fun t18 h4 => a_bin .neq t18 (.v (.int .i64 0)) h4 (.c (fun t19 h5 => Q .normal ((a0::a1::a2::a3::a4::a5::a6::a7::a8::a9::b0::b1::b2::b3::b4::t15::t16::t17::t18::t19::d0::d1::[]), h5)) ())) ())) ())) ())) ())) := by rw [awp_eq]; kernel_rfl
noncomputable def c42_9 : Code := cr c42_7
noncomputable def c42_10 : Code := cl c42_9
theorem w42_10 : awp X n c42_10 Q ((a0::a1::a2::a3::a4::a5::a6::a7::a8::a9::b0::b1::b2::b3::b4::b5::b6::b7::b8::b9::d0::d1::[]), h) = (a_mov (.v (.bool false)) h (.c (fun t5 h1 => Q .normal ((a0::a1::a2::a3::a4::t5::a6::a7::a8::a9::b0::b1::b2::b3::b4::b5::b6::b7::b8::b9::d0::d1::[]), h1)) ())) := by rw [awp_eq]; kernel_rfl
noncomputable def c42_11 : Code := cr c42_9
theorem w42_11 : awp X n c42_11 Q st = Q .normal st := by rw [awp_eq]; kernel_rfl
theorem w42_9 : awp X n c42_9 Q ((a0::a1::a2::a3::a4::a5::a6::a7::a8::a9::b0::b1::b2::b3::b4::b5::b6::b7::b8::b9::d0::d1::[]), h) = a_cond b9 (awp X n c42_10 Q ((a0::a1::a2::a3::a4::a5::a6::a7::a8::a9::b0::b1::b2::b3::b4::b5::b6::b7::b8::b9::d0::d1::[]), h)) (awp X n c42_11 Q ((a0::a1::a2::a3::a4::a5::a6::a7::a8::a9::b0::b1::b2::b3::b4::b5::b6::b7::b8::b9::d0::d1::[]), h)) := by rw [awp_eq]; kernel_rfl
theorem w42_7 : awp X n c42_7 Q st = awp X n c42_8 (thenQ (awp X n c42_9 Q) Q) st := by rw [awp_eq]; kernel_rfl
noncomputable def c42_12 : Code := cr c42_6
noncomputable def c42_13 : Code := cl c42_12
theorem w42_13 : awp X n c42_13 Q ((a0::a1::a2::a3::a4::a5::a6::a7::a8::a9::b0::b1::b2::b3::b4::b5::b6::b7::b8::b9::d0::d1::[]), h) = (a_mov a6 h (.c (fun t20 h1 => a_mov a5 h1 (.c (fun t21 h2 => a_mov t20 h2 (.c (fun t2 h3 => a_mov t21 h3 (.c (fun t3 h4 => Q .normal ((a0::a1::t2::t3::a4::a5::a6::a7::a8::a9::b0::b1::b2::b3::b4::b5::b6::b7::b8::b9::t20::t21::[]), h4)) ())) ())) ())) ())) := by rw [awp_eq]; kernel_rfl
noncomputable def c42_14 : Code := cr c42_12
theorem w42_14 : awp X n c42_14 Q st = Q .ret st := by rw [awp_eq]; kernel_rfl
theorem w42_12 : awp X n c42_12 Q st = awp X n c42_13 (thenQ (awp X n c42_14 Q) Q) st := by rw [awp_eq]; kernel_rfl
theorem w42_6 : awp X n c42_6 Q st = awp X n c42_7 (thenQ (awp X n c42_12 Q) Q) st := by rw [awp_eq]; kernel_rfl
theorem w42_4 : awp X n c42_4 Q st = awp X n c42_5 (thenQ (awp X n c42_6 Q) Q) st := by rw [awp_eq]; kernel_rfl
theorem w42_2 : awp X n c42_2 Q st = awp X n c42_3 (thenQ (awp X n c42_4 Q) Q) st := by rw [awp_eq]; kernel_rfl
theorem w42_0 : awp X n c42_0 Q st = awp X n c42_1 (thenQ (awp X n c42_2 Q) Q) st := by rw [awp_eq]; kernel_rfl
theorem q42_ret : retQ X Tryd.f42 K .ret ((a0::a1::a2::a3::a4::a5::a6::a7::a8::a9::b0::b1::b2::b3::b4::b5::b6::b7::b8::b9::d0::d1::[]), h) = (K.K (.t [a2, a3]) h) := by kernel_rfl
theorem q42_normal : retQ X Tryd.f42 K .normal ((a0::a1::a2::a3::a4::a5::a6::a7::a8::a9::b0::b1::b2::b3::b4::b5::b6::b7::b8::b9::d0::d1::[]), h) = (K.K (.t [a2, a3]) h) := by kernel_rfl
theorem i42 (H : awp X h.length c42_0 (retQ X Tryd.f42 K) ((a0::.bad::.bad::.bad::.bad::.bad::.bad::.bad::.bad::.bad::.bad::.bad::.bad::.bad::.bad::.bad::.bad::.bad::.bad::.bad::.bad::.bad::[]), h)) : ACall X 42 [a0] h K := acall_intro (fn := Tryd.f42) (by kernel_rfl) (by kernel_rfl) (by kernel_rfl) H
noncomputable def R42 := And.intro (And.intro (And.intro (And.intro w42_1 w42_3) (And.intro w42_5 w42_8)) (And.intro (And.intro w42_10 w42_11) (And.intro w42_9 w42_7))) (And.intro (And.intro (And.intro w42_13 w42_14) (And.intro w42_12 w42_6)) (And.intro (And.intro w42_4 w42_2) (And.intro (w42_0) (And.intro q42_ret q42_normal))))
/-! function 46: sindri/length.Put -/
noncomputable def c46_0 : Code := bodyOf Tryd.f46
noncomputable def c46_1 : Code := cl c46_0
theorem w46_1 : awp X n c46_1 Q ((a0::a1::a2::a3::a4::a5::a6::a7::a8::a9::b0::b1::b2::b3::b4::b5::b6::b7::b8::b9::d0::d1::d2::d3::[]), h) = (a_mov (.v (.slice none 0 0)) h (.c (fun t6 h1 => a_mov (.v (.int .i64 0)) h1 (.c (fun t7 h2 => Q .normal ((a0::a1::a2::a3::a4::a5::t6::t7::a8::a9::b0::b1::b2::b3::b4::b5::b6::b7::b8::b9::d0::d1::d2::d3::[]), h2)) ())) ())) := by rw [awp_eq]; kernel_rfl
noncomputable def c46_2 : Code := cr c46_0
noncomputable def c46_3 : Code := cl c46_2
noncomputable def c46_4 : Code := cl c46_3
theorem w46_4 : awp X n c46_4 Q ((a0::a1::a2::a3::a4::a5::a6::a7::a8::a9::b0::b1::b2::b3::b4::b5::b6::b7::b8::b9::d0::d1::d2::d3::[]), h) = (a_mov a2 h (.c (fun t8 h1 => a_un .not t8 h1 (.c (fun t9 h2 => a_mov t9 h2 (.c (fun t10 h3 => a_on t10 true (fun k => a_mov a1 h3 k) h3 (.c (fun t11 h4 => a_on t10 true (fun k => a_bin .geq t11 (.v (.int .u64 4294967280)) h4 k) h4 (.c (fun t12 h5 => a_pick t10 t12 (.v (.bool false)) h5 (.c (fun t13 h6 => Q .normal ((a0::a1::a2::a3::a4::a5::a6::a7::t8::t9::t10::t11::t12::t13::b4::b5::b6::b7::b8::b9::d0::d1::d2::d3::[]), h6)) ())) ())) ())) ())) ())) ())) := by rw [awp_eq]; kernel_rfl
noncomputable def c46_5 : Code := cr c46_3
noncomputable def c46_6 : Code := cl c46_5
noncomputable def c46_7 : Code := cl c46_6
theorem w46_7 : awp X n c46_7 Q ((a0::a1::a2::a3::a4::a5::a6::a7::a8::a9::b0::b1::b2::b3::b4::b5::b6::b7::b8::b9::d0::d1::d2::d3::[]), h) = (a_mov a0 h (.c (fun t14 h1 => a_mov t14 h1 (.c (fun t6 h2 => a_mov (.v (.int .i64 13)) h2 (.c (fun t7 h3 => Q .normal ((a0::a1::a2::a3::a4::a5::t6::t7::a8::a9::b0::b1::b2::b3::t14::b5::b6::b7::b8::b9::d0::d1::d2::d3::[]), h3)) ())) ())) ())) := by rw [awp_eq]; kernel_rfl
noncomputable def c46_8 : Code := cr c46_6
theorem w46_8 : awp X n c46_8 Q st = Q .ret st := by rw [awp_eq]; kernel_rfl
theorem w46_6 : awp X n c46_6 Q st = awp X n c46_7 (thenQ (awp X n c46_8 Q) Q) st := by rw [awp_eq]; kernel_rfl
noncomputable def c46_9 : Code := cr c46_5
theorem w46_9 : awp X n c46_9 Q st = Q .normal st := by rw [awp_eq]; kernel_rfl
theorem w46_5 : awp X n c46_5 Q ((a0::a1::a2::a3::a4::a5::a6::a7::a8::a9::b0::b1::b2::b3::b4::b5::b6::b7::b8::b9::d0::d1::d2::d3::[]), h) = a_cond b3 (awp X n c46_6 Q ((a0::a1::a2::a3::a4::a5::a6::a7::a8::a9::b0::b1::b2::b3::b4::b5::b6::b7::b8::b9::d0::d1::d2::d3::[]), h)) (awp X n c46_9 Q ((a0::a1::a2::a3::a4::a5::a6::a7::a8::a9::b0::b1::b2::b3::b4::b5::b6::b7::b8::b9::d0::d1::d2::d3::[]), h)) := by rw [awp_eq]; kernel_rfl
theorem w46_3 : awp X n c46_3 Q st = awp X n c46_4 (thenQ (awp X n c46_5 Q) Q) st := by rw [awp_eq]; kernel_rfl
noncomputable def c46_10 : Code := cr c46_2
noncomputable def c46_11 : Code := cl c46_10
noncomputable def c46_12 : Code := cl c46_11
theorem w46_12 : awp X n c46_12 Q ((a0::a1::a2::a3::a4::a5::a6::a7::a8::a9::b0::b1::b2::b3::b4::b5::b6::b7::b8::b9::d0::d1::d2::d3::[]), h) = (a_mov a2 h (.c (fun t15 h1 => Q .normal ((a0::a1::a2::a3::a4::a5::a6::a7::a8::a9::b0::b1::b2::b3::b4::t15::b6::b7::b8::b9::d0::d1::d2::d3::[]), h1)) ())) := by rw [awp_eq]; kernel_rfl
noncomputable def c46_13 : Code := cr c46_11
noncomputable def c46_14 : Code := cl c46_13
theorem w46_14 : awp X n c46_14 Q ((a0::a1::a2::a3::a4::a5::a6::a7::a8::a9::b0::b1::b2::b3::b4::b5::b6::b7::b8::b9::d0::d1::d2::d3::[]), h) = (a_mov a0 h (.c (fun t16 h1 => ACall X 27 [(.v (.bool false))] h1 (.c (fun t17 h2 => ACall X 28 [t16, (.v (.int .u64 4294967295)), t17] h2 (.c (fun t18 h3 => a_mov t18 h3 (.c (fun t0 h4 => Q .normal ((t0::a1::a2::a3::a4::a5::a6::a7::a8::a9::b0::b1::b2::b3::b4::b5::t16::t17::t18::b9::d0::d1::d2::d3::[]), h4)) ())) ())) ())) ())) := by rw [awp_eq]; kernel_rfl
noncomputable def c46_15 : Code := cr c46_13
theorem w46_15 : awp X n c46_15 Q st = Q .normal st := by rw [awp_eq]; kernel_rfl
theorem w46_13 : awp X n c46_13 Q ((a0::a1::a2::a3::a4::a5::a6::a7::a8::a9::b0::b1::b2::b3::b4::b5::b6::b7::b8::b9::d0::d1::d2::d3::[]), h) = a_cond b5 (awp X n c46_14 Q ((a0::a1::a2::a3::a4::a5::a6::a7::a8::a9::b0::b1::b2::b3::b4::b5::b6::b7::b8::b9::d0::d1::d2::d3::[]), h)) (awp X n c46_15 Q ((a0::a1::a2::a3::a4::a5::a6::a7::a8::a9::b0::b1::b2::b3::b4::b5::b6::b7::b8::b9::d0::d1::d2::d3::[]), h)) := by rw [awp_eq]; kernel_rfl
theorem w46_11 : awp X n c46_11 Q st = awp X n c46_12 (thenQ (awp X n c46_13 Q) Q) st := by rw [awp_eq]; kernel_rfl
noncomputable def c46_16 : Code := cr c46_10
noncomputable def c46_17 : Code := cl c46_16
theorem w46_17 : awp X n c46_17 Q ((a0::a1::a2::a3::a4::a5::a6::a7::a8::a9::b0::b1::b2::b3::b4::b5::b6::b7::b8::b9::d0::d1::d2::d3::[]), h) = (a_mov a0 h (.c (fun t19 h1 => a_mov a1 h1 (.c (fun t20 h2 => a_mov a2 h2 (.c (fun t21 h3 => ACall X 27 [t21] h3 (.c (fun t22 h4 => ACall X 28 [t19, t20, t22] h4 (.c (fun t23 h5 => a_mov t23 h5 (.c (fun t6 h6 => a_mov (.v (.int .i64 0)) h6 (.c (fun t7 h7 => Q .normal ((a0::a1::a2::a3::a4::a5::t6::t7::a8::a9::b0::b1::b2::b3::b4::b5::b6::b7::b8::t19::t20::t21::t22::t23::[]), h7)) ())) ())) ())) ())) ())) ())) ())) := by rw [awp_eq]; kernel_rfl
noncomputable def c46_18 : Code := cr c46_16
theorem w46_18 : awp X n c46_18 Q st = Q .ret st := by rw [awp_eq]; kernel_rfl
theorem w46_16 : awp X n c46_16 Q st = awp X n c46_17 (thenQ (awp X n c46_18 Q) Q) st := by rw [awp_eq]; kernel_rfl
theorem w46_10 : awp X n c46_10 Q st = awp X n c46_11 (thenQ (awp X n c46_16 Q) Q) st := by rw [awp_eq]; kernel_rfl
theorem w46_2 : awp X n c46_2 Q st = awp X n c46_3 (thenQ (awp X n c46_10 Q) Q) st := by rw [awp_eq]; kernel_rfl
theorem w46_0 : awp X n c46_0 Q st = awp X n c46_1 (thenQ (awp X n c46_2 Q) Q) st := by rw [awp_eq]; kernel_rfl
theorem q46_ret : retQ X Tryd.f46 K .ret ((a0::a1::a2::a3::a4::a5::a6::a7::a8::a9::b0::b1::b2::b3::b4::b5::b6::b7::b8::b9::d0::d1::d2::d3::[]), h) = (K.K (.t [a6, a7]) h) := by kernel_rfl
theorem q46_normal : retQ X Tryd.f46 K .normal ((a0::a1::a2::a3::a4::a5::a6::a7::a8::a9::b0::b1::b2::b3::b4::b5::b6::b7::b8::b9::d0::d1::d2::d3::[]), h) = (K.K (.t [a6, a7]) h) := by kernel_rfl
theorem i46 (H : awp X h.length c46_0 (retQ X Tryd.f46 K) ((a0::a1::a2::.bad::.bad::.bad::.bad::.bad::.bad::.bad::.bad::.bad::.bad::.bad::.bad::.bad::.bad::.bad::.bad::.bad::.bad::.bad::.bad::.bad::[]), h)) : ACall X 46 [a0, a1, a2] h K := acall_intro (fn := Tryd.f46) (by kernel_rfl) (by kernel_rfl) (by kernel_rfl) H
noncomputable def R46 := And.intro (And.intro (And.intro (And.intro w46_1 w46_4) (And.intro (w46_7) (And.intro w46_8 w46_6))) (And.intro (And.intro w46_9 w46_5) (And.intro (w46_3) (And.intro w46_12 w46_14)))) (And.intro (And.intro (And.intro w46_15 w46_13) (And.intro (w46_11) (And.intro w46_17 w46_18))) (And.intro (And.intro (w46_16) (And.intro w46_10 w46_2)) (And.intro (w46_0) (And.intro q46_ret q46_normal))))
/-! function 49: sindri/sindriref05.Take -/
noncomputable def c49_0 : Code := bodyOf Tryd.f49
noncomputable def c49_1 : Code := cl c49_0
theorem w49_1 : awp X n c49_1 Q ((a0::a1::a2::a3::a4::a5::a6::a7::a8::a9::b0::b1::b2::b3::b4::b5::b6::b7::b8::b9::d0::d1::[]), h) = (a_mov (.v (.int .u64 0)) h (.c (fun t2 h1 => a_mov (.v (.bool false)) h1 (.c (fun t3 h2 => Q .normal ((a0::a1::t2::t3::a4::a5::a6::a7::a8::a9::b0::b1::b2::b3::b4::b5::b6::b7::b8::b9::d0::d1::[]), h2)) ())) ())) := by rw [awp_eq]; kernel_rfl
noncomputable def c49_2 : Code := cr c49_0
noncomputable def c49_3 : Code := cl c49_2
theorem w49_3 : awp X n c49_3 Q ((a0::a1::a2::a3::a4::a5::a6::a7::a8::a9::b0::b1::b2::b3::b4::b5::b6::b7::b8::b9::d0::d1::[]), h) = (a_mov a0 h (.c (fun t5 h1 => ACall X 43 [t5, (.v (.int .i64 4))] h1 (.c (fun t6 h2 => a_mov t6 h2 (.c (fun t4 h3 => Q .normal ((a0::a1::a2::a3::t4::t5::t6::a7::a8::a9::b0::b1::b2::b3::b4::b5::b6::b7::b8::b9::d0::d1::[]), h3)) ())) ())) ())) := by rw [awp_eq]; kernel_rfl
noncomputable def c49_4 : Code := cr c49_2
noncomputable def c49_5 : Code := cl c49_4
noncomputable def c49_6 : Code := cl c49_5
theorem w49_6 : awp X n c49_6 Q ((a0::a1::a2::a3::a4::a5::a6::a7::a8::a9::b0::b1::b2::b3::b4::b5::b6::b7::b8::b9::d0::d1::[]), h) = (a_mov a4 h (.c (fun t7 h1 => a_bin .lss t7 (.v (.int .u64 4294967280)) h1 (.c (fun t8 h2 => Q .normal ((a0::a1::a2::a3::a4::a5::a6::t7::t8::a9::b0::b1::b2::b3::b4::b5::b6::b7::b8::b9::d0::d1::[]), h2)) ())) ())) := by rw [awp_eq]; kernel_rfl
noncomputable def c49_7 : Code := cr c49_5
noncomputable def c49_8 : Code := cl c49_7
noncomputable def c49_9 : Code := cl c49_8
theorem w49_9 : awp X n c49_9 Q ((a0::a1::a2::a3::a4::a5::a6::a7::a8::a9::b0::b1::b2::b3::b4::b5::b6::b7::b8::b9::d0::d1::[]), h) = (a_mov a4 h (.c (fun t9 h1 => a_mov t9 h1 (.c (fun t2 h2 => a_mov (.v (.bool false)) h2 (.c (fun t3 h3 => Q .normal ((a0::a1::t2::t3::a4::a5::a6::a7::a8::t9::b0::b1::b2::b3::b4::b5::b6::b7::b8::b9::d0::d1::[]), h3)) ())) ())) ())) := by rw [awp_eq]; kernel_rfl
noncomputable def c49_10 : Code := cr c49_8
theorem w49_10 : awp X n c49_10 Q st = Q .ret st := by rw [awp_eq]; kernel_rfl
theorem w49_8 : awp X n c49_8 Q st = awp X n c49_9 (thenQ (awp X n c49_10 Q) Q) st := by rw [awp_eq]; kernel_rfl
noncomputable def c49_11 : Code := cr c49_7
theorem w49_11 : awp X n c49_11 Q st = Q .normal st := by rw [awp_eq]; kernel_rfl
theorem w49_7 : awp X n c49_7 Q ((a0::a1::a2::a3::a4::a5::a6::a7::a8::a9::b0::b1::b2::b3::b4::b5::b6::b7::b8::b9::d0::d1::[]), h) = a_cond a8 (awp X n c49_8 Q ((a0::a1::a2::a3::a4::a5::a6::a7::a8::a9::b0::b1::b2::b3::b4::b5::b6::b7::b8::b9::d0::d1::[]), h)) (awp X n c49_11 Q ((a0::a1::a2::a3::a4::a5::a6::a7::a8::a9::b0::b1::b2::b3::b4::b5::b6::b7::b8::b9::d0::d1::[]), h)) := by rw [awp_eq]; kernel_rfl
theorem w49_5 : awp X n c49_5 Q st = awp X n c49_6 (thenQ (awp X n c49_7 Q) Q) st := by rw [awp_eq]; kernel_rfl
noncomputable def c49_12 : Code := cr c49_4
noncomputable def c49_13 : Code := cl c49_12
noncomputable def c49_14 : Code := cl c49_13
theorem w49_14 : awp X n c49_14 Q ((a0::a1::a2::a3::a4::a5::a6::a7::a8::a9::b0::b1::b2::b3::b4::b5::b6::b7::b8::b9::d0::d1::[]), h) = (a_mov a4 h (.c (fun t10 h1 => a_bin .neq t10 (.v (.int .u64 4294967295)) h1 (.c (fun t11 h2 => Q .normal ((a0::a1::a2::a3::a4::a5::a6::a7::a8::a9::t10::t11::b2::b3::b4::b5::b6::b7::b8::b9::d0::d1::[]), h2)) ())) ())) := by rw [awp_eq]; kernel_rfl
noncomputable def c49_15 : Code := cr c49_13
noncomputable def c49_16 : Code := cl c49_15
noncomputable def c49_17 : Code := cl c49_16
theorem w49_17 : awp X n c49_17 Q ((a0::a1::a2::a3::a4::a5::a6::a7::a8::a9::b0::b1::b2::b3::b4::b5::b6::b7::b8::b9::d0::d1::[]), h) = (a_mov a0 h (.c (fun t12 h1 => ACall X 51 [t12, (.v (.int .i64 13))] h1 (.c (fun t13 h2 => Q .normal ((a0::a1::a2::a3::a4::a5::a6::a7::a8::a9::b0::b1::t12::t13::b4::b5::b6::b7::b8::b9::d0::d1::[]), h2)) ())) ())) := by rw [awp_eq]; kernel_rfl
noncomputable def c49_18 : Code := cr c49_16
noncomputable def c49_19 : Code := cl c49_18
theorem w49_19 : awp X n c49_19 Q ((a0::a1::a2::a3::a4::a5::a6::a7::a8::a9::b0::b1::b2::b3::b4::b5::b6::b7::b8::b9::d0::d1::[]), h) = (a_mov (.v (.int .u64 0)) h (.c (fun t2 h1 => a_mov (.v (.bool false)) h1 (.c (fun t3 h2 => Q .normal ((a0::a1::t2::t3::a4::a5::a6::a7::a8::a9::b0::b1::b2::b3::b4::b5::b6::b7::b8::b9::d0::d1::[]), h2)) ())) ())) := by rw [awp_eq]; kernel_rfl
noncomputable def c49_20 : Code := cr c49_18
theorem w49_20 : awp X n c49_20 Q st = Q .ret st := by rw [awp_eq]; kernel_rfl
theorem w49_18 : awp X n c49_18 Q st = awp X n c49_19 (thenQ (awp X n c49_20 Q) Q) st := by rw [awp_eq]; kernel_rfl
theorem w49_16 : awp X n c49_16 Q st = awp X n c49_17 (thenQ (awp X n c49_18 Q) Q) st := by rw [awp_eq]; kernel_rfl
noncomputable def c49_21 : Code := cr c49_15
theorem w49_21 : awp X n c49_21 Q st = Q .normal st := by rw [awp_eq]; kernel_rfl
theorem w49_15 : awp X n c49_15 Q ((a0::a1::a2::a3::a4::a5::a6::a7::a8::a9::b0::b1::b2::b3::b4::b5::b6::b7::b8::b9::d0::d1::[]), h) = a_cond b1 (awp X n c49_16 Q ((a0::a1::a2::a3::a4::a5::a6::a7::a8::a9::b0::b1::b2::b3::b4::b5::b6::b7::b8::b9::d0::d1::[]), h)) (awp X n c49_21 Q ((a0::a1::a2::a3::a4::a5::a6::a7::a8::a9::b0::b1::b2::b3::b4::b5::b6::b7::b8::b9::d0::d1::[]), h)) := by rw [awp_eq]; kernel_rfl
theorem w49_13 : awp X n c49_13 Q st = awp X n c49_14 (thenQ (awp X n c49_15 Q) Q) st := by rw [awp_eq]; kernel_rfl
noncomputable def c49_22 : Code := cr c49_12
noncomputable def c49_23 : Code := cl c49_22
theorem w49_23 : awp X n c49_23 Q ((a0::a1::a2::a3::a4::a5::a6::a7::a8::a9::b0::b1::b2::b3::b4::b5::b6::b7::b8::b9::d0::d1::[]), h) = (a_mov a0 h (.c (fun t14 h1 => ACall X 43 [t14, (.v (.int .i64 8))] h1 (.c (fun t15 h2 => a_mov t15 h2 (.c (fun t4 h3 => Q .normal ((a0::a1::a2::a3::t4::a5::a6::a7::a8::a9::b0::b1::b2::b3::t14::t15::b6::b7::b8::b9::d0::d1::[]), h3)) ())) ())) ())) := by rw [awp_eq]; kernel_rfl
noncomputable def c49_24 : Code := cr c49_22
noncomputable def c49_25 : Code := cl c49_24
theorem w49_25 : awp X n c49_25 Q ((a0::a1::a2::a3::a4::a5::a6::a7::a8::a9::b0::b1::b2::b3::b4::b5::b6::b7::b8::b9::d0::d1::[]), h) = (a_mov a4 h (.c (fun t16 h1 => a_mov a0 h1 (.c (fun t17 h2 => a_nilc t17 h2 (.c (fun t18 h3 => a_fa 2 t18 h3 (.c (fun t19 h4 => a_load 1 false t19 h4 (.c (fun t20 h5 => a_bin .eql t20 (.v (.int .i64 0)) h5 (.c (fun t21 h6 => a_mov t16 h6 (.c (fun t2 h7 => a_mov t21 h7 (.c (fun t3 h8 => Q .normal ((a0::a1::t2::t3::a4::a5::a6::a7::a8::a9::b0::b1::b2::b3::b4::b5::t16::t17::t18::t19::t20::t21::[]), h8)) ())) ())) ())) ())) ())) ())) ())) ())) := by rw [awp_eq]; kernel_rfl
noncomputable def c49_26 : Code := cr c49_24
theorem w49_26 : awp X n c49_26 Q st = Q .ret st := by rw [awp_eq]; kernel_rfl
theorem w49_24 : awp X n c49_24 Q st = awp X n c49_25 (thenQ (awp X n c49_26 Q) Q) st := by rw [awp_eq]; kernel_rfl
theorem w49_22 : awp X n c49_22 Q st = awp X n c49_23 (thenQ (awp X n c49_24 Q) Q) st := by rw [awp_eq]; kernel_rfl
theorem w49_12 : awp X n c49_12 Q st = awp X n c49_13 (thenQ (awp X n c49_22 Q) Q) st := by rw [awp_eq]; kernel_rfl
theorem w49_4 : awp X n c49_4 Q st = awp X n c49_5 (thenQ (awp X n c49_12 Q) Q) st := by rw [awp_eq]; kernel_rfl
theorem w49_2 : awp X n c49_2 Q st = awp X n c49_3 (thenQ (awp X n c49_4 Q) Q) st := by rw [awp_eq]; kernel_rfl
theorem w49_0 : awp X n c49_0 Q st = awp X n c49_1 (thenQ (awp X n c49_2 Q) Q) st := by rw [awp_eq]; kernel_rfl
theorem q49_ret : retQ X Tryd.f49 K .ret ((a0::a1::a2::a3::a4::a5::a6::a7::a8::a9::b0::b1::b2::b3::b4::b5::b6::b7::b8::b9::d0::d1::[]), h) = (K.K (.t [a2, a3]) h) := by kernel_rfl
theorem q49_normal : retQ X Tryd.f49 K .normal ((a0::a1::a2::a3::a4::a5::a6::a7::a8::a9::b0::b1::b2::b3::b4::b5::b6::b7::b8::b9::d0::d1::[]), h) = (K.K (.t [a2, a3]) h) := by kernel_rfl
theorem i49 (H : awp X h.length c49_0 (retQ X Tryd.f49 K) ((a0::.bad::.bad::.bad::.bad::.bad::.bad::.bad::.bad::.bad::.bad::.bad::.bad::.bad::.bad::.bad::.bad::.bad::.bad::.bad::.bad::.bad::[]), h)) : ACall X 49 [a0] h K := acall_intro (fn := Tryd.f49) (by kernel_rfl) (by kernel_rfl) (by kernel_rfl) H
noncomputable def R49 := And.intro (And.intro (And.intro (And.intro (w49_1) (And.intro w49_3 w49_6)) (And.intro (And.intro w49_9 w49_10) (And.intro w49_8 w49_11))) (And.intro (And.intro (w49_7) (And.intro w49_5 w49_14)) (And.intro (And.intro w49_17 w49_19) (And.intro w49_20 w49_18)))) (And.intro (And.intro (And.intro (w49_16) (And.intro w49_21 w49_15)) (And.intro (And.intro w49_13 w49_23) (And.intro w49_25 w49_26))) (And.intro (And.intro (And.intro w49_24 w49_22) (And.intro w49_12 w49_4)) (And.intro (And.intro w49_2 w49_0) (And.intro q49_ret q49_normal))))
end Go.Proofs.YtmjjfchahkdceaaDoor
