import Derived.Test.YtlfplmcidfflfaaEnv
set_option linter.unusedVariables false
set_option linter.defProp false
set_option maxRecDepth 100000
namespace Go.Proofs.Ytlfplmcidfflfaa
open Go.Ab
variable (n : Nat) (h : Heap) (Q : Qt) (st : St) (K : Kt) (a0 a1 a2 a3 a4 a5 a6 a7 a8 a9 b0 b1 b2 b3 b4 b5 b6 b7 b8 b9 d0 d1 d2 d3 d4 d5 d6 d7 d8 d9 e0 e1 e2 e3 e4 e5 e6 e7 e8 e9 f0 f1 f2 f3 f4 f5 f6 f7 f8 f9 g0 g1 g2 g3 g4 g5 g6 g7 g8 g9 : AV)
/-! function 9: sindri/cursor.New -/
noncomputable def c9_0 : Code := bodyOf Try.f9
noncomputable def c9_1 : Code := cl c9_0
theorem w9_1 : awp X n c9_1 Q ((a0::a1::a2::a3::a4::a5::a6::a7::[]), h) = (a_mov (.v (.pointer none)) h (.c (fun t2 h1 => Q .normal ((a0::a1::t2::a3::a4::a5::a6::a7::[]), h1)) ())) := by rw [awp_eq]; kernel_rfl
noncomputable def c9_2 : Code := cr c9_0
noncomputable def c9_3 : Code := cl c9_2
theorem w9_3 : awp X n c9_3 Q ((a0::a1::a2::a3::a4::a5::a6::a7::[]), h) = (a_lit 1 0 [] [] h (.c (fun t3 h1 => a_mov a0 h1 (.c (fun t4 h2 => a_app 1 1 t3 t4 h2 (.c (fun t5 h3 => a_build [.v (.slice none 0 0), .v (.int .i64 0), .v (.bool false), .v (.int .i64 0)] [(0, 1, t5), (2, 1, (.v (.bool true)))] h3 (.c (fun t6 h4 => a_box t6 h4 (.c (fun t7 h5 => a_mov t7 h5 (.c (fun t2 h6 => Q .normal ((a0::a1::t2::t3::t4::t5::t6::t7::[]), h6)) ())) ())) ())) ())) ())) ())) := by rw [awp_eq]; kernel_rfl
noncomputable def c9_4 : Code := cr c9_2
theorem w9_4 : awp X n c9_4 Q st = Q .ret st := by rw [awp_eq]; kernel_rfl
theorem w9_2 : awp X n c9_2 Q st = awp X n c9_3 (thenQ (awp X n c9_4 Q) Q) st := by rw [awp_eq]; kernel_rfl
theorem w9_0 : awp X n c9_0 Q st = awp X n c9_1 (thenQ (awp X n c9_2 Q) Q) st := by rw [awp_eq]; kernel_rfl
theorem q9_ret : retQ X Try.f9 K .ret ((a0::a1::a2::a3::a4::a5::a6::a7::[]), h) = (K.K a2 h) := by kernel_rfl
theorem q9_normal : retQ X Try.f9 K .normal ((a0::a1::a2::a3::a4::a5::a6::a7::[]), h) = (K.K a2 h) := by kernel_rfl
theorem i9 (H : awp X h.length c9_0 (retQ X Try.f9 K) ((a0::.bad::.bad::.bad::.bad::.bad::.bad::.bad::[]), h)) : ACall X 9 [a0] h K := acall_intro (fn := Try.f9) (by kernel_rfl) (by kernel_rfl) (by kernel_rfl) H
noncomputable def R9 := And.intro (And.intro (w9_1) (And.intro w9_3 w9_4)) (And.intro (And.intro w9_2 w9_0) (And.intro q9_ret q9_normal))
/-! function 15: (*sindri/cursor.Cursor).Err -/
noncomputable def c15_0 : Code := bodyOf Try.f15
noncomputable def c15_1 : Code := cl c15_0
theorem w15_1 : awp X n c15_1 Q ((a0::a1::a2::a3::a4::a5::a6::a7::a8::a9::b0::b1::b2::b3::b4::b5::[]), h) = (a_mov (.v (.int .i64 0)) h (.c (fun t2 h1 => Q .normal ((a0::a1::t2::a3::a4::a5::a6::a7::a8::a9::b0::b1::b2::b3::b4::b5::[]), h1)) ())) := by rw [awp_eq]; kernel_rfl
noncomputable def c15_2 : Code := cr c15_0
noncomputable def c15_3 : Code := cl c15_2
noncomputable def c15_4 : Code := cl c15_3
theorem w15_4 : awp X n c15_4 Q ((a0::a1::a2::a3::a4::a5::a6::a7::a8::a9::b0::b1::b2::b3::b4::b5::[]), h) = (a_mov a0 h (.c (fun t3 h1 => a_eqp false t3 (.v (.pointer none)) h1 (.c (fun t4 h2 => a_mov t4 h2 (.c (fun t5 h3 => a_on t5 false (fun k => a_mov a0 h3 k) h3 (.c (fun t6 h4 => a_on t5 false (fun k => a_nilc t6 h4 k) h4 (.c (fun t7 h5 => a_on t5 false (fun k => a_fa 2 t7 h5 k) h5 (.c (fun t8 h6 => a_on t5 false (fun k => a_load 1 false t8 h6 k) h6 (.c (fun t9 h7 => a_on t5 false (fun k => a_un .not t9 h7 k) h7 (.c (fun t10 h8 => a_pick t5 (.v (.bool true)) t10 h8 (.c (fun t11 h9 => Q .normal ((a0::a1::a2::t3::t4::t5::t6::t7::t8::t9::t10::t11::b2::b3::b4::b5::[]), h9)) ())) ())) ())) ())) ())) ())) ())) ())) ())) := by rw [awp_eq]; kernel_rfl
noncomputable def c15_5 : Code := cr c15_3
noncomputable def c15_6 : Code := cl c15_5
noncomputable def c15_7 : Code := cl c15_6
theorem w15_7 : awp X n c15_7 Q ((a0::a1::a2::a3::a4::a5::a6::a7::a8::a9::b0::b1::b2::b3::b4::b5::[]), h) = (a_mov (.v (.int .i64 1)) h (.c (fun t2 h1 => Q .normal ((a0::a1::t2::a3::a4::a5::a6::a7::a8::a9::b0::b1::b2::b3::b4::b5::[]), h1)) ())) := by rw [awp_eq]; kernel_rfl
noncomputable def c15_8 : Code := cr c15_6
theorem w15_8 : awp X n c15_8 Q st = Q .ret st := by rw [awp_eq]; kernel_rfl
theorem w15_6 : awp X n c15_6 Q st = awp X n c15_7 (thenQ (awp X n c15_8 Q) Q) st := by rw [awp_eq]; kernel_rfl
noncomputable def c15_9 : Code := cr c15_5
theorem w15_9 : awp X n c15_9 Q st = Q .normal st := by rw [awp_eq]; kernel_rfl
theorem w15_5 : awp X n c15_5 Q ((a0::a1::a2::a3::a4::a5::a6::a7::a8::a9::b0::b1::b2::b3::b4::b5::[]), h) = a_cond b1 (awp X n c15_6 Q ((a0::a1::a2::a3::a4::a5::a6::a7::a8::a9::b0::b1::b2::b3::b4::b5::[]), h)) (awp X n c15_9 Q ((a0::a1::a2::a3::a4::a5::a6::a7::a8::a9::b0::b1::b2::b3::b4::b5::[]), h)) := by rw [awp_eq]; kernel_rfl
theorem w15_3 : awp X n c15_3 Q st = awp X n c15_4 (thenQ (awp X n c15_5 Q) Q) st := by rw [awp_eq]; kernel_rfl
noncomputable def c15_10 : Code := cr c15_2
noncomputable def c15_11 : Code := cl c15_10
theorem w15_11 : awp X n c15_11 Q ((a0::a1::a2::a3::a4::a5::a6::a7::a8::a9::b0::b1::b2::b3::b4::b5::[]), h) = (a_mov a0 h (.c (fun t12 h1 => a_nilc t12 h1 (.c (fun t13 h2 => a_fa 3 t13 h2 (.c (fun t14 h3 => a_load 1 false t14 h3 (.c (fun t15 h4 => a_mov t15 h4 (.c (fun t2 h5 => Q .normal ((a0::a1::t2::a3::a4::a5::a6::a7::a8::a9::b0::b1::t12::t13::t14::t15::[]), h5)) ())) ())) ())) ())) ())) := by rw [awp_eq]; kernel_rfl
noncomputable def c15_12 : Code := cr c15_10
theorem w15_12 : awp X n c15_12 Q st = Q .ret st := by rw [awp_eq]; kernel_rfl
theorem w15_10 : awp X n c15_10 Q st = awp X n c15_11 (thenQ (awp X n c15_12 Q) Q) st := by rw [awp_eq]; kernel_rfl
theorem w15_2 : awp X n c15_2 Q st = awp X n c15_3 (thenQ (awp X n c15_10 Q) Q) st := by rw [awp_eq]; kernel_rfl
theorem w15_0 : awp X n c15_0 Q st = awp X n c15_1 (thenQ (awp X n c15_2 Q) Q) st := by rw [awp_eq]; kernel_rfl
theorem q15_ret : retQ X Try.f15 K .ret ((a0::a1::a2::a3::a4::a5::a6::a7::a8::a9::b0::b1::b2::b3::b4::b5::[]), h) = (K.K a2 h) := by kernel_rfl
theorem q15_normal : retQ X Try.f15 K .normal ((a0::a1::a2::a3::a4::a5::a6::a7::a8::a9::b0::b1::b2::b3::b4::b5::[]), h) = (K.K a2 h) := by kernel_rfl
theorem i15 (H : awp X h.length c15_0 (retQ X Try.f15 K) ((a0::.bad::.bad::.bad::.bad::.bad::.bad::.bad::.bad::.bad::.bad::.bad::.bad::.bad::.bad::.bad::[]), h)) : ACall X 15 [a0] h K := acall_intro (fn := Try.f15) (by kernel_rfl) (by kernel_rfl) (by kernel_rfl) H
noncomputable def R15 := And.intro (And.intro (And.intro (w15_1) (And.intro w15_4 w15_7)) (And.intro (And.intro w15_8 w15_6) (And.intro w15_9 w15_5))) (And.intro (And.intro (And.intro w15_3 w15_11) (And.intro w15_12 w15_10)) (And.intro (And.intro w15_2 w15_0) (And.intro q15_ret q15_normal)))
/-! function 16: (*sindri/cursor.Cursor).Left -/
noncomputable def c16_0 : Code := bodyOf Try.f16
noncomputable def c16_1 : Code := cl c16_0
theorem w16_1 : awp X n c16_1 Q ((a0::a1::a2::a3::a4::a5::a6::a7::a8::a9::b0::b1::b2::b3::b4::b5::[]), h) = (a_mov (.v (.int .i64 0)) h (.c (fun t2 h1 => Q .normal ((a0::a1::t2::a3::a4::a5::a6::a7::a8::a9::b0::b1::b2::b3::b4::b5::[]), h1)) ())) := by rw [awp_eq]; kernel_rfl
noncomputable def c16_2 : Code := cr c16_0
noncomputable def c16_3 : Code := cl c16_2
noncomputable def c16_4 : Code := cl c16_3
theorem w16_4 : awp X n c16_4 Q ((a0::a1::a2::a3::a4::a5::a6::a7::a8::a9::b0::b1::b2::b3::b4::b5::[]), h) = (a_mov a0 h (.c (fun t3 h1 => ACall X 15 [t3] h1 (.c (fun t4 h2 => a_bin .neq t4 (.v (.int .i64 0)) h2 (.c (fun t5 h3 => Q .normal ((a0::a1::a2::t3::t4::t5::a6::a7::a8::a9::b0::b1::b2::b3::b4::b5::[]), h3)) ())) ())) ())) := by rw [awp_eq]; kernel_rfl
noncomputable def c16_5 : Code := cr c16_3
noncomputable def c16_6 : Code := cl c16_5
noncomputable def c16_7 : Code := cl c16_6
theorem w16_7 : awp X n c16_7 Q ((a0::a1::a2::a3::a4::a5::a6::a7::a8::a9::b0::b1::b2::b3::b4::b5::[]), h) = (a_mov (.v (.int .i64 0)) h (.c (fun t2 h1 => Q .normal ((a0::a1::t2::a3::a4::a5::a6::a7::a8::a9::b0::b1::b2::b3::b4::b5::[]), h1)) ())) := by rw [awp_eq]; kernel_rfl
noncomputable def c16_8 : Code := cr c16_6
theorem w16_8 : awp X n c16_8 Q st = Q .ret st := by rw [awp_eq]; kernel_rfl
theorem w16_6 : awp X n c16_6 Q st = awp X n c16_7 (thenQ (awp X n c16_8 Q) Q) st := by rw [awp_eq]; kernel_rfl
noncomputable def c16_9 : Code := cr c16_5
theorem w16_9 : awp X n c16_9 Q st = Q .normal st := by rw [awp_eq]; kernel_rfl
theorem w16_5 : awp X n c16_5 Q ((a0::a1::a2::a3::a4::a5::a6::a7::a8::a9::b0::b1::b2::b3::b4::b5::[]), h) = a_cond a5 (awp X n c16_6 Q ((a0::a1::a2::a3::a4::a5::a6::a7::a8::a9::b0::b1::b2::b3::b4::b5::[]), h)) (awp X n c16_9 Q ((a0::a1::a2::a3::a4::a5::a6::a7::a8::a9::b0::b1::b2::b3::b4::b5::[]), h)) := by rw [awp_eq]; kernel_rfl
theorem w16_3 : awp X n c16_3 Q st = awp X n c16_4 (thenQ (awp X n c16_5 Q) Q) st := by rw [awp_eq]; kernel_rfl
noncomputable def c16_10 : Code := cr c16_2
noncomputable def c16_11 : Code := cl c16_10
theorem w16_11 : awp X n c16_11 Q ((a0::a1::a2::a3::a4::a5::a6::a7::a8::a9::b0::b1::b2::b3::b4::b5::[]), h) = (a_mov a0 h (.c (fun t6 h1 => a_nilc t6 h1 (.c (fun t7 h2 => a_fa 0 t7 h2 (.c (fun t8 h3 => a_load 1 false t8 h3 (.c (fun t9 h4 => a_len t9 h4 (.c (fun t10 h5 => a_mov a0 h5 (.c (fun t11 h6 => a_nilc t11 h6 (.c (fun t12 h7 => a_fa 1 t12 h7 (.c (fun t13 h8 => a_load 1 false t13 h8 (.c (fun t14 h9 => a_bin .sub t10 t14 h9 (.c (fun t15 h10 => a_mov t15 h10 (.c (fun t2 h11 => Q .normal ((a0::a1::t2::a3::a4::a5::t6::t7::t8::t9::t10::t11::t12::t13::t14::t15::[]), h11)) ())) ())) ())) ())) ())) ())) ())) ())) ())) ())) ())) := by rw [awp_eq]; kernel_rfl
noncomputable def c16_12 : Code := cr c16_10
theorem w16_12 : awp X n c16_12 Q st = Q .ret st := by rw [awp_eq]; kernel_rfl
theorem w16_10 : awp X n c16_10 Q st = awp X n c16_11 (thenQ (awp X n c16_12 Q) Q) st := by rw [awp_eq]; kernel_rfl
theorem w16_2 : awp X n c16_2 Q st = awp X n c16_3 (thenQ (awp X n c16_10 Q) Q) st := by rw [awp_eq]; kernel_rfl
theorem w16_0 : awp X n c16_0 Q st = awp X n c16_1 (thenQ (awp X n c16_2 Q) Q) st := by rw [awp_eq]; kernel_rfl
theorem q16_ret : retQ X Try.f16 K .ret ((a0::a1::a2::a3::a4::a5::a6::a7::a8::a9::b0::b1::b2::b3::b4::b5::[]), h) = (K.K a2 h) := by kernel_rfl
theorem q16_normal : retQ X Try.f16 K .normal ((a0::a1::a2::a3::a4::a5::a6::a7::a8::a9::b0::b1::b2::b3::b4::b5::[]), h) = (K.K a2 h) := by kernel_rfl
theorem i16 (H : awp X h.length c16_0 (retQ X Try.f16 K) ((a0::.bad::.bad::.bad::.bad::.bad::.bad::.bad::.bad::.bad::.bad::.bad::.bad::.bad::.bad::.bad::[]), h)) : ACall X 16 [a0] h K := acall_intro (fn := Try.f16) (by kernel_rfl) (by kernel_rfl) (by kernel_rfl) H
noncomputable def R16 := And.intro (And.intro (And.intro (w16_1) (And.intro w16_4 w16_7)) (And.intro (And.intro w16_8 w16_6) (And.intro w16_9 w16_5))) (And.intro (And.intro (And.intro w16_3 w16_11) (And.intro w16_12 w16_10)) (And.intro (And.intro w16_2 w16_0) (And.intro q16_ret q16_normal)))
/-! function 25: (*sindri/cursor.Cursor).End -/
noncomputable def c25_0 : Code := bodyOf Try.f25
noncomputable def c25_1 : Code := cl c25_0
theorem w25_1 : awp X n c25_1 Q ((a0::a1::a2::a3::a4::a5::a6::a7::[]), h) = (a_mov (.v (.int .i64 0)) h (.c (fun t2 h1 => Q .normal ((a0::a1::t2::a3::a4::a5::a6::a7::[]), h1)) ())) := by rw [awp_eq]; kernel_rfl
noncomputable def c25_2 : Code := cr c25_0
noncomputable def c25_3 : Code := cl c25_2
noncomputable def c25_4 : Code := cl c25_3
theorem w25_4 : awp X n c25_4 Q ((a0::a1::a2::a3::a4::a5::a6::a7::[]), h) = (a_mov a0 h (.c (fun t3 h1 => ACall X 16 [t3] h1 (.c (fun t4 h2 => a_bin .gtr t4 (.v (.int .i64 0)) h2 (.c (fun t5 h3 => Q .normal ((a0::a1::a2::t3::t4::t5::a6::a7::[]), h3)) ())) ())) ())) := by rw [awp_eq]; kernel_rfl
noncomputable def c25_5 : Code := cr c25_3
noncomputable def c25_6 : Code := cl c25_5
noncomputable def c25_7 : Code := cl c25_6
theorem w25_7 : awp X n c25_7 Q ((a0::a1::a2::a3::a4::a5::a6::a7::[]), h) = (a_mov (.v (.int .i64 2)) h (.c (fun t2 h1 => Q .normal ((a0::a1::t2::a3::a4::a5::a6::a7::[]), h1)) ())) := by rw [awp_eq]; kernel_rfl
noncomputable def c25_8 : Code := cr c25_6
theorem w25_8 : awp X n c25_8 Q st = Q .ret st := by rw [awp_eq]; kernel_rfl
theorem w25_6 : awp X n c25_6 Q st = awp X n c25_7 (thenQ (awp X n c25_8 Q) Q) st := by rw [awp_eq]; kernel_rfl
noncomputable def c25_9 : Code := cr c25_5
theorem w25_9 : awp X n c25_9 Q st = Q .normal st := by rw [awp_eq]; kernel_rfl
theorem w25_5 : awp X n c25_5 Q ((a0::a1::a2::a3::a4::a5::a6::a7::[]), h) = a_cond a5 (awp X n c25_6 Q ((a0::a1::a2::a3::a4::a5::a6::a7::[]), h)) (awp X n c25_9 Q ((a0::a1::a2::a3::a4::a5::a6::a7::[]), h)) := by rw [awp_eq]; kernel_rfl
theorem w25_3 : awp X n c25_3 Q st = awp X n c25_4 (thenQ (awp X n c25_5 Q) Q) st := by rw [awp_eq]; kernel_rfl
noncomputable def c25_10 : Code := cr c25_2
noncomputable def c25_11 : Code := cl c25_10
theorem w25_11 : awp X n c25_11 Q ((a0::a1::a2::a3::a4::a5::a6::a7::[]), h) = (a_mov a0 h (.c (fun t6 h1 => ACall X 15 [t6] h1 (.c (fun t7 h2 => a_mov t7 h2 (.c (fun t2 h3 => Q .normal ((a0::a1::t2::a3::a4::a5::t6::t7::[]), h3)) ())) ())) ())) := by rw [awp_eq]; kernel_rfl
noncomputable def c25_12 : Code := cr c25_10
theorem w25_12 : awp X n c25_12 Q st = Q .ret st := by rw [awp_eq]; kernel_rfl
theorem w25_10 : awp X n c25_10 Q st = awp X n c25_11 (thenQ (awp X n c25_12 Q) Q) st := by rw [awp_eq]; kernel_rfl
theorem w25_2 : awp X n c25_2 Q st = awp X n c25_3 (thenQ (awp X n c25_10 Q) Q) st := by rw [awp_eq]; kernel_rfl
theorem w25_0 : awp X n c25_0 Q st = awp X n c25_1 (thenQ (awp X n c25_2 Q) Q) st := by rw [awp_eq]; kernel_rfl
theorem q25_ret : retQ X Try.f25 K .ret ((a0::a1::a2::a3::a4::a5::a6::a7::[]), h) = (K.K a2 h) := by kernel_rfl
theorem q25_normal : retQ X Try.f25 K .normal ((a0::a1::a2::a3::a4::a5::a6::a7::[]), h) = (K.K a2 h) := by kernel_rfl
theorem i25 (H : awp X h.length c25_0 (retQ X Try.f25 K) ((a0::.bad::.bad::.bad::.bad::.bad::.bad::.bad::[]), h)) : ACall X 25 [a0] h K := acall_intro (fn := Try.f25) (by kernel_rfl) (by kernel_rfl) (by kernel_rfl) H
noncomputable def R25 := And.intro (And.intro (And.intro (w25_1) (And.intro w25_4 w25_7)) (And.intro (And.intro w25_8 w25_6) (And.intro w25_9 w25_5))) (And.intro (And.intro (And.intro w25_3 w25_11) (And.intro w25_12 w25_10)) (And.intro (And.intro w25_2 w25_0) (And.intro q25_ret q25_normal)))
/-! function 30: (*sindri/cursor.Cursor).Fail -/
noncomputable def c30_0 : Code := bodyOf Try.f30
noncomputable def c30_1 : Code := cl c30_0
theorem w30_1 : awp X n c30_1 Q ((a0::a1::a2::a3::a4::a5::a6::a7::a8::a9::b0::[]), h) = (a_mov a0 h (.c (fun t4 h1 => ACall X 15 [t4] h1 (.c (fun t5 h2 => a_bin .eql t5 (.v (.int .i64 0)) h2 (.c (fun t6 h3 => Q .normal ((a0::a1::a2::a3::t4::t5::t6::a7::a8::a9::b0::[]), h3)) ())) ())) ())) := by rw [awp_eq]; kernel_rfl
noncomputable def c30_2 : Code := cr c30_0
noncomputable def c30_3 : Code := cl c30_2
theorem w30_3 : awp X n c30_3 Q ((a0::a1::a2::a3::a4::a5::a6::a7::a8::a9::b0::[]), h) = (a_mov a0 h (.c (fun t7 h1 => a_mov a1 h1 (.c (fun t8 h2 => a_nilc t7 h2 (.c (fun t9 h3 => a_fa 3 t9 h3 (.c (fun t10 h4 => a_store 1 t10 t8 h4 (.c (fun _v4 h5 => Q .normal ((a0::a1::a2::a3::a4::a5::a6::t7::t8::t9::t10::[]), h5)) ())) ())) ())) ())) ())) := by rw [awp_eq]; kernel_rfl
noncomputable def c30_4 : Code := cr c30_2
theorem w30_4 : awp X n c30_4 Q st = Q .normal st := by rw [awp_eq]; kernel_rfl
theorem w30_2 : awp X n c30_2 Q ((a0::a1::a2::a3::a4::a5::a6::a7::a8::a9::b0::[]), h) = a_cond a6 (awp X n c30_3 Q ((a0::a1::a2::a3::a4::a5::a6::a7::a8::a9::b0::[]), h)) (awp X n c30_4 Q ((a0::a1::a2::a3::a4::a5::a6::a7::a8::a9::b0::[]), h)) := by rw [awp_eq]; kernel_rfl
theorem w30_0 : awp X n c30_0 Q st = awp X n c30_1 (thenQ (awp X n c30_2 Q) Q) st := by rw [awp_eq]; kernel_rfl
theorem q30_ret : retQ X Try.f30 K .ret ((a0::a1::a2::a3::a4::a5::a6::a7::a8::a9::b0::[]), h) = (K.K (.t []) h) := by kernel_rfl
theorem q30_normal : retQ X Try.f30 K .normal ((a0::a1::a2::a3::a4::a5::a6::a7::a8::a9::b0::[]), h) = (K.K (.t []) h) := by kernel_rfl
theorem i30 (H : awp X h.length c30_0 (retQ X Try.f30 K) ((a0::a1::.bad::.bad::.bad::.bad::.bad::.bad::.bad::.bad::.bad::[]), h)) : ACall X 30 [a0, a1] h K := acall_intro (fn := Try.f30) (by kernel_rfl) (by kernel_rfl) (by kernel_rfl) H
noncomputable def R30 := And.intro (And.intro (w30_1) (And.intro w30_3 w30_4)) (And.intro (And.intro w30_2 w30_0) (And.intro q30_ret q30_normal))
/-! function 33: (*sindri/sindriref01.C).Fail -/
noncomputable def c33_0 : Code := bodyOf Try.f33
noncomputable def c33_1 : Code := cl c33_0
theorem w33_1 : awp X n c33_1 Q ((a0::a1::a2::a3::a4::a5::a6::a7::a8::a9::b0::b1::b2::[]), h) = (a_mov a0 h (.c (fun t4 h1 => a_nilc t4 h1 (.c (fun t5 h2 => a_fa 2 t5 h2 (.c (fun t6 h3 => a_load 1 false t6 h3 (.c (fun t7 h4 => a_bin .eql t7 (.v (.int .i64 0)) h4 (.c (fun t8 h5 => Q .normal ((a0::a1::a2::a3::t4::t5::t6::t7::t8::a9::b0::b1::b2::[]), h5)) ())) ())) ())) ())) ())) := by rw [awp_eq]; kernel_rfl
noncomputable def c33_2 : Code := cr c33_0
noncomputable def c33_3 : Code := cl c33_2
theorem w33_3 : awp X n c33_3 Q ((a0::a1::a2::a3::a4::a5::a6::a7::a8::a9::b0::b1::b2::[]), h) = (a_mov a0 h (.c (fun t9 h1 => a_mov a1 h1 (.c (fun t10 h2 => a_nilc t9 h2 (.c (fun t11 h3 => a_fa 2 t11 h3 (.c (fun t12 h4 => a_store 1 t12 t10 h4 (.c (fun _v4 h5 => Q .normal ((a0::a1::a2::a3::a4::a5::a6::a7::a8::t9::t10::t11::t12::[]), h5)) ())) ())) ())) ())) ())) := by rw [awp_eq]; kernel_rfl
noncomputable def c33_4 : Code := cr c33_2
theorem w33_4 : awp X n c33_4 Q st = Q .normal st := by rw [awp_eq]; kernel_rfl
theorem w33_2 : awp X n c33_2 Q ((a0::a1::a2::a3::a4::a5::a6::a7::a8::a9::b0::b1::b2::[]), h) = a_cond a8 (awp X n c33_3 Q ((a0::a1::a2::a3::a4::a5::a6::a7::a8::a9::b0::b1::b2::[]), h)) (awp X n c33_4 Q ((a0::a1::a2::a3::a4::a5::a6::a7::a8::a9::b0::b1::b2::[]), h)) := by rw [awp_eq]; kernel_rfl
theorem w33_0 : awp X n c33_0 Q st = awp X n c33_1 (thenQ (awp X n c33_2 Q) Q) st := by rw [awp_eq]; kernel_rfl
theorem q33_ret : retQ X Try.f33 K .ret ((a0::a1::a2::a3::a4::a5::a6::a7::a8::a9::b0::b1::b2::[]), h) = (K.K (.t []) h) := by kernel_rfl
theorem q33_normal : retQ X Try.f33 K .normal ((a0::a1::a2::a3::a4::a5::a6::a7::a8::a9::b0::b1::b2::[]), h) = (K.K (.t []) h) := by kernel_rfl
theorem i33 (H : awp X h.length c33_0 (retQ X Try.f33 K) ((a0::a1::.bad::.bad::.bad::.bad::.bad::.bad::.bad::.bad::.bad::.bad::.bad::[]), h)) : ACall X 33 [a0, a1] h K := acall_intro (fn := Try.f33) (by kernel_rfl) (by kernel_rfl) (by kernel_rfl) H
noncomputable def R33 := And.intro (And.intro (w33_1) (And.intro w33_3 w33_4)) (And.intro (And.intro w33_2 w33_0) (And.intro q33_ret q33_normal))
/-! function 36: (*sindri/cursor.Cursor).U8 -/
noncomputable def c36_0 : Code := bodyOf Try.f36
noncomputable def c36_1 : Code := cl c36_0
theorem w36_1 : awp X n c36_1 Q ([a0,a1,a2,a3,a4], h) = (a_mov (.v (.int .u64 0)) h (.c (fun t2 h1 => Q .normal ([a0,a1,t2,a3,a4], h1)) ())) := by rw [awp_eq]; kernel_rfl
noncomputable def c36_2 : Code := cr c36_0
noncomputable def c36_3 : Code := cl c36_2
theorem w36_3 : awp X n c36_3 Q ([a0,a1,a2,a3,a4], h) = (a_mov a0 h (.c (fun t3 h1 => ACall X 38 [t3, (.v (.int .i64 1))] h1 (.c (fun t4 h2 => a_mov t4 h2 (.c (fun t2 h3 => Q .normal ([a0,a1,t2,t3,t4], h3)) ())) ())) ())) := by rw [awp_eq]; kernel_rfl
noncomputable def c36_4 : Code := cr c36_2
theorem w36_4 : awp X n c36_4 Q st = Q .ret st := by rw [awp_eq]; kernel_rfl
theorem w36_2 : awp X n c36_2 Q st = awp X n c36_3 (thenQ (awp X n c36_4 Q) Q) st := by rw [awp_eq]; kernel_rfl
theorem w36_0 : awp X n c36_0 Q st = awp X n c36_1 (thenQ (awp X n c36_2 Q) Q) st := by rw [awp_eq]; kernel_rfl
theorem q36_ret : retQ X Try.f36 K .ret ([a0,a1,a2,a3,a4], h) = (K.K a2 h) := by kernel_rfl
theorem q36_normal : retQ X Try.f36 K .normal ([a0,a1,a2,a3,a4], h) = (K.K a2 h) := by kernel_rfl
theorem i36 (H : awp X h.length c36_0 (retQ X Try.f36 K) ([a0,.bad,.bad,.bad,.bad], h)) : ACall X 36 [a0] h K := acall_intro (fn := Try.f36) (by kernel_rfl) (by kernel_rfl) (by kernel_rfl) H
noncomputable def R36 := And.intro (And.intro (w36_1) (And.intro w36_3 w36_4)) (And.intro (And.intro w36_2 w36_0) (And.intro q36_ret q36_normal))
/-! function 37: (*sindri/sindriref01.C).Uint -/
noncomputable def c37_0 : Code := bodyOf Try.f37
noncomputable def c37_1 : Code := cl c37_0
theorem w37_1 : awp X n c37_1 Q ((a0::a1::a2::a3::a4::a5::a6::a7::a8::a9::b0::b1::b2::b3::b4::b5::b6::b7::b8::b9::d0::d1::d2::d3::d4::d5::d6::d7::d8::d9::e0::e1::e2::e3::e4::e5::e6::e7::e8::e9::f0::f1::f2::f3::f4::f5::f6::f7::f8::f9::g0::g1::g2::g3::g4::g5::g6::g7::g8::g9::[]), h) = (a_mov (.v (.int .u64 0)) h (.c (fun t4 h1 => Q .normal ((a0::a1::a2::a3::t4::a5::a6::a7::a8::a9::b0::b1::b2::b3::b4::b5::b6::b7::b8::b9::d0::d1::d2::d3::d4::d5::d6::d7::d8::d9::e0::e1::e2::e3::e4::e5::e6::e7::e8::e9::f0::f1::f2::f3::f4::f5::f6::f7::f8::f9::g0::g1::g2::g3::g4::g5::g6::g7::g8::g9::[]), h1)) ())) := by rw [awp_eq]; kernel_rfl
noncomputable def c37_2 : Code := cr c37_0
noncomputable def c37_3 : Code := cl c37_2
theorem w37_3 : awp X n c37_3 Q ((a0::a1::a2::a3::a4::a5::a6::a7::a8::a9::b0::b1::b2::b3::b4::b5::b6::b7::b8::b9::d0::d1::d2::d3::d4::d5::d6::d7::d8::d9::e0::e1::e2::e3::e4::e5::e6::e7::e8::e9::f0::f1::f2::f3::f4::f5::f6::f7::f8::f9::g0::g1::g2::g3::g4::g5::g6::g7::g8::g9::[]), h) = (a_mov a1 h (.c (fun t7 h1 => ACall X 39 [t7] h1 (.c (fun t8 h2 => a_mov t8 h2 (.c (fun t1 h3 => Q .normal ((a0::t1::a2::a3::a4::a5::a6::t7::t8::a9::b0::b1::b2::b3::b4::b5::b6::b7::b8::b9::d0::d1::d2::d3::d4::d5::d6::d7::d8::d9::e0::e1::e2::e3::e4::e5::e6::e7::e8::e9::f0::f1::f2::f3::f4::f5::f6::f7::f8::f9::g0::g1::g2::g3::g4::g5::g6::g7::g8::g9::[]), h3)) ())) ())) ())) := by rw [awp_eq]; kernel_rfl
noncomputable def c37_4 : Code := cr c37_2
noncomputable def c37_5 : Code := cl c37_4
noncomputable def c37_6 : Code := cl c37_5
theorem w37_6 : awp X n c37_6 Q ((a0::a1::a2::a3::a4::a5::a6::a7::a8::a9::b0::b1::b2::b3::b4::b5::b6::b7::b8::b9::d0::d1::d2::d3::d4::d5::d6::d7::d8::d9::e0::e1::e2::e3::e4::e5::e6::e7::e8::e9::f0::f1::f2::f3::f4::f5::f6::f7::f8::f9::g0::g1::g2::g3::g4::g5::g6::g7::g8::g9::[]), h) = (a_mov a0 h (.c (fun t9 h1 => a_nilc t9 h1 (.c (fun t10 h2 => a_fa 2 t10 h2 (.c (fun t11 h3 => a_load 1 false t11 h3 (.c (fun t12 h4 => a_bin .eql t12 (.v (.int .i64 0)) h4 (.c (fun t13 h5 => a_mov t13 h5 (.c (fun t14 h6 => a_on t14 true (fun k => a_mov a1 h6 k) h6 (.c (fun t15 h7 => a_on t14 true (fun k => a_mov a0 h7 k) h7 (.c (fun t16 h8 => a_on t14 true (fun k => ACall X 40 [t16] h8 k) h8 (.c (fun t17 h9 => a_on t14 true (fun k => a_bin .gtr t15 t17 h9 k) h9 (.c (fun t18 h10 => a_pick t14 t18 (.v (.bool false)) h10 (.c (fun t19 h11 => Q .normal ((a0::a1::a2::a3::a4::a5::a6::a7::a8::t9::t10::t11::t12::t13::t14::t15::t16::t17::t18::t19::d0::d1::d2::d3::d4::d5::d6::d7::d8::d9::e0::e1::e2::e3::e4::e5::e6::e7::e8::e9::f0::f1::f2::f3::f4::f5::f6::f7::f8::f9::g0::g1::g2::g3::g4::g5::g6::g7::g8::g9::[]), h11)) ())) ())) ())) ())) ())) ())) ())) ())) ())) ())) ())) := by rw [awp_eq]; kernel_rfl
noncomputable def c37_7 : Code := cr c37_5
noncomputable def c37_8 : Code := cl c37_7
theorem w37_8 : awp X n c37_8 Q ((a0::a1::a2::a3::a4::a5::a6::a7::a8::a9::b0::b1::b2::b3::b4::b5::b6::b7::b8::b9::d0::d1::d2::d3::d4::d5::d6::d7::d8::d9::e0::e1::e2::e3::e4::e5::e6::e7::e8::e9::f0::f1::f2::f3::f4::f5::f6::f7::f8::f9::g0::g1::g2::g3::g4::g5::g6::g7::g8::g9::[]), h) = (a_mov a0 h (.c (fun t20 h1 => a_nilc t20 h1 (.c (fun t21 h2 => a_fa 2 t21 h2 (.c (fun t22 h3 => a_store 1 t22 (.v (.int .i64 10)) h3 (.c (fun _v3 h4 => Q .normal ((a0::a1::a2::a3::a4::a5::a6::a7::a8::a9::b0::b1::b2::b3::b4::b5::b6::b7::b8::b9::t20::t21::t22::d3::d4::d5::d6::d7::d8::d9::e0::e1::e2::e3::e4::e5::e6::e7::e8::e9::f0::f1::f2::f3::f4::f5::f6::f7::f8::f9::g0::g1::g2::g3::g4::g5::g6::g7::g8::g9::[]), h4)) ())) ())) ())) ())) := by rw [awp_eq]; kernel_rfl
noncomputable def c37_9 : Code := cr c37_7
theorem w37_9 : awp X n c37_9 Q st = Q .normal st := by rw [awp_eq]; kernel_rfl
theorem w37_7 : awp X n c37_7 Q ((a0::a1::a2::a3::a4::a5::a6::a7::a8::a9::b0::b1::b2::b3::b4::b5::b6::b7::b8::b9::d0::d1::d2::d3::d4::d5::d6::d7::d8::d9::e0::e1::e2::e3::e4::e5::e6::e7::e8::e9::f0::f1::f2::f3::f4::f5::f6::f7::f8::f9::g0::g1::g2::g3::g4::g5::g6::g7::g8::g9::[]), h) = a_cond b9 (awp X n c37_8 Q ((a0::a1::a2::a3::a4::a5::a6::a7::a8::a9::b0::b1::b2::b3::b4::b5::b6::b7::b8::b9::d0::d1::d2::d3::d4::d5::d6::d7::d8::d9::e0::e1::e2::e3::e4::e5::e6::e7::e8::e9::f0::f1::f2::f3::f4::f5::f6::f7::f8::f9::g0::g1::g2::g3::g4::g5::g6::g7::g8::g9::[]), h)) (awp X n c37_9 Q ((a0::a1::a2::a3::a4::a5::a6::a7::a8::a9::b0::b1::b2::b3::b4::b5::b6::b7::b8::b9::d0::d1::d2::d3::d4::d5::d6::d7::d8::d9::e0::e1::e2::e3::e4::e5::e6::e7::e8::e9::f0::f1::f2::f3::f4::f5::f6::f7::f8::f9::g0::g1::g2::g3::g4::g5::g6::g7::g8::g9::[]), h)) := by rw [awp_eq]; kernel_rfl
theorem w37_5 : awp X n c37_5 Q st = awp X n c37_6 (thenQ (awp X n c37_7 Q) Q) st := by rw [awp_eq]; kernel_rfl
noncomputable def c37_10 : Code := cr c37_4
noncomputable def c37_11 : Code := cl c37_10
noncomputable def c37_12 : Code := cl c37_11
theorem w37_12 : awp X n c37_12 Q ((a0::a1::a2::a3::a4::a5::a6::a7::a8::a9::b0::b1::b2::b3::b4::b5::b6::b7::b8::b9::d0::d1::d2::d3::d4::d5::d6::d7::d8::d9::e0::e1::e2::e3::e4::e5::e6::e7::e8::e9::f0::f1::f2::f3::f4::f5::f6::f7::f8::f9::g0::g1::g2::g3::g4::g5::g6::g7::g8::g9::[]), h) = (a_mov a0 h (.c (fun t23 h1 => a_nilc t23 h1 (.c (fun t24 h2 => a_fa 2 t24 h2 (.c (fun t25 h3 => a_load 1 false t25 h3 (.c (fun t26 h4 => a_bin .neq t26 (.v (.int .i64 0)) h4 (.c (fun t27 h5 => Q .normal ((a0::a1::a2::a3::a4::a5::a6::a7::a8::a9::b0::b1::b2::b3::b4::b5::b6::b7::b8::b9::d0::d1::d2::t23::t24::t25::t26::t27::d8::d9::e0::e1::e2::e3::e4::e5::e6::e7::e8::e9::f0::f1::f2::f3::f4::f5::f6::f7::f8::f9::g0::g1::g2::g3::g4::g5::g6::g7::g8::g9::[]), h5)) ())) ())) ())) ())) ())) := by rw [awp_eq]; kernel_rfl
noncomputable def c37_13 : Code := cr c37_11
noncomputable def c37_14 : Code := cl c37_13
noncomputable def c37_15 : Code := cl c37_14
theorem w37_15 : awp X n c37_15 Q ((a0::a1::a2::a3::a4::a5::a6::a7::a8::a9::b0::b1::b2::b3::b4::b5::b6::b7::b8::b9::d0::d1::d2::d3::d4::d5::d6::d7::d8::d9::e0::e1::e2::e3::e4::e5::e6::e7::e8::e9::f0::f1::f2::f3::f4::f5::f6::f7::f8::f9::g0::g1::g2::g3::g4::g5::g6::g7::g8::g9::[]), h) = (a_mov (.v (.int .u64 0)) h (.c (fun t4 h1 => Q .normal ((a0::a1::a2::a3::t4::a5::a6::a7::a8::a9::b0::b1::b2::b3::b4::b5::b6::b7::b8::b9::d0::d1::d2::d3::d4::d5::d6::d7::d8::d9::e0::e1::e2::e3::e4::e5::e6::e7::e8::e9::f0::f1::f2::f3::f4::f5::f6::f7::f8::f9::g0::g1::g2::g3::g4::g5::g6::g7::g8::g9::[]), h1)) ())) := by rw [awp_eq]; kernel_rfl
noncomputable def c37_16 : Code := cr c37_14
theorem w37_16 : awp X n c37_16 Q st = Q .ret st := by rw [awp_eq]; kernel_rfl
theorem w37_14 : awp X n c37_14 Q st = awp X n c37_15 (thenQ (awp X n c37_16 Q) Q) st := by rw [awp_eq]; kernel_rfl
noncomputable def c37_17 : Code := cr c37_13
theorem w37_17 : awp X n c37_17 Q st = Q .normal st := by rw [awp_eq]; kernel_rfl
theorem w37_13 : awp X n c37_13 Q ((a0::a1::a2::a3::a4::a5::a6::a7::a8::a9::b0::b1::b2::b3::b4::b5::b6::b7::b8::b9::d0::d1::d2::d3::d4::d5::d6::d7::d8::d9::e0::e1::e2::e3::e4::e5::e6::e7::e8::e9::f0::f1::f2::f3::f4::f5::f6::f7::f8::f9::g0::g1::g2::g3::g4::g5::g6::g7::g8::g9::[]), h) = a_cond d7 (awp X n c37_14 Q ((a0::a1::a2::a3::a4::a5::a6::a7::a8::a9::b0::b1::b2::b3::b4::b5::b6::b7::b8::b9::d0::d1::d2::d3::d4::d5::d6::d7::d8::d9::e0::e1::e2::e3::e4::e5::e6::e7::e8::e9::f0::f1::f2::f3::f4::f5::f6::f7::f8::f9::g0::g1::g2::g3::g4::g5::g6::g7::g8::g9::[]), h)) (awp X n c37_17 Q ((a0::a1::a2::a3::a4::a5::a6::a7::a8::a9::b0::b1::b2::b3::b4::b5::b6::b7::b8::b9::d0::d1::d2::d3::d4::d5::d6::d7::d8::d9::e0::e1::e2::e3::e4::e5::e6::e7::e8::e9::f0::f1::f2::f3::f4::f5::f6::f7::f8::f9::g0::g1::g2::g3::g4::g5::g6::g7::g8::g9::[]), h)) := by rw [awp_eq]; kernel_rfl
theorem w37_11 : awp X n c37_11 Q st = awp X n c37_12 (thenQ (awp X n c37_13 Q) Q) st := by rw [awp_eq]; kernel_rfl
noncomputable def c37_18 : Code := cr c37_10
noncomputable def c37_19 : Code := cl c37_18
theorem w37_19 : awp X n c37_19 Q ((a0::a1::a2::a3::a4::a5::a6::a7::a8::a9::b0::b1::b2::b3::b4::b5::b6::b7::b8::b9::d0::d1::d2::d3::d4::d5::d6::d7::d8::d9::e0::e1::e2::e3::e4::e5::e6::e7::e8::e9::f0::f1::f2::f3::f4::f5::f6::f7::f8::f9::g0::g1::g2::g3::g4::g5::g6::g7::g8::g9::[]), h) = (a_mov (.v (.int .u64 0)) h (.c (fun t5 h1 => Q .normal ((a0::a1::a2::a3::a4::t5::a6::a7::a8::a9::b0::b1::b2::b3::b4::b5::b6::b7::b8::b9::d0::d1::d2::d3::d4::d5::d6::d7::d8::d9::e0::e1::e2::e3::e4::e5::e6::e7::e8::e9::f0::f1::f2::f3::f4::f5::f6::f7::f8::f9::g0::g1::g2::g3::g4::g5::g6::g7::g8::g9::[]), h1)) ())) := by rw [awp_eq]; kernel_rfl
noncomputable def c37_20 : Code := cr c37_18
noncomputable def c37_21 : Code := cl c37_20
noncomputable def c37_22 : Code := cl c37_21
theorem w37_22 : awp X n c37_22 Q ((a0::a1::a2::a3::a4::a5::a6::a7::a8::a9::b0::b1::b2::b3::b4::b5::b6::b7::b8::b9::d0::d1::d2::d3::d4::d5::d6::d7::d8::d9::e0::e1::e2::e3::e4::e5::e6::e7::e8::e9::f0::f1::f2::f3::f4::f5::f6::f7::f8::f9::g0::g1::g2::g3::g4::g5::g6::g7::g8::g9::[]), h) = (a_mov a1 h (.c (fun t28 h1 => a_bin .sub t28 (.v (.int .i64 1)) h1 (.c (fun t29 h2 => a_mov t29 h2 (.c (fun t6 h3 => Q .normal ((a0::a1::a2::a3::a4::a5::t6::a7::a8::a9::b0::b1::b2::b3::b4::b5::b6::b7::b8::b9::d0::d1::d2::d3::d4::d5::d6::d7::t28::t29::e0::e1::e2::e3::e4::e5::e6::e7::e8::e9::f0::f1::f2::f3::f4::f5::f6::f7::f8::f9::g0::g1::g2::g3::g4::g5::g6::g7::g8::g9::[]), h3)) ())) ())) ())) := by rw [awp_eq]; kernel_rfl
noncomputable def c37_23 : Code := cr c37_21
noncomputable def c37_24 : Code := cl c37_23
noncomputable def c37_25 : Code := cl c37_24
noncomputable def c37_26 : Code := cl c37_25
noncomputable def c37_27 : Code := cl c37_26
theorem w37_27 : awp X n c37_27 Q ((a0::a1::a2::a3::a4::a5::a6::a7::a8::a9::b0::b1::b2::b3::b4::b5::b6::b7::b8::b9::d0::d1::d2::d3::d4::d5::d6::d7::d8::d9::e0::e1::e2::e3::e4::e5::e6::e7::e8::e9::f0::f1::f2::f3::f4::f5::f6::f7::f8::f9::g0::g1::g2::g3::g4::g5::g6::g7::g8::g9::[]), h) = (a_mov a6 h (.c (fun t30 h1 => a_bin .geq t30 (.v (.int .i64 0)) h1 (.c (fun t31 h2 => Q .normal ((a0::a1::a2::a3::a4::a5::a6::a7::a8::a9::b0::b1::b2::b3::b4::b5::b6::b7::b8::b9::d0::d1::d2::d3::d4::d5::d6::d7::d8::d9::t30::t31::e2::e3::e4::e5::e6::e7::e8::e9::f0::f1::f2::f3::f4::f5::f6::f7::f8::f9::g0::g1::g2::g3::g4::g5::g6::g7::g8::g9::[]), h2)) ())) ())) := by rw [awp_eq]; kernel_rfl
noncomputable def c37_28 : Code := cr c37_26
noncomputable def c37_29 : Code := cl c37_28
theorem w37_29 : awp X n c37_29 Q st = Q .normal st := by rw [awp_eq]; kernel_rfl
noncomputable def c37_30 : Code := cr c37_28
theorem w37_30 : awp X n c37_30 Q st = Q (.exit 0) st := by rw [awp_eq]; kernel_rfl
theorem w37_28 : awp X n c37_28 Q ((a0::a1::a2::a3::a4::a5::a6::a7::a8::a9::b0::b1::b2::b3::b4::b5::b6::b7::b8::b9::d0::d1::d2::d3::d4::d5::d6::d7::d8::d9::e0::e1::e2::e3::e4::e5::e6::e7::e8::e9::f0::f1::f2::f3::f4::f5::f6::f7::f8::f9::g0::g1::g2::g3::g4::g5::g6::g7::g8::g9::[]), h) = a_cond e1 (awp X n c37_29 Q ((a0::a1::a2::a3::a4::a5::a6::a7::a8::a9::b0::b1::b2::b3::b4::b5::b6::b7::b8::b9::d0::d1::d2::d3::d4::d5::d6::d7::d8::d9::e0::e1::e2::e3::e4::e5::e6::e7::e8::e9::f0::f1::f2::f3::f4::f5::f6::f7::f8::f9::g0::g1::g2::g3::g4::g5::g6::g7::g8::g9::[]), h)) (awp X n c37_30 Q ((a0::a1::a2::a3::a4::a5::a6::a7::a8::a9::b0::b1::b2::b3::b4::b5::b6::b7::b8::b9::d0::d1::d2::d3::d4::d5::d6::d7::d8::d9::e0::e1::e2::e3::e4::e5::e6::e7::e8::e9::f0::f1::f2::f3::f4::f5::f6::f7::f8::f9::g0::g1::g2::g3::g4::g5::g6::g7::g8::g9::[]), h)) := by rw [awp_eq]; kernel_rfl
theorem w37_26 : awp X n c37_26 Q st = awp X n c37_27 (thenQ (awp X n c37_28 Q) Q) st := by rw [awp_eq]; kernel_rfl
noncomputable def c37_31 : Code := cr c37_25
noncomputable def c37_32 : Code := cl c37_31
noncomputable def c37_33 : Code := cl c37_32
theorem w37_33 : awp X n c37_33 Q ((a0::a1::a2::a3::a4::a5::a6::a7::a8::a9::b0::b1::b2::b3::b4::b5::b6::b7::b8::b9::d0::d1::d2::d3::d4::d5::d6::d7::d8::d9::e0::e1::e2::e3::e4::e5::e6::e7::e8::e9::f0::f1::f2::f3::f4::f5::f6::f7::f8::f9::g0::g1::g2::g3::g4::g5::g6::g7::g8::g9::[]), h) = (a_mov a5 h (.c (fun t34 h1 => a_bin .mul t34 (.v (.int .u64 256)) h1 (.c (fun t35 h2 => a_mov a0 h2 (.c (fun t36 h3 => a_nilc t36 h3 (.c (fun t37 h4 => a_fa 0 t37 h4 (.c (fun t38 h5 => a_load 1 false t38 h5 (.c (fun t39 h6 => a_mov a0 h6 (.c (fun t40 h7 => a_nilc t40 h7 (.c (fun t41 h8 => a_fa 1 t41 h8 (.c (fun t42 h9 => a_load 1 false t42 h9 (.c (fun t43 h10 => a_mov a6 h10 (.c (fun t44 h11 => a_bin .add t43 t44 h11 (.c (fun t45 h12 => a_ia 1 t39 t45 h12 (.c (fun t46 h13 => a_load 1 false t46 h13 (.c (fun t47 h14 => a_cint .u64 t47 h14 (.c (fun t48 h15 => a_bin .add t35 t48 h15 (.c (fun t49 h16 => a_mov t49 h16 (.c (fun t5 h17 => Q .normal ((a0::a1::a2::a3::a4::t5::a6::a7::a8::a9::b0::b1::b2::b3::b4::b5::b6::b7::b8::b9::d0::d1::d2::d3::d4::d5::d6::d7::d8::d9::e0::e1::e2::e3::t34::t35::t36::t37::t38::t39::t40::t41::t42::t43::t44::t45::t46::t47::t48::t49::g0::g1::g2::g3::g4::g5::g6::g7::g8::g9::[]), h17)) ())) ())) ())) ())) ())) ())) ())) ())) ())) ())) ())) ())) ())) ())) ())) ())) ())) := by rw [awp_eq]; kernel_rfl
theorem w37_32 : awp X n c37_32 Q st = awp X n c37_33 (blockQ 1 Q) st := by rw [awp_eq]; kernel_rfl
noncomputable def c37_34 : Code := cr c37_31
theorem w37_34 : awp X n c37_34 Q ((a0::a1::a2::a3::a4::a5::a6::a7::a8::a9::b0::b1::b2::b3::b4::b5::b6::b7::b8::b9::d0::d1::d2::d3::d4::d5::d6::d7::d8::d9::e0::e1::e2::e3::e4::e5::e6::e7::e8::e9::f0::f1::f2::f3::f4::f5::f6::f7::f8::f9::g0::g1::g2::g3::g4::g5::g6::g7::g8::g9::[]), h) = (a_mov a6 h (.c (fun t32 h1 => a_bin .sub t32 (.v (.int .i64 1)) h1 (.c (fun t33 h2 => a_mov t33 h2 (.c (fun t6 h3 => Q .normal ((a0::a1::a2::a3::a4::a5::t6::a7::a8::a9::b0::b1::b2::b3::b4::b5::b6::b7::b8::b9::d0::d1::d2::d3::d4::d5::d6::d7::d8::d9::e0::e1::t32::t33::e4::e5::e6::e7::e8::e9::f0::f1::f2::f3::f4::f5::f6::f7::f8::f9::g0::g1::g2::g3::g4::g5::g6::g7::g8::g9::[]), h3)) ())) ())) ())) := by rw [awp_eq]; kernel_rfl
theorem w37_31 : awp X n c37_31 Q st = awp X n c37_32 (thenQ (awp X n c37_34 Q) Q) st := by rw [awp_eq]; kernel_rfl
theorem w37_25 : awp X n c37_25 Q st = awp X n c37_26 (thenQ (awp X n c37_31 Q) Q) st := by rw [awp_eq]; kernel_rfl
theorem w37_24 : awp X n c37_24 Q st = ALoop X n c37_25 Q st := by rw [awp_eq]; kernel_rfl
theorem w37_23 : awp X n c37_23 Q st = awp X n c37_24 (blockQ 0 Q) st := by rw [awp_eq]; kernel_rfl
theorem w37_21 : awp X n c37_21 Q st = awp X n c37_22 (thenQ (awp X n c37_23 Q) Q) st := by rw [awp_eq]; kernel_rfl
noncomputable def c37_35 : Code := cr c37_20
noncomputable def c37_36 : Code := cl c37_35
theorem w37_36 : awp X n c37_36 Q ((a0::a1::a2::a3::a4::a5::a6::a7::a8::a9::b0::b1::b2::b3::b4::b5::b6::b7::b8::b9::d0::d1::d2::d3::d4::d5::d6::d7::d8::d9::e0::e1::e2::e3::e4::e5::e6::e7::e8::e9::f0::f1::f2::f3::f4::f5::f6::f7::f8::f9::g0::g1::g2::g3::g4::g5::g6::g7::g8::g9::[]), h) = (a_mov a0 h (.c (fun t50 h1 => a_mov a0 h1 (.c (fun t51 h2 => a_nilc t51 h2 (.c (fun t52 h3 => a_fa 1 t52 h3 (.c (fun t53 h4 => a_load 1 false t53 h4 (.c (fun t54 h5 => a_mov a1 h5 (.c (fun t55 h6 => a_bin .add t54 t55 h6 (.c (fun t56 h7 => a_nilc t50 h7 (.c (fun t57 h8 => a_fa 1 t57 h8 (.c (fun t58 h9 => a_store 1 t58 t56 h9 (.c (fun _v9 h10 => Q .normal ((a0::a1::a2::a3::a4::a5::a6::a7::a8::a9::b0::b1::b2::b3::b4::b5::b6::b7::b8::b9::d0::d1::d2::d3::d4::d5::d6::d7::d8::d9::e0::e1::e2::e3::e4::e5::e6::e7::e8::e9::f0::f1::f2::f3::f4::f5::f6::f7::f8::f9::t50::t51::t52::t53::t54::t55::t56::t57::t58::g9::[]), h10)) ())) ())) ())) ())) ())) ())) ())) ())) ())) ())) := by rw [awp_eq]; kernel_rfl
noncomputable def c37_37 : Code := cr c37_35
noncomputable def c37_38 : Code := cl c37_37
theorem w37_38 : awp X n c37_38 Q ((a0::a1::a2::a3::a4::a5::a6::a7::a8::a9::b0::b1::b2::b3::b4::b5::b6::b7::b8::b9::d0::d1::d2::d3::d4::d5::d6::d7::d8::d9::e0::e1::e2::e3::e4::e5::e6::e7::e8::e9::f0::f1::f2::f3::f4::f5::f6::f7::f8::f9::g0::g1::g2::g3::g4::g5::g6::g7::g8::g9::[]), h) = (a_mov a5 h (.c (fun t59 h1 => a_mov t59 h1 (.c (fun t4 h2 => Q .normal ((a0::a1::a2::a3::t4::a5::a6::a7::a8::a9::b0::b1::b2::b3::b4::b5::b6::b7::b8::b9::d0::d1::d2::d3::d4::d5::d6::d7::d8::d9::e0::e1::e2::e3::e4::e5::e6::e7::e8::e9::f0::f1::f2::f3::f4::f5::f6::f7::f8::f9::g0::g1::g2::g3::g4::g5::g6::g7::g8::t59::[]), h2)) ())) ())) := by rw [awp_eq]; kernel_rfl
noncomputable def c37_39 : Code := cr c37_37
theorem w37_39 : awp X n c37_39 Q st = Q .ret st := by rw [awp_eq]; kernel_rfl
theorem w37_37 : awp X n c37_37 Q st = awp X n c37_38 (thenQ (awp X n c37_39 Q) Q) st := by rw [awp_eq]; kernel_rfl
theorem w37_35 : awp X n c37_35 Q st = awp X n c37_36 (thenQ (awp X n c37_37 Q) Q) st := by rw [awp_eq]; kernel_rfl
theorem w37_20 : awp X n c37_20 Q st = awp X n c37_21 (thenQ (awp X n c37_35 Q) Q) st := by rw [awp_eq]; kernel_rfl
theorem w37_18 : awp X n c37_18 Q st = awp X n c37_19 (thenQ (awp X n c37_20 Q) Q) st := by rw [awp_eq]; kernel_rfl
theorem w37_10 : awp X n c37_10 Q st = awp X n c37_11 (thenQ (awp X n c37_18 Q) Q) st := by rw [awp_eq]; kernel_rfl
theorem w37_4 : awp X n c37_4 Q st = awp X n c37_5 (thenQ (awp X n c37_10 Q) Q) st := by rw [awp_eq]; kernel_rfl
theorem w37_2 : awp X n c37_2 Q st = awp X n c37_3 (thenQ (awp X n c37_4 Q) Q) st := by rw [awp_eq]; kernel_rfl
theorem w37_0 : awp X n c37_0 Q st = awp X n c37_1 (thenQ (awp X n c37_2 Q) Q) st := by rw [awp_eq]; kernel_rfl
theorem q37_ret : retQ X Try.f37 K .ret ((a0::a1::a2::a3::a4::a5::a6::a7::a8::a9::b0::b1::b2::b3::b4::b5::b6::b7::b8::b9::d0::d1::d2::d3::d4::d5::d6::d7::d8::d9::e0::e1::e2::e3::e4::e5::e6::e7::e8::e9::f0::f1::f2::f3::f4::f5::f6::f7::f8::f9::g0::g1::g2::g3::g4::g5::g6::g7::g8::g9::[]), h) = (K.K a4 h) := by kernel_rfl
theorem q37_normal : retQ X Try.f37 K .normal ((a0::a1::a2::a3::a4::a5::a6::a7::a8::a9::b0::b1::b2::b3::b4::b5::b6::b7::b8::b9::d0::d1::d2::d3::d4::d5::d6::d7::d8::d9::e0::e1::e2::e3::e4::e5::e6::e7::e8::e9::f0::f1::f2::f3::f4::f5::f6::f7::f8::f9::g0::g1::g2::g3::g4::g5::g6::g7::g8::g9::[]), h) = (K.K a4 h) := by kernel_rfl
theorem i37 (H : awp X h.length c37_0 (retQ X Try.f37 K) ((a0::a1::.bad::.bad::.bad::.bad::.bad::.bad::.bad::.bad::.bad::.bad::.bad::.bad::.bad::.bad::.bad::.bad::.bad::.bad::.bad::.bad::.bad::.bad::.bad::.bad::.bad::.bad::.bad::.bad::.bad::.bad::.bad::.bad::.bad::.bad::.bad::.bad::.bad::.bad::.bad::.bad::.bad::.bad::.bad::.bad::.bad::.bad::.bad::.bad::.bad::.bad::.bad::.bad::.bad::.bad::.bad::.bad::.bad::.bad::[]), h)) : ACall X 37 [a0, a1] h K := acall_intro (fn := Try.f37) (by kernel_rfl) (by kernel_rfl) (by kernel_rfl) H
noncomputable def R37 := And.intro (And.intro (And.intro (And.intro (And.intro w37_1 w37_3) (And.intro (w37_6) (And.intro w37_8 w37_9))) (And.intro (And.intro w37_7 w37_5) (And.intro (w37_12) (And.intro w37_15 w37_16)))) (And.intro (And.intro (And.intro w37_14 w37_17) (And.intro (w37_13) (And.intro w37_11 w37_19))) (And.intro (And.intro (w37_22) (And.intro w37_27 w37_29)) (And.intro (w37_30) (And.intro w37_28 w37_26))))) (And.intro (And.intro (And.intro (And.intro w37_33 w37_32) (And.intro (w37_34) (And.intro w37_31 w37_25))) (And.intro (And.intro w37_24 w37_23) (And.intro (w37_21) (And.intro w37_36 w37_38)))) (And.intro (And.intro (And.intro w37_39 w37_37) (And.intro (w37_35) (And.intro w37_20 w37_18))) (And.intro (And.intro (w37_10) (And.intro w37_4 w37_2)) (And.intro (w37_0) (And.intro q37_ret q37_normal)))))
/-! function 38: (*sindri/cursor.Cursor).Uint -/
noncomputable def c38_0 : Code := bodyOf Try.f38
noncomputable def c38_1 : Code := cl c38_0
theorem w38_1 : awp X n c38_1 Q ((a0::a1::a2::a3::a4::a5::a6::a7::a8::a9::b0::b1::b2::b3::b4::b5::b6::b7::b8::b9::d0::d1::d2::d3::d4::d5::d6::d7::d8::[]), h) = (a_mov (.v (.int .u64 0)) h (.c (fun t4 h1 => Q .normal ((a0::a1::a2::a3::t4::a5::a6::a7::a8::a9::b0::b1::b2::b3::b4::b5::b6::b7::b8::b9::d0::d1::d2::d3::d4::d5::d6::d7::d8::[]), h1)) ())) := by rw [awp_eq]; kernel_rfl
noncomputable def c38_2 : Code := cr c38_0
noncomputable def c38_3 : Code := cl c38_2
theorem w38_3 : awp X n c38_3 Q ((a0::a1::a2::a3::a4::a5::a6::a7::a8::a9::b0::b1::b2::b3::b4::b5::b6::b7::b8::b9::d0::d1::d2::d3::d4::d5::d6::d7::d8::[]), h) = (a_mov (.v (.int .u64 0)) h (.c (fun t5 h1 => Q .normal ((a0::a1::a2::a3::a4::t5::a6::a7::a8::a9::b0::b1::b2::b3::b4::b5::b6::b7::b8::b9::d0::d1::d2::d3::d4::d5::d6::d7::d8::[]), h1)) ())) := by rw [awp_eq]; kernel_rfl
noncomputable def c38_4 : Code := cr c38_2
noncomputable def c38_5 : Code := cl c38_4
noncomputable def c38_6 : Code := cl c38_5
theorem w38_6 : awp X n c38_6 Q ((a0::a1::a2::a3::a4::a5::a6::a7::a8::a9::b0::b1::b2::b3::b4::b5::b6::b7::b8::b9::d0::d1::d2::d3::d4::d5::d6::d7::d8::[]), h) = (a_mov a0 h (.c (fun t8 h1 => a_mov a1 h1 (.c (fun t9 h2 => ACall X 42 [t9] h2 (.c (fun t10 h3 => a_cint .u64 t10 h3 (.c (fun t11 h4 => ACall X 41 [t8, t11] h4 (.c (fun t12 h5 => a_len t12 h5 (.c (fun t13 h6 => a_mov (.v (.int .i64 0)) h6 (.c (fun t14 h7 => Q .normal ((a0::a1::a2::a3::a4::a5::a6::a7::t8::t9::t10::t11::t12::t13::t14::b5::b6::b7::b8::b9::d0::d1::d2::d3::d4::d5::d6::d7::d8::[]), h7)) ())) ())) ())) ())) ())) ())) ())) := by rw [awp_eq]; kernel_rfl
noncomputable def c38_7 : Code := cr c38_5
noncomputable def c38_8 : Code := cl c38_7
noncomputable def c38_9 : Code := cl c38_8
noncomputable def c38_10 : Code := cl c38_9
theorem w38_10 : awp X n c38_10 Q ((a0::a1::a2::a3::a4::a5::a6::a7::a8::a9::b0::b1::b2::b3::b4::b5::b6::b7::b8::b9::d0::d1::d2::d3::d4::d5::d6::d7::d8::[]), h) = (a_bin .lss b4 b3 h (.c (fun t15 h1 => Q .normal ((a0::a1::a2::a3::a4::a5::a6::a7::a8::a9::b0::b1::b2::b3::b4::t15::b6::b7::b8::b9::d0::d1::d2::d3::d4::d5::d6::d7::d8::[]), h1)) ())) := by rw [awp_eq]; kernel_rfl
noncomputable def c38_11 : Code := cr c38_9
noncomputable def c38_12 : Code := cl c38_11
noncomputable def c38_13 : Code := cl c38_12
theorem w38_13 : awp X n c38_13 Q st = Q .normal st := by rw [awp_eq]; kernel_rfl
noncomputable def c38_14 : Code := cr c38_12
theorem w38_14 : awp X n c38_14 Q st = Q (.exit 0) st := by rw [awp_eq]; kernel_rfl
theorem w38_12 : awp X n c38_12 Q ((a0::a1::a2::a3::a4::a5::a6::a7::a8::a9::b0::b1::b2::b3::b4::b5::b6::b7::b8::b9::d0::d1::d2::d3::d4::d5::d6::d7::d8::[]), h) = a_cond b5 (awp X n c38_13 Q ((a0::a1::a2::a3::a4::a5::a6::a7::a8::a9::b0::b1::b2::b3::b4::b5::b6::b7::b8::b9::d0::d1::d2::d3::d4::d5::d6::d7::d8::[]), h)) (awp X n c38_14 Q ((a0::a1::a2::a3::a4::a5::a6::a7::a8::a9::b0::b1::b2::b3::b4::b5::b6::b7::b8::b9::d0::d1::d2::d3::d4::d5::d6::d7::d8::[]), h)) := by rw [awp_eq]; kernel_rfl
noncomputable def c38_15 : Code := cr c38_11
noncomputable def c38_16 : Code := cl c38_15
noncomputable def c38_17 : Code := cl c38_16
noncomputable def c38_18 : Code := cl c38_17
theorem w38_18 : awp X n c38_18 Q ((a0::a1::a2::a3::a4::a5::a6::a7::a8::a9::b0::b1::b2::b3::b4::b5::b6::b7::b8::b9::d0::d1::d2::d3::d4::d5::d6::d7::d8::[]), h) = (a_mov b4 h (.c (fun t16 h1 => a_ia 1 b2 b4 h1 (.c (fun t17 h2 => a_load 1 false t17 h2 (.c (fun t18 h3 => a_mov t16 h3 (.c (fun t6 h4 => a_mov t18 h4 (.c (fun t7 h5 => Q .normal ((a0::a1::a2::a3::a4::a5::t6::t7::a8::a9::b0::b1::b2::b3::b4::b5::t16::t17::t18::b9::d0::d1::d2::d3::d4::d5::d6::d7::d8::[]), h5)) ())) ())) ())) ())) ())) := by rw [awp_eq]; kernel_rfl
noncomputable def c38_19 : Code := cr c38_17
theorem w38_19 : awp X n c38_19 Q ((a0::a1::a2::a3::a4::a5::a6::a7::a8::a9::b0::b1::b2::b3::b4::b5::b6::b7::b8::b9::d0::d1::d2::d3::d4::d5::d6::d7::d8::[]), h) = (a_mov a5 h (.c (fun t19 h1 => a_mov a7 h1 (.c (fun t20 h2 => a_cint .u64 t20 h2 (.c (fun t21 h3 => a_mov a6 h3 (.c (fun t22 h4 => a_bin .mul (.v (.int .i64 8)) t22 h4 (.c (fun t23 h5 => a_cint .u64 t23 h5 (.c (fun t24 h6 => a_bin .shl t21 t24 h6 (.c (fun t25 h7 => a_bin .or t19 t25 h7 (.c (fun t26 h8 => a_mov t26 h8 (.c (fun t5 h9 => Q .normal ((a0::a1::a2::a3::a4::t5::a6::a7::a8::a9::b0::b1::b2::b3::b4::b5::b6::b7::b8::t19::t20::t21::t22::t23::t24::t25::t26::d7::d8::[]), h9)) ())) ())) ())) ())) ())) ())) ())) ())) ())) := by rw [awp_eq]; kernel_rfl
theorem w38_17 : awp X n c38_17 Q st = awp X n c38_18 (thenQ (awp X n c38_19 Q) Q) st := by rw [awp_eq]; kernel_rfl
theorem w38_16 : awp X n c38_16 Q st = awp X n c38_17 (blockQ 1 Q) st := by rw [awp_eq]; kernel_rfl
noncomputable def c38_20 : Code := cr c38_15
theorem w38_20 : awp X n c38_20 Q ((a0::a1::a2::a3::a4::a5::a6::a7::a8::a9::b0::b1::b2::b3::b4::b5::b6::b7::b8::b9::d0::d1::d2::d3::d4::d5::d6::d7::d8::[]), h) = (a_bin .add b4 (.v (.int .i64 1)) h (.c (fun t27 h1 => a_mov t27 h1 (.c (fun t14 h2 => Q .normal ((a0::a1::a2::a3::a4::a5::a6::a7::a8::a9::b0::b1::b2::b3::t14::b5::b6::b7::b8::b9::d0::d1::d2::d3::d4::d5::d6::t27::d8::[]), h2)) ())) ())) := by rw [awp_eq]; kernel_rfl
theorem w38_15 : awp X n c38_15 Q st = awp X n c38_16 (thenQ (awp X n c38_20 Q) Q) st := by rw [awp_eq]; kernel_rfl
theorem w38_11 : awp X n c38_11 Q st = awp X n c38_12 (thenQ (awp X n c38_15 Q) Q) st := by rw [awp_eq]; kernel_rfl
theorem w38_9 : awp X n c38_9 Q st = awp X n c38_10 (thenQ (awp X n c38_11 Q) Q) st := by rw [awp_eq]; kernel_rfl
theorem w38_8 : awp X n c38_8 Q st = ALoop X n c38_9 Q st := by rw [awp_eq]; kernel_rfl
theorem w38_7 : awp X n c38_7 Q st = awp X n c38_8 (blockQ 0 Q) st := by rw [awp_eq]; kernel_rfl
theorem w38_5 : awp X n c38_5 Q st = awp X n c38_6 (thenQ (awp X n c38_7 Q) Q) st := by rw [awp_eq]; kernel_rfl
noncomputable def c38_21 : Code := cr c38_4
noncomputable def c38_22 : Code := cl c38_21
theorem w38_22 : awp X n c38_22 Q ((a0::a1::a2::a3::a4::a5::a6::a7::a8::a9::b0::b1::b2::b3::b4::b5::b6::b7::b8::b9::d0::d1::d2::d3::d4::d5::d6::d7::d8::[]), h) = (a_mov a5 h (.c (fun t28 h1 => a_mov t28 h1 (.c (fun t4 h2 => Q .normal ((a0::a1::a2::a3::t4::a5::a6::a7::a8::a9::b0::b1::b2::b3::b4::b5::b6::b7::b8::b9::d0::d1::d2::d3::d4::d5::d6::d7::t28::[]), h2)) ())) ())) := by rw [awp_eq]; kernel_rfl
noncomputable def c38_23 : Code := cr c38_21
theorem w38_23 : awp X n c38_23 Q st = Q .ret st := by rw [awp_eq]; kernel_rfl
theorem w38_21 : awp X n c38_21 Q st = awp X n c38_22 (thenQ (awp X n c38_23 Q) Q) st := by rw [awp_eq]; kernel_rfl
theorem w38_4 : awp X n c38_4 Q st = awp X n c38_5 (thenQ (awp X n c38_21 Q) Q) st := by rw [awp_eq]; kernel_rfl
theorem w38_2 : awp X n c38_2 Q st = awp X n c38_3 (thenQ (awp X n c38_4 Q) Q) st := by rw [awp_eq]; kernel_rfl
theorem w38_0 : awp X n c38_0 Q st = awp X n c38_1 (thenQ (awp X n c38_2 Q) Q) st := by rw [awp_eq]; kernel_rfl
theorem q38_ret : retQ X Try.f38 K .ret ((a0::a1::a2::a3::a4::a5::a6::a7::a8::a9::b0::b1::b2::b3::b4::b5::b6::b7::b8::b9::d0::d1::d2::d3::d4::d5::d6::d7::d8::[]), h) = (K.K a4 h) := by kernel_rfl
theorem q38_normal : retQ X Try.f38 K .normal ((a0::a1::a2::a3::a4::a5::a6::a7::a8::a9::b0::b1::b2::b3::b4::b5::b6::b7::b8::b9::d0::d1::d2::d3::d4::d5::d6::d7::d8::[]), h) = (K.K a4 h) := by kernel_rfl
theorem i38 (H : awp X h.length c38_0 (retQ X Try.f38 K) ((a0::a1::.bad::.bad::.bad::.bad::.bad::.bad::.bad::.bad::.bad::.bad::.bad::.bad::.bad::.bad::.bad::.bad::.bad::.bad::.bad::.bad::.bad::.bad::.bad::.bad::.bad::.bad::.bad::[]), h)) : ACall X 38 [a0, a1] h K := acall_intro (fn := Try.f38) (by kernel_rfl) (by kernel_rfl) (by kernel_rfl) H
noncomputable def R38 := And.intro (And.intro (And.intro (And.intro (w38_1) (And.intro w38_3 w38_6)) (And.intro (w38_10) (And.intro w38_13 w38_14))) (And.intro (And.intro (w38_12) (And.intro w38_18 w38_19)) (And.intro (And.intro w38_17 w38_16) (And.intro w38_20 w38_15)))) (And.intro (And.intro (And.intro (w38_11) (And.intro w38_9 w38_8)) (And.intro (w38_7) (And.intro w38_5 w38_22))) (And.intro (And.intro (w38_23) (And.intro w38_21 w38_4)) (And.intro (And.intro w38_2 w38_0) (And.intro q38_ret q38_normal))))
/-! function 39: sindri/sindriref01.size -/
noncomputable def c39_0 : Code := bodyOf Try.f39
noncomputable def c39_1 : Code := cl c39_0
theorem w39_1 : awp X n c39_1 Q ((a0::a1::a2::a3::a4::a5::a6::a7::[]), h) = (a_mov (.v (.int .i64 0)) h (.c (fun t2 h1 => Q .normal ((a0::a1::t2::a3::a4::a5::a6::a7::[]), h1)) ())) := by rw [awp_eq]; kernel_rfl
noncomputable def c39_2 : Code := cr c39_0
noncomputable def c39_3 : Code := cl c39_2
noncomputable def c39_4 : Code := cl c39_3
theorem w39_4 : awp X n c39_4 Q ((a0::a1::a2::a3::a4::a5::a6::a7::[]), h) = (a_mov a0 h (.c (fun t3 h1 => a_bin .lss t3 (.v (.int .i64 0)) h1 (.c (fun t4 h2 => Q .normal ((a0::a1::a2::t3::t4::a5::a6::a7::[]), h2)) ())) ())) := by rw [awp_eq]; kernel_rfl
noncomputable def c39_5 : Code := cr c39_3
noncomputable def c39_6 : Code := cl c39_5
noncomputable def c39_7 : Code := cl c39_6
theorem w39_7 : awp X n c39_7 Q ((a0::a1::a2::a3::a4::a5::a6::a7::[]), h) = (a_mov (.v (.int .i64 0)) h (.c (fun t2 h1 => Q .normal ((a0::a1::t2::a3::a4::a5::a6::a7::[]), h1)) ())) := by rw [awp_eq]; kernel_rfl
noncomputable def c39_8 : Code := cr c39_6
theorem w39_8 : awp X n c39_8 Q st = Q .ret st := by rw [awp_eq]; kernel_rfl
theorem w39_6 : awp X n c39_6 Q st = awp X n c39_7 (thenQ (awp X n c39_8 Q) Q) st := by rw [awp_eq]; kernel_rfl
noncomputable def c39_9 : Code := cr c39_5
theorem w39_9 : awp X n c39_9 Q st = Q .normal st := by rw [awp_eq]; kernel_rfl
theorem w39_5 : awp X n c39_5 Q ((a0::a1::a2::a3::a4::a5::a6::a7::[]), h) = a_cond a4 (awp X n c39_6 Q ((a0::a1::a2::a3::a4::a5::a6::a7::[]), h)) (awp X n c39_9 Q ((a0::a1::a2::a3::a4::a5::a6::a7::[]), h)) := by rw [awp_eq]; kernel_rfl
theorem w39_3 : awp X n c39_3 Q st = awp X n c39_4 (thenQ (awp X n c39_5 Q) Q) st := by rw [awp_eq]; kernel_rfl
noncomputable def c39_10 : Code := cr c39_2
noncomputable def c39_11 : Code := cl c39_10
noncomputable def c39_12 : Code := cl c39_11
theorem w39_12 : awp X n c39_12 Q ((a0::a1::a2::a3::a4::a5::a6::a7::[]), h) = (a_mov a0 h (.c (fun t5 h1 => a_bin .gtr t5 (.v (.int .i64 8)) h1 (.c (fun t6 h2 => Q .normal ((a0::a1::a2::a3::a4::t5::t6::a7::[]), h2)) ())) ())) := by rw [awp_eq]; kernel_rfl
noncomputable def c39_13 : Code := cr c39_11
noncomputable def c39_14 : Code := cl c39_13
noncomputable def c39_15 : Code := cl c39_14
theorem w39_15 : awp X n c39_15 Q ((a0::a1::a2::a3::a4::a5::a6::a7::[]), h) = (a_mov (.v (.int .i64 8)) h (.c (fun t2 h1 => Q .normal ((a0::a1::t2::a3::a4::a5::a6::a7::[]), h1)) ())) := by rw [awp_eq]; kernel_rfl
noncomputable def c39_16 : Code := cr c39_14
theorem w39_16 : awp X n c39_16 Q st = Q .ret st := by rw [awp_eq]; kernel_rfl
theorem w39_14 : awp X n c39_14 Q st = awp X n c39_15 (thenQ (awp X n c39_16 Q) Q) st := by rw [awp_eq]; kernel_rfl
noncomputable def c39_17 : Code := cr c39_13
theorem w39_17 : awp X n c39_17 Q st = Q .normal st := by rw [awp_eq]; kernel_rfl
theorem w39_13 : awp X n c39_13 Q ((a0::a1::a2::a3::a4::a5::a6::a7::[]), h) = a_cond a6 (awp X n c39_14 Q ((a0::a1::a2::a3::a4::a5::a6::a7::[]), h)) (awp X n c39_17 Q ((a0::a1::a2::a3::a4::a5::a6::a7::[]), h)) := by rw [awp_eq]; kernel_rfl
theorem w39_11 : awp X n c39_11 Q st = awp X n c39_12 (thenQ (awp X n c39_13 Q) Q) st := by rw [awp_eq]; kernel_rfl
noncomputable def c39_18 : Code := cr c39_10
noncomputable def c39_19 : Code := cl c39_18
theorem w39_19 : awp X n c39_19 Q ((a0::a1::a2::a3::a4::a5::a6::a7::[]), h) = (a_mov a0 h (.c (fun t7 h1 => a_mov t7 h1 (.c (fun t2 h2 => Q .normal ((a0::a1::t2::a3::a4::a5::a6::t7::[]), h2)) ())) ())) := by rw [awp_eq]; kernel_rfl
noncomputable def c39_20 : Code := cr c39_18
theorem w39_20 : awp X n c39_20 Q st = Q .ret st := by rw [awp_eq]; kernel_rfl
theorem w39_18 : awp X n c39_18 Q st = awp X n c39_19 (thenQ (awp X n c39_20 Q) Q) st := by rw [awp_eq]; kernel_rfl
theorem w39_10 : awp X n c39_10 Q st = awp X n c39_11 (thenQ (awp X n c39_18 Q) Q) st := by rw [awp_eq]; kernel_rfl
theorem w39_2 : awp X n c39_2 Q st = awp X n c39_3 (thenQ (awp X n c39_10 Q) Q) st := by rw [awp_eq]; kernel_rfl
theorem w39_0 : awp X n c39_0 Q st = awp X n c39_1 (thenQ (awp X n c39_2 Q) Q) st := by rw [awp_eq]; kernel_rfl
theorem q39_ret : retQ X Try.f39 K .ret ((a0::a1::a2::a3::a4::a5::a6::a7::[]), h) = (K.K a2 h) := by kernel_rfl
theorem q39_normal : retQ X Try.f39 K .normal ((a0::a1::a2::a3::a4::a5::a6::a7::[]), h) = (K.K a2 h) := by kernel_rfl
theorem i39 (H : awp X h.length c39_0 (retQ X Try.f39 K) ((a0::.bad::.bad::.bad::.bad::.bad::.bad::.bad::[]), h)) : ACall X 39 [a0] h K := acall_intro (fn := Try.f39) (by kernel_rfl) (by kernel_rfl) (by kernel_rfl) H
noncomputable def R39 := And.intro (And.intro (And.intro (And.intro w39_1 w39_4) (And.intro (w39_7) (And.intro w39_8 w39_6))) (And.intro (And.intro (w39_9) (And.intro w39_5 w39_3)) (And.intro (w39_12) (And.intro w39_15 w39_16)))) (And.intro (And.intro (And.intro (w39_14) (And.intro w39_17 w39_13)) (And.intro (w39_11) (And.intro w39_19 w39_20))) (And.intro (And.intro (w39_18) (And.intro w39_10 w39_2)) (And.intro (w39_0) (And.intro q39_ret q39_normal))))
/-! function 40: (*sindri/sindriref01.C).Left -/
noncomputable def c40_0 : Code := bodyOf Try.f40
noncomputable def c40_1 : Code := cl c40_0
theorem w40_1 : awp X n c40_1 Q ((a0::a1::a2::a3::a4::a5::a6::a7::a8::a9::b0::b1::b2::b3::b4::b5::b6::b7::[]), h) = (a_mov (.v (.int .i64 0)) h (.c (fun t2 h1 => Q .normal ((a0::a1::t2::a3::a4::a5::a6::a7::a8::a9::b0::b1::b2::b3::b4::b5::b6::b7::[]), h1)) ())) := by rw [awp_eq]; kernel_rfl
noncomputable def c40_2 : Code := cr c40_0
noncomputable def c40_3 : Code := cl c40_2
noncomputable def c40_4 : Code := cl c40_3
theorem w40_4 : awp X n c40_4 Q ((a0::a1::a2::a3::a4::a5::a6::a7::a8::a9::b0::b1::b2::b3::b4::b5::b6::b7::[]), h) = (a_mov a0 h (.c (fun t3 h1 => a_nilc t3 h1 (.c (fun t4 h2 => a_fa 2 t4 h2 (.c (fun t5 h3 => a_load 1 false t5 h3 (.c (fun t6 h4 => a_bin .neq t6 (.v (.int .i64 0)) h4 (.c (fun t7 h5 => Q .normal ((a0::a1::a2::t3::t4::t5::t6::t7::a8::a9::b0::b1::b2::b3::b4::b5::b6::b7::[]), h5)) ())) ())) ())) ())) ())) := by rw [awp_eq]; kernel_rfl
noncomputable def c40_5 : Code := cr c40_3
noncomputable def c40_6 : Code := cl c40_5
noncomputable def c40_7 : Code := cl c40_6
theorem w40_7 : awp X n c40_7 Q ((a0::a1::a2::a3::a4::a5::a6::a7::a8::a9::b0::b1::b2::b3::b4::b5::b6::b7::[]), h) = (a_mov (.v (.int .i64 0)) h (.c (fun t2 h1 => Q .normal ((a0::a1::t2::a3::a4::a5::a6::a7::a8::a9::b0::b1::b2::b3::b4::b5::b6::b7::[]), h1)) ())) := by rw [awp_eq]; kernel_rfl
noncomputable def c40_8 : Code := cr c40_6
theorem w40_8 : awp X n c40_8 Q st = Q .ret st := by rw [awp_eq]; kernel_rfl
theorem w40_6 : awp X n c40_6 Q st = awp X n c40_7 (thenQ (awp X n c40_8 Q) Q) st := by rw [awp_eq]; kernel_rfl
noncomputable def c40_9 : Code := cr c40_5
theorem w40_9 : awp X n c40_9 Q st = Q .normal st := by rw [awp_eq]; kernel_rfl
theorem w40_5 : awp X n c40_5 Q ((a0::a1::a2::a3::a4::a5::a6::a7::a8::a9::b0::b1::b2::b3::b4::b5::b6::b7::[]), h) = a_cond a7 (awp X n c40_6 Q ((a0::a1::a2::a3::a4::a5::a6::a7::a8::a9::b0::b1::b2::b3::b4::b5::b6::b7::[]), h)) (awp X n c40_9 Q ((a0::a1::a2::a3::a4::a5::a6::a7::a8::a9::b0::b1::b2::b3::b4::b5::b6::b7::[]), h)) := by rw [awp_eq]; kernel_rfl
theorem w40_3 : awp X n c40_3 Q st = awp X n c40_4 (thenQ (awp X n c40_5 Q) Q) st := by rw [awp_eq]; kernel_rfl
noncomputable def c40_10 : Code := cr c40_2
noncomputable def c40_11 : Code := cl c40_10
theorem w40_11 : awp X n c40_11 Q ((a0::a1::a2::a3::a4::a5::a6::a7::a8::a9::b0::b1::b2::b3::b4::b5::b6::b7::[]), h) = (a_mov a0 h (.c (fun t8 h1 => a_nilc t8 h1 (.c (fun t9 h2 => a_fa 0 t9 h2 (.c (fun t10 h3 => a_load 1 false t10 h3 (.c (fun t11 h4 => a_len t11 h4 (.c (fun t12 h5 => a_mov a0 h5 (.c (fun t13 h6 => a_nilc t13 h6 (.c (fun t14 h7 => a_fa 1 t14 h7 (.c (fun t15 h8 => a_load 1 false t15 h8 (.c (fun t16 h9 => a_bin .sub t12 t16 h9 (.c (fun t17 h10 => a_mov t17 h10 (.c (fun t2 h11 => Q .normal ((a0::a1::t2::a3::a4::a5::a6::a7::t8::t9::t10::t11::t12::t13::t14::t15::t16::t17::[]), h11)) ())) ())) ())) ())) ())) ())) ())) ())) ())) ())) ())) := by rw [awp_eq]; kernel_rfl
noncomputable def c40_12 : Code := cr c40_10
theorem w40_12 : awp X n c40_12 Q st = Q .ret st := by rw [awp_eq]; kernel_rfl
theorem w40_10 : awp X n c40_10 Q st = awp X n c40_11 (thenQ (awp X n c40_12 Q) Q) st := by rw [awp_eq]; kernel_rfl
theorem w40_2 : awp X n c40_2 Q st = awp X n c40_3 (thenQ (awp X n c40_10 Q) Q) st := by rw [awp_eq]; kernel_rfl
theorem w40_0 : awp X n c40_0 Q st = awp X n c40_1 (thenQ (awp X n c40_2 Q) Q) st := by rw [awp_eq]; kernel_rfl
theorem q40_ret : retQ X Try.f40 K .ret ((a0::a1::a2::a3::a4::a5::a6::a7::a8::a9::b0::b1::b2::b3::b4::b5::b6::b7::[]), h) = (K.K a2 h) := by kernel_rfl
theorem q40_normal : retQ X Try.f40 K .normal ((a0::a1::a2::a3::a4::a5::a6::a7::a8::a9::b0::b1::b2::b3::b4::b5::b6::b7::[]), h) = (K.K a2 h) := by kernel_rfl
theorem i40 (H : awp X h.length c40_0 (retQ X Try.f40 K) ((a0::.bad::.bad::.bad::.bad::.bad::.bad::.bad::.bad::.bad::.bad::.bad::.bad::.bad::.bad::.bad::.bad::.bad::[]), h)) : ACall X 40 [a0] h K := acall_intro (fn := Try.f40) (by kernel_rfl) (by kernel_rfl) (by kernel_rfl) H
noncomputable def R40 := And.intro (And.intro (And.intro (w40_1) (And.intro w40_4 w40_7)) (And.intro (And.intro w40_8 w40_6) (And.intro w40_9 w40_5))) (And.intro (And.intro (And.intro w40_3 w40_11) (And.intro w40_12 w40_10)) (And.intro (And.intro w40_2 w40_0) (And.intro q40_ret q40_normal)))
/-! function 41: (*sindri/cursor.Cursor).next -/
noncomputable def c41_0 : Code := bodyOf Try.f41
noncomputable def c41_1 : Code := cl c41_0
theorem w41_1 : awp X n c41_1 Q ((a0::a1::a2::a3::a4::a5::a6::a7::a8::a9::b0::b1::b2::b3::b4::b5::b6::b7::b8::b9::d0::d1::d2::d3::d4::d5::d6::d7::d8::d9::e0::e1::e2::e3::e4::e5::e6::e7::e8::e9::f0::f1::f2::f3::f4::f5::f6::f7::f8::[]), h) = (a_mov (.v (.slice none 0 0)) h (.c (fun t4 h1 => Q .normal ((a0::a1::a2::a3::t4::a5::a6::a7::a8::a9::b0::b1::b2::b3::b4::b5::b6::b7::b8::b9::d0::d1::d2::d3::d4::d5::d6::d7::d8::d9::e0::e1::e2::e3::e4::e5::e6::e7::e8::e9::f0::f1::f2::f3::f4::f5::f6::f7::f8::[]), h1)) ())) := by rw [awp_eq]; kernel_rfl
noncomputable def c41_2 : Code := cr c41_0
noncomputable def c41_3 : Code := cl c41_2
noncomputable def c41_4 : Code := cl c41_3
theorem w41_4 : awp X n c41_4 Q ((a0::a1::a2::a3::a4::a5::a6::a7::a8::a9::b0::b1::b2::b3::b4::b5::b6::b7::b8::b9::d0::d1::d2::d3::d4::d5::d6::d7::d8::d9::e0::e1::e2::e3::e4::e5::e6::e7::e8::e9::f0::f1::f2::f3::f4::f5::f6::f7::f8::[]), h) = (a_mov a0 h (.c (fun t6 h1 => ACall X 15 [t6] h1 (.c (fun t7 h2 => a_bin .neq t7 (.v (.int .i64 0)) h2 (.c (fun t8 h3 => Q .normal ((a0::a1::a2::a3::a4::a5::t6::t7::t8::a9::b0::b1::b2::b3::b4::b5::b6::b7::b8::b9::d0::d1::d2::d3::d4::d5::d6::d7::d8::d9::e0::e1::e2::e3::e4::e5::e6::e7::e8::e9::f0::f1::f2::f3::f4::f5::f6::f7::f8::[]), h3)) ())) ())) ())) := by rw [awp_eq]; kernel_rfl
noncomputable def c41_5 : Code := cr c41_3
noncomputable def c41_6 : Code := cl c41_5
noncomputable def c41_7 : Code := cl c41_6
theorem w41_7 : awp X n c41_7 Q ((a0::a1::a2::a3::a4::a5::a6::a7::a8::a9::b0::b1::b2::b3::b4::b5::b6::b7::b8::b9::d0::d1::d2::d3::d4::d5::d6::d7::d8::d9::e0::e1::e2::e3::e4::e5::e6::e7::e8::e9::f0::f1::f2::f3::f4::f5::f6::f7::f8::[]), h) = (a_mov (.v (.slice none 0 0)) h (.c (fun t4 h1 => Q .normal ((a0::a1::a2::a3::t4::a5::a6::a7::a8::a9::b0::b1::b2::b3::b4::b5::b6::b7::b8::b9::d0::d1::d2::d3::d4::d5::d6::d7::d8::d9::e0::e1::e2::e3::e4::e5::e6::e7::e8::e9::f0::f1::f2::f3::f4::f5::f6::f7::f8::[]), h1)) ())) := by rw [awp_eq]; kernel_rfl
noncomputable def c41_8 : Code := cr c41_6
theorem w41_8 : awp X n c41_8 Q st = Q .ret st := by rw [awp_eq]; kernel_rfl
theorem w41_6 : awp X n c41_6 Q st = awp X n c41_7 (thenQ (awp X n c41_8 Q) Q) st := by rw [awp_eq]; kernel_rfl
noncomputable def c41_9 : Code := cr c41_5
theorem w41_9 : awp X n c41_9 Q st = Q .normal st := by rw [awp_eq]; kernel_rfl
theorem w41_5 : awp X n c41_5 Q ((a0::a1::a2::a3::a4::a5::a6::a7::a8::a9::b0::b1::b2::b3::b4::b5::b6::b7::b8::b9::d0::d1::d2::d3::d4::d5::d6::d7::d8::d9::e0::e1::e2::e3::e4::e5::e6::e7::e8::e9::f0::f1::f2::f3::f4::f5::f6::f7::f8::[]), h) = a_cond a8 (awp X n c41_6 Q ((a0::a1::a2::a3::a4::a5::a6::a7::a8::a9::b0::b1::b2::b3::b4::b5::b6::b7::b8::b9::d0::d1::d2::d3::d4::d5::d6::d7::d8::d9::e0::e1::e2::e3::e4::e5::e6::e7::e8::e9::f0::f1::f2::f3::f4::f5::f6::f7::f8::[]), h)) (awp X n c41_9 Q ((a0::a1::a2::a3::a4::a5::a6::a7::a8::a9::b0::b1::b2::b3::b4::b5::b6::b7::b8::b9::d0::d1::d2::d3::d4::d5::d6::d7::d8::d9::e0::e1::e2::e3::e4::e5::e6::e7::e8::e9::f0::f1::f2::f3::f4::f5::f6::f7::f8::[]), h)) := by rw [awp_eq]; kernel_rfl
theorem w41_3 : awp X n c41_3 Q st = awp X n c41_4 (thenQ (awp X n c41_5 Q) Q) st := by rw [awp_eq]; kernel_rfl
noncomputable def c41_10 : Code := cr c41_2
noncomputable def c41_11 : Code := cl c41_10
noncomputable def c41_12 : Code := cl c41_11
theorem w41_12 : awp X n c41_12 Q ((a0::a1::a2::a3::a4::a5::a6::a7::a8::a9::b0::b1::b2::b3::b4::b5::b6::b7::b8::b9::d0::d1::d2::d3::d4::d5::d6::d7::d8::d9::e0::e1::e2::e3::e4::e5::e6::e7::e8::e9::f0::f1::f2::f3::f4::f5::f6::f7::f8::[]), h) = (a_mov a1 h (.c (fun t9 h1 => a_mov a0 h1 (.c (fun t10 h2 => ACall X 16 [t10] h2 (.c (fun t11 h3 => a_cint .u64 t11 h3 (.c (fun t12 h4 => a_bin .gtr t9 t12 h4 (.c (fun t13 h5 => Q .normal ((a0::a1::a2::a3::a4::a5::a6::a7::a8::t9::t10::t11::t12::t13::b4::b5::b6::b7::b8::b9::d0::d1::d2::d3::d4::d5::d6::d7::d8::d9::e0::e1::e2::e3::e4::e5::e6::e7::e8::e9::f0::f1::f2::f3::f4::f5::f6::f7::f8::[]), h5)) ())) ())) ())) ())) ())) := by rw [awp_eq]; kernel_rfl
noncomputable def c41_13 : Code := cr c41_11
noncomputable def c41_14 : Code := cl c41_13
noncomputable def c41_15 : Code := cl c41_14
theorem w41_15 : awp X n c41_15 Q ((a0::a1::a2::a3::a4::a5::a6::a7::a8::a9::b0::b1::b2::b3::b4::b5::b6::b7::b8::b9::d0::d1::d2::d3::d4::d5::d6::d7::d8::d9::e0::e1::e2::e3::e4::e5::e6::e7::e8::e9::f0::f1::f2::f3::f4::f5::f6::f7::f8::[]), h) = (a_mov a0 h (.c (fun t14 h1 => ACall X 30 [t14, (.v (.int .i64 10))] h1 (.c (fun t15 h2 => Q .normal ((a0::a1::a2::a3::a4::a5::a6::a7::a8::a9::b0::b1::b2::b3::t14::t15::b6::b7::b8::b9::d0::d1::d2::d3::d4::d5::d6::d7::d8::d9::e0::e1::e2::e3::e4::e5::e6::e7::e8::e9::f0::f1::f2::f3::f4::f5::f6::f7::f8::[]), h2)) ())) ())) := by rw [awp_eq]; kernel_rfl
noncomputable def c41_16 : Code := cr c41_14
noncomputable def c41_17 : Code := cl c41_16
theorem w41_17 : awp X n c41_17 Q ((a0::a1::a2::a3::a4::a5::a6::a7::a8::a9::b0::b1::b2::b3::b4::b5::b6::b7::b8::b9::d0::d1::d2::d3::d4::d5::d6::d7::d8::d9::e0::e1::e2::e3::e4::e5::e6::e7::e8::e9::f0::f1::f2::f3::f4::f5::f6::f7::f8::[]), h) = (a_mov (.v (.slice none 0 0)) h (.c (fun t4 h1 => Q .normal ((a0::a1::a2::a3::t4::a5::a6::a7::a8::a9::b0::b1::b2::b3::b4::b5::b6::b7::b8::b9::d0::d1::d2::d3::d4::d5::d6::d7::d8::d9::e0::e1::e2::e3::e4::e5::e6::e7::e8::e9::f0::f1::f2::f3::f4::f5::f6::f7::f8::[]), h1)) ())) := by rw [awp_eq]; kernel_rfl
noncomputable def c41_18 : Code := cr c41_16
theorem w41_18 : awp X n c41_18 Q st = Q .ret st := by rw [awp_eq]; kernel_rfl
theorem w41_16 : awp X n c41_16 Q st = awp X n c41_17 (thenQ (awp X n c41_18 Q) Q) st := by rw [awp_eq]; kernel_rfl
theorem w41_14 : awp X n c41_14 Q st = awp X n c41_15 (thenQ (awp X n c41_16 Q) Q) st := by rw [awp_eq]; kernel_rfl
noncomputable def c41_19 : Code := cr c41_13
theorem w41_19 : awp X n c41_19 Q st = Q .normal st := by rw [awp_eq]; kernel_rfl
theorem w41_13 : awp X n c41_13 Q ((a0::a1::a2::a3::a4::a5::a6::a7::a8::a9::b0::b1::b2::b3::b4::b5::b6::b7::b8::b9::d0::d1::d2::d3::d4::d5::d6::d7::d8::d9::e0::e1::e2::e3::e4::e5::e6::e7::e8::e9::f0::f1::f2::f3::f4::f5::f6::f7::f8::[]), h) = a_cond b3 (awp X n c41_14 Q ((a0::a1::a2::a3::a4::a5::a6::a7::a8::a9::b0::b1::b2::b3::b4::b5::b6::b7::b8::b9::d0::d1::d2::d3::d4::d5::d6::d7::d8::d9::e0::e1::e2::e3::e4::e5::e6::e7::e8::e9::f0::f1::f2::f3::f4::f5::f6::f7::f8::[]), h)) (awp X n c41_19 Q ((a0::a1::a2::a3::a4::a5::a6::a7::a8::a9::b0::b1::b2::b3::b4::b5::b6::b7::b8::b9::d0::d1::d2::d3::d4::d5::d6::d7::d8::d9::e0::e1::e2::e3::e4::e5::e6::e7::e8::e9::f0::f1::f2::f3::f4::f5::f6::f7::f8::[]), h)) := by rw [awp_eq]; kernel_rfl
theorem w41_11 : awp X n c41_11 Q st = awp X n c41_12 (thenQ (awp X n c41_13 Q) Q) st := by rw [awp_eq]; kernel_rfl
noncomputable def c41_20 : Code := cr c41_10
noncomputable def c41_21 : Code := cl c41_20
theorem w41_21 : awp X n c41_21 Q ((a0::a1::a2::a3::a4::a5::a6::a7::a8::a9::b0::b1::b2::b3::b4::b5::b6::b7::b8::b9::d0::d1::d2::d3::d4::d5::d6::d7::d8::d9::e0::e1::e2::e3::e4::e5::e6::e7::e8::e9::f0::f1::f2::f3::f4::f5::f6::f7::f8::[]), h) = (a_mov a0 h (.c (fun t16 h1 => a_nilc t16 h1 (.c (fun t17 h2 => a_fa 0 t17 h2 (.c (fun t18 h3 => a_load 1 false t18 h3 (.c (fun t19 h4 => a_mov a0 h4 (.c (fun t20 h5 => a_nilc t20 h5 (.c (fun t21 h6 => a_fa 1 t21 h6 (.c (fun t22 h7 => a_load 1 false t22 h7 (.c (fun t23 h8 => a_mov a0 h8 (.c (fun t24 h9 => a_nilc t24 h9 (.c (fun t25 h10 => a_fa 1 t25 h10 (.c (fun t26 h11 => a_load 1 false t26 h11 (.c (fun t27 h12 => a_mov a1 h12 (.c (fun t28 h13 => a_cint .i64 t28 h13 (.c (fun t29 h14 => a_bin .add t27 t29 h14 (.c (fun t30 h15 => a_mov a0 h15 (.c (fun t31 h16 => a_nilc t31 h16 (.c (fun t32 h17 => a_fa 1 t32 h17 (.c (fun t33 h18 => a_load 1 false t33 h18 (.c (fun t34 h19 => a_mov a1 h19 (.c (fun t35 h20 => a_cint .i64 t35 h20 (.c (fun t36 h21 => a_bin .add t34 t36 h21 (.c (fun t37 h22 => a_slice 1 t19 (some t23) (some t30) (some t37) h22 (.c (fun t38 h23 => a_mov t38 h23 (.c (fun t5 h24 => Q .normal ((a0::a1::a2::a3::a4::t5::a6::a7::a8::a9::b0::b1::b2::b3::b4::b5::t16::t17::t18::t19::t20::t21::t22::t23::t24::t25::t26::t27::t28::t29::t30::t31::t32::t33::t34::t35::t36::t37::t38::e9::f0::f1::f2::f3::f4::f5::f6::f7::f8::[]), h24)) ())) ())) ())) ())) ())) ())) ())) ())) ())) ())) ())) ())) ())) ())) ())) ())) ())) ())) ())) ())) ())) ())) ())) ())) := by rw [awp_eq]; kernel_rfl
noncomputable def c41_22 : Code := cr c41_20
noncomputable def c41_23 : Code := cl c41_22
theorem w41_23 : awp X n c41_23 Q ((a0::a1::a2::a3::a4::a5::a6::a7::a8::a9::b0::b1::b2::b3::b4::b5::b6::b7::b8::b9::d0::d1::d2::d3::d4::d5::d6::d7::d8::d9::e0::e1::e2::e3::e4::e5::e6::e7::e8::e9::f0::f1::f2::f3::f4::f5::f6::f7::f8::[]), h) = (a_mov a0 h (.c (fun t39 h1 => a_nilc t39 h1 (.c (fun t40 h2 => a_fa 1 t40 h2 (.c (fun t41 h3 => a_load 1 false t41 h3 (.c (fun t42 h4 => a_mov a1 h4 (.c (fun t43 h5 => a_cint .i64 t43 h5 (.c (fun t44 h6 => a_bin .add t42 t44 h6 (.c (fun t45 h7 => a_nilc t39 h7 (.c (fun t46 h8 => a_fa 1 t46 h8 (.c (fun t47 h9 => a_store 1 t47 t45 h9 (.c (fun _v9 h10 => Q .normal ((a0::a1::a2::a3::a4::a5::a6::a7::a8::a9::b0::b1::b2::b3::b4::b5::b6::b7::b8::b9::d0::d1::d2::d3::d4::d5::d6::d7::d8::d9::e0::e1::e2::e3::e4::e5::e6::e7::e8::t39::t40::t41::t42::t43::t44::t45::t46::t47::f8::[]), h10)) ())) ())) ())) ())) ())) ())) ())) ())) ())) ())) := by rw [awp_eq]; kernel_rfl
noncomputable def c41_24 : Code := cr c41_22
noncomputable def c41_25 : Code := cl c41_24
theorem w41_25 : awp X n c41_25 Q ((a0::a1::a2::a3::a4::a5::a6::a7::a8::a9::b0::b1::b2::b3::b4::b5::b6::b7::b8::b9::d0::d1::d2::d3::d4::d5::d6::d7::d8::d9::e0::e1::e2::e3::e4::e5::e6::e7::e8::e9::f0::f1::f2::f3::f4::f5::f6::f7::f8::[]), h) = (a_mov a5 h (.c (fun t48 h1 => a_mov t48 h1 (.c (fun t4 h2 => Q .normal ((a0::a1::a2::a3::t4::a5::a6::a7::a8::a9::b0::b1::b2::b3::b4::b5::b6::b7::b8::b9::d0::d1::d2::d3::d4::d5::d6::d7::d8::d9::e0::e1::e2::e3::e4::e5::e6::e7::e8::e9::f0::f1::f2::f3::f4::f5::f6::f7::t48::[]), h2)) ())) ())) := by rw [awp_eq]; kernel_rfl
noncomputable def c41_26 : Code := cr c41_24
theorem w41_26 : awp X n c41_26 Q st = Q .ret st := by rw [awp_eq]; kernel_rfl
theorem w41_24 : awp X n c41_24 Q st = awp X n c41_25 (thenQ (awp X n c41_26 Q) Q) st := by rw [awp_eq]; kernel_rfl
theorem w41_22 : awp X n c41_22 Q st = awp X n c41_23 (thenQ (awp X n c41_24 Q) Q) st := by rw [awp_eq]; kernel_rfl
theorem w41_20 : awp X n c41_20 Q st = awp X n c41_21 (thenQ (awp X n c41_22 Q) Q) st := by rw [awp_eq]; kernel_rfl
theorem w41_10 : awp X n c41_10 Q st = awp X n c41_11 (thenQ (awp X n c41_20 Q) Q) st := by rw [awp_eq]; kernel_rfl
theorem w41_2 : awp X n c41_2 Q st = awp X n c41_3 (thenQ (awp X n c41_10 Q) Q) st := by rw [awp_eq]; kernel_rfl
theorem w41_0 : awp X n c41_0 Q st = awp X n c41_1 (thenQ (awp X n c41_2 Q) Q) st := by rw [awp_eq]; kernel_rfl
theorem q41_ret : retQ X Try.f41 K .ret ((a0::a1::a2::a3::a4::a5::a6::a7::a8::a9::b0::b1::b2::b3::b4::b5::b6::b7::b8::b9::d0::d1::d2::d3::d4::d5::d6::d7::d8::d9::e0::e1::e2::e3::e4::e5::e6::e7::e8::e9::f0::f1::f2::f3::f4::f5::f6::f7::f8::[]), h) = (K.K a4 h) := by kernel_rfl
theorem q41_normal : retQ X Try.f41 K .normal ((a0::a1::a2::a3::a4::a5::a6::a7::a8::a9::b0::b1::b2::b3::b4::b5::b6::b7::b8::b9::d0::d1::d2::d3::d4::d5::d6::d7::d8::d9::e0::e1::e2::e3::e4::e5::e6::e7::e8::e9::f0::f1::f2::f3::f4::f5::f6::f7::f8::[]), h) = (K.K a4 h) := by kernel_rfl
theorem i41 (H : awp X h.length c41_0 (retQ X Try.f41 K) ((a0::a1::.bad::.bad::.bad::.bad::.bad::.bad::.bad::.bad::.bad::.bad::.bad::.bad::.bad::.bad::.bad::.bad::.bad::.bad::.bad::.bad::.bad::.bad::.bad::.bad::.bad::.bad::.bad::.bad::.bad::.bad::.bad::.bad::.bad::.bad::.bad::.bad::.bad::.bad::.bad::.bad::.bad::.bad::.bad::.bad::.bad::.bad::.bad::[]), h)) : ACall X 41 [a0, a1] h K := acall_intro (fn := Try.f41) (by kernel_rfl) (by kernel_rfl) (by kernel_rfl) H
noncomputable def R41 := And.intro (And.intro (And.intro (And.intro (w41_1) (And.intro w41_4 w41_7)) (And.intro (And.intro w41_8 w41_6) (And.intro w41_9 w41_5))) (And.intro (And.intro (w41_3) (And.intro w41_12 w41_15)) (And.intro (And.intro w41_17 w41_18) (And.intro w41_16 w41_14)))) (And.intro (And.intro (And.intro (w41_19) (And.intro w41_13 w41_11)) (And.intro (And.intro w41_21 w41_23) (And.intro w41_25 w41_26))) (And.intro (And.intro (And.intro w41_24 w41_22) (And.intro w41_20 w41_10)) (And.intro (And.intro w41_2 w41_0) (And.intro q41_ret q41_normal))))
/-! function 42: sindri/cursor.width -/
noncomputable def c42_0 : Code := bodyOf Try.f42
noncomputable def c42_1 : Code := cl c42_0
theorem w42_1 : awp X n c42_1 Q ([a0,a1,a2,a3,a4,a5], h) = (a_mov (.v (.int .i64 0)) h (.c (fun t2 h1 => Q .normal ([a0,a1,t2,a3,a4,a5], h1)) ())) := by rw [awp_eq]; kernel_rfl
noncomputable def c42_2 : Code := cr c42_0
noncomputable def c42_3 : Code := cl c42_2
theorem w42_3 : awp X n c42_3 Q ([a0,a1,a2,a3,a4,a5], h) = (a_mov a0 h (.c (fun t3 h1 => a_max [t3, (.v (.int .i64 0))] h1 (.c (fun t4 h2 => a_min [t4, (.v (.int .i64 8))] h2 (.c (fun t5 h3 => a_mov t5 h3 (.c (fun t2 h4 => Q .normal ([a0,a1,t2,t3,t4,t5], h4)) ())) ())) ())) ())) := by rw [awp_eq]; kernel_rfl
noncomputable def c42_4 : Code := cr c42_2
theorem w42_4 : awp X n c42_4 Q st = Q .ret st := by rw [awp_eq]; kernel_rfl
theorem w42_2 : awp X n c42_2 Q st = awp X n c42_3 (thenQ (awp X n c42_4 Q) Q) st := by rw [awp_eq]; kernel_rfl
theorem w42_0 : awp X n c42_0 Q st = awp X n c42_1 (thenQ (awp X n c42_2 Q) Q) st := by rw [awp_eq]; kernel_rfl
theorem q42_ret : retQ X Try.f42 K .ret ([a0,a1,a2,a3,a4,a5], h) = (K.K a2 h) := by kernel_rfl
theorem q42_normal : retQ X Try.f42 K .normal ([a0,a1,a2,a3,a4,a5], h) = (K.K a2 h) := by kernel_rfl
theorem i42 (H : awp X h.length c42_0 (retQ X Try.f42 K) ([a0,.bad,.bad,.bad,.bad,.bad], h)) : ACall X 42 [a0] h K := acall_intro (fn := Try.f42) (by kernel_rfl) (by kernel_rfl) (by kernel_rfl) H
noncomputable def R42 := And.intro (And.intro (w42_1) (And.intro w42_3 w42_4)) (And.intro (And.intro w42_2 w42_0) (And.intro q42_ret q42_normal))
end Go.Proofs.Ytlfplmcidfflfaa
