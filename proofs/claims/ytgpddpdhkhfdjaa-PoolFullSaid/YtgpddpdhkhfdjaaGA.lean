import Derived.Test.YtgpddpdhkhfdjaaEnv
set_option linter.unusedVariables false
set_option linter.defProp false
set_option maxRecDepth 100000
namespace Go.Proofs.Ytgpddpdhkhfdjaa
open Go.Ab
variable (n : Nat) (h : Heap) (Q : Qt) (st : St) (K : Kt) (a0 a1 a2 a3 a4 a5 a6 a7 a8 a9 b0 b1 b2 b3 b4 b5 b6 b7 b8 b9 d0 d1 d2 d3 d4 d5 d6 d7 d8 d9 e0 e1 e2 e3 e4 e5 e6 e7 e8 e9 f0 f1 f2 f3 f4 f5 f6 f7 f8 : AV)
/-! function 25: strings.IndexByte -/
noncomputable def c25_0 : Code := bodyOf Try.f25
noncomputable def c25_1 : Code := cl c25_0
theorem w25_1 : awp X n c25_1 Q ((a0::a1::a2::a3::a4::a5::a6::a7::[]), h) = (a_mov (.v (.int .i64 0)) h (.c (fun t4 h1 => Q .normal ((a0::a1::a2::a3::t4::a5::a6::a7::[]), h1)) ())) := by rw [awp_eq]; kernel_rfl
noncomputable def c25_2 : Code := cr c25_0
noncomputable def c25_3 : Code := cl c25_2
theorem w25_3 : awp X n c25_3 Q ((a0::a1::a2::a3::a4::a5::a6::a7::[]), h) = (a_mov a0 h (.c (fun t5 h1 => a_mov a1 h1 (.c (fun t6 h2 => ACall X 31 [t5, t6] h2 (.c (fun t7 h3 => a_mov t7 h3 (.c (fun t4 h4 => Q .normal ((a0::a1::a2::a3::t4::t5::t6::t7::[]), h4)) ())) ())) ())) ())) := by rw [awp_eq]; kernel_rfl
noncomputable def c25_4 : Code := cr c25_2
theorem w25_4 : awp X n c25_4 Q st = Q .ret st := by rw [awp_eq]; kernel_rfl
theorem w25_2 : awp X n c25_2 Q st = awp X n c25_3 (thenQ (awp X n c25_4 Q) Q) st := by rw [awp_eq]; kernel_rfl
theorem w25_0 : awp X n c25_0 Q st = awp X n c25_1 (thenQ (awp X n c25_2 Q) Q) st := by rw [awp_eq]; kernel_rfl
theorem q25_ret : retQ X Try.f25 K .ret ((a0::a1::a2::a3::a4::a5::a6::a7::[]), h) = (K.K a4 h) := by kernel_rfl
theorem q25_normal : retQ X Try.f25 K .normal ((a0::a1::a2::a3::a4::a5::a6::a7::[]), h) = (K.K a4 h) := by kernel_rfl
theorem i25 (H : awp X h.length c25_0 (retQ X Try.f25 K) ((a0::a1::.bad::.bad::.bad::.bad::.bad::.bad::[]), h)) : ACall X 25 [a0, a1] h K := acall_intro (fn := Try.f25) (by kernel_rfl) (by kernel_rfl) (by kernel_rfl) H
noncomputable def R25 := And.intro (And.intro (w25_1) (And.intro w25_3 w25_4)) (And.intro (And.intro w25_2 w25_0) (And.intro q25_ret q25_normal))
/-! function 26: sindri/cursor.New -/
noncomputable def c26_0 : Code := bodyOf Try.f26
noncomputable def c26_1 : Code := cl c26_0
theorem w26_1 : awp X n c26_1 Q ((a0::a1::a2::a3::a4::a5::a6::a7::[]), h) = (a_mov (.v (.pointer none)) h (.c (fun t2 h1 => Q .normal ((a0::a1::t2::a3::a4::a5::a6::a7::[]), h1)) ())) := by rw [awp_eq]; kernel_rfl
noncomputable def c26_2 : Code := cr c26_0
noncomputable def c26_3 : Code := cl c26_2
theorem w26_3 : awp X n c26_3 Q ((a0::a1::a2::a3::a4::a5::a6::a7::[]), h) = (a_lit 1 0 [] [] h (.c (fun t3 h1 => a_mov a0 h1 (.c (fun t4 h2 => a_app 1 1 t3 t4 h2 (.c (fun t5 h3 => a_build [.v (.slice none 0 0), .v (.int .i64 0), .v (.bool false), .v (.int .i64 0)] [(0, 1, t5), (2, 1, (.v (.bool true)))] h3 (.c (fun t6 h4 => a_box t6 h4 (.c (fun t7 h5 => a_mov t7 h5 (.c (fun t2 h6 => Q .normal ((a0::a1::t2::t3::t4::t5::t6::t7::[]), h6)) ())) ())) ())) ())) ())) ())) := by rw [awp_eq]; kernel_rfl
noncomputable def c26_4 : Code := cr c26_2
theorem w26_4 : awp X n c26_4 Q st = Q .ret st := by rw [awp_eq]; kernel_rfl
theorem w26_2 : awp X n c26_2 Q st = awp X n c26_3 (thenQ (awp X n c26_4 Q) Q) st := by rw [awp_eq]; kernel_rfl
theorem w26_0 : awp X n c26_0 Q st = awp X n c26_1 (thenQ (awp X n c26_2 Q) Q) st := by rw [awp_eq]; kernel_rfl
theorem q26_ret : retQ X Try.f26 K .ret ((a0::a1::a2::a3::a4::a5::a6::a7::[]), h) = (K.K a2 h) := by kernel_rfl
theorem q26_normal : retQ X Try.f26 K .normal ((a0::a1::a2::a3::a4::a5::a6::a7::[]), h) = (K.K a2 h) := by kernel_rfl
theorem i26 (H : awp X h.length c26_0 (retQ X Try.f26 K) ((a0::.bad::.bad::.bad::.bad::.bad::.bad::.bad::[]), h)) : ACall X 26 [a0] h K := acall_intro (fn := Try.f26) (by kernel_rfl) (by kernel_rfl) (by kernel_rfl) H
noncomputable def R26 := And.intro (And.intro (w26_1) (And.intro w26_3 w26_4)) (And.intro (And.intro w26_2 w26_0) (And.intro q26_ret q26_normal))
/-! function 28: (*sindri/cursor.Cursor).Err -/
noncomputable def c28_0 : Code := bodyOf Try.f28
noncomputable def c28_1 : Code := cl c28_0
theorem w28_1 : awp X n c28_1 Q ((a0::a1::a2::a3::a4::a5::a6::a7::a8::a9::b0::b1::b2::b3::b4::b5::[]), h) = (a_mov (.v (.int .i64 0)) h (.c (fun t2 h1 => Q .normal ((a0::a1::t2::a3::a4::a5::a6::a7::a8::a9::b0::b1::b2::b3::b4::b5::[]), h1)) ())) := by rw [awp_eq]; kernel_rfl
noncomputable def c28_2 : Code := cr c28_0
noncomputable def c28_3 : Code := cl c28_2
noncomputable def c28_4 : Code := cl c28_3
theorem w28_4 : awp X n c28_4 Q ((a0::a1::a2::a3::a4::a5::a6::a7::a8::a9::b0::b1::b2::b3::b4::b5::[]), h) = (a_mov a0 h (.c (fun t3 h1 => a_eqp false t3 (.v (.pointer none)) h1 (.c (fun t4 h2 => a_mov t4 h2 (.c (fun t5 h3 => a_on t5 false (fun k => a_mov a0 h3 k) h3 (.c (fun t6 h4 => a_on t5 false (fun k => a_nilc t6 h4 k) h4 (.c (fun t7 h5 => a_on t5 false (fun k => a_fa 2 t7 h5 k) h5 (.c (fun t8 h6 => a_on t5 false (fun k => a_load 1 false t8 h6 k) h6 (.c (fun t9 h7 => a_on t5 false (fun k => a_un .not t9 h7 k) h7 (.c (fun t10 h8 => a_pick t5 (.v (.bool true)) t10 h8 (.c (fun t11 h9 => Q .normal ((a0::a1::a2::t3::t4::t5::t6::t7::t8::t9::t10::t11::b2::b3::b4::b5::[]), h9)) ())) ())) ())) ())) ())) ())) ())) ())) ())) := by rw [awp_eq]; kernel_rfl
noncomputable def c28_5 : Code := cr c28_3
noncomputable def c28_6 : Code := cl c28_5
noncomputable def c28_7 : Code := cl c28_6
theorem w28_7 : awp X n c28_7 Q ((a0::a1::a2::a3::a4::a5::a6::a7::a8::a9::b0::b1::b2::b3::b4::b5::[]), h) = (a_mov (.v (.int .i64 1)) h (.c (fun t2 h1 => Q .normal ((a0::a1::t2::a3::a4::a5::a6::a7::a8::a9::b0::b1::b2::b3::b4::b5::[]), h1)) ())) := by rw [awp_eq]; kernel_rfl
noncomputable def c28_8 : Code := cr c28_6
theorem w28_8 : awp X n c28_8 Q st = Q .ret st := by rw [awp_eq]; kernel_rfl
theorem w28_6 : awp X n c28_6 Q st = awp X n c28_7 (thenQ (awp X n c28_8 Q) Q) st := by rw [awp_eq]; kernel_rfl
noncomputable def c28_9 : Code := cr c28_5
theorem w28_9 : awp X n c28_9 Q st = Q .normal st := by rw [awp_eq]; kernel_rfl
theorem w28_5 : awp X n c28_5 Q ((a0::a1::a2::a3::a4::a5::a6::a7::a8::a9::b0::b1::b2::b3::b4::b5::[]), h) = a_cond b1 (awp X n c28_6 Q ((a0::a1::a2::a3::a4::a5::a6::a7::a8::a9::b0::b1::b2::b3::b4::b5::[]), h)) (awp X n c28_9 Q ((a0::a1::a2::a3::a4::a5::a6::a7::a8::a9::b0::b1::b2::b3::b4::b5::[]), h)) := by rw [awp_eq]; kernel_rfl
theorem w28_3 : awp X n c28_3 Q st = awp X n c28_4 (thenQ (awp X n c28_5 Q) Q) st := by rw [awp_eq]; kernel_rfl
noncomputable def c28_10 : Code := cr c28_2
noncomputable def c28_11 : Code := cl c28_10
theorem w28_11 : awp X n c28_11 Q ((a0::a1::a2::a3::a4::a5::a6::a7::a8::a9::b0::b1::b2::b3::b4::b5::[]), h) = (a_mov a0 h (.c (fun t12 h1 => a_nilc t12 h1 (.c (fun t13 h2 => a_fa 3 t13 h2 (.c (fun t14 h3 => a_load 1 false t14 h3 (.c (fun t15 h4 => a_mov t15 h4 (.c (fun t2 h5 => Q .normal ((a0::a1::t2::a3::a4::a5::a6::a7::a8::a9::b0::b1::t12::t13::t14::t15::[]), h5)) ())) ())) ())) ())) ())) := by rw [awp_eq]; kernel_rfl
noncomputable def c28_12 : Code := cr c28_10
theorem w28_12 : awp X n c28_12 Q st = Q .ret st := by rw [awp_eq]; kernel_rfl
theorem w28_10 : awp X n c28_10 Q st = awp X n c28_11 (thenQ (awp X n c28_12 Q) Q) st := by rw [awp_eq]; kernel_rfl
theorem w28_2 : awp X n c28_2 Q st = awp X n c28_3 (thenQ (awp X n c28_10 Q) Q) st := by rw [awp_eq]; kernel_rfl
theorem w28_0 : awp X n c28_0 Q st = awp X n c28_1 (thenQ (awp X n c28_2 Q) Q) st := by rw [awp_eq]; kernel_rfl
theorem q28_ret : retQ X Try.f28 K .ret ((a0::a1::a2::a3::a4::a5::a6::a7::a8::a9::b0::b1::b2::b3::b4::b5::[]), h) = (K.K a2 h) := by kernel_rfl
theorem q28_normal : retQ X Try.f28 K .normal ((a0::a1::a2::a3::a4::a5::a6::a7::a8::a9::b0::b1::b2::b3::b4::b5::[]), h) = (K.K a2 h) := by kernel_rfl
theorem i28 (H : awp X h.length c28_0 (retQ X Try.f28 K) ((a0::.bad::.bad::.bad::.bad::.bad::.bad::.bad::.bad::.bad::.bad::.bad::.bad::.bad::.bad::.bad::[]), h)) : ACall X 28 [a0] h K := acall_intro (fn := Try.f28) (by kernel_rfl) (by kernel_rfl) (by kernel_rfl) H
noncomputable def R28 := And.intro (And.intro (And.intro (w28_1) (And.intro w28_4 w28_7)) (And.intro (And.intro w28_8 w28_6) (And.intro w28_9 w28_5))) (And.intro (And.intro (And.intro w28_3 w28_11) (And.intro w28_12 w28_10)) (And.intro (And.intro w28_2 w28_0) (And.intro q28_ret q28_normal)))
/-! function 29: bytes.IndexByte -/
noncomputable def c29_0 : Code := bodyOf Try.f29
noncomputable def c29_1 : Code := cl c29_0
theorem w29_1 : awp X n c29_1 Q ((a0::a1::a2::a3::a4::a5::a6::a7::[]), h) = (a_mov (.v (.int .i64 0)) h (.c (fun t4 h1 => Q .normal ((a0::a1::a2::a3::t4::a5::a6::a7::[]), h1)) ())) := by rw [awp_eq]; kernel_rfl
noncomputable def c29_2 : Code := cr c29_0
noncomputable def c29_3 : Code := cl c29_2
theorem w29_3 : awp X n c29_3 Q ((a0::a1::a2::a3::a4::a5::a6::a7::[]), h) = (a_mov a0 h (.c (fun t5 h1 => a_mov a1 h1 (.c (fun t6 h2 => ACall X 38 [t5, t6] h2 (.c (fun t7 h3 => a_mov t7 h3 (.c (fun t4 h4 => Q .normal ((a0::a1::a2::a3::t4::t5::t6::t7::[]), h4)) ())) ())) ())) ())) := by rw [awp_eq]; kernel_rfl
noncomputable def c29_4 : Code := cr c29_2
theorem w29_4 : awp X n c29_4 Q st = Q .ret st := by rw [awp_eq]; kernel_rfl
theorem w29_2 : awp X n c29_2 Q st = awp X n c29_3 (thenQ (awp X n c29_4 Q) Q) st := by rw [awp_eq]; kernel_rfl
theorem w29_0 : awp X n c29_0 Q st = awp X n c29_1 (thenQ (awp X n c29_2 Q) Q) st := by rw [awp_eq]; kernel_rfl
theorem q29_ret : retQ X Try.f29 K .ret ((a0::a1::a2::a3::a4::a5::a6::a7::[]), h) = (K.K a4 h) := by kernel_rfl
theorem q29_normal : retQ X Try.f29 K .normal ((a0::a1::a2::a3::a4::a5::a6::a7::[]), h) = (K.K a4 h) := by kernel_rfl
theorem i29 (H : awp X h.length c29_0 (retQ X Try.f29 K) ((a0::a1::.bad::.bad::.bad::.bad::.bad::.bad::[]), h)) : ACall X 29 [a0, a1] h K := acall_intro (fn := Try.f29) (by kernel_rfl) (by kernel_rfl) (by kernel_rfl) H
noncomputable def R29 := And.intro (And.intro (w29_1) (And.intro w29_3 w29_4)) (And.intro (And.intro w29_2 w29_0) (And.intro q29_ret q29_normal))
/-! function 31: internal/stringslite.IndexByte -/
noncomputable def c31_0 : Code := bodyOf Try.f31
noncomputable def c31_1 : Code := cl c31_0
theorem w31_1 : awp X n c31_1 Q ((a0::a1::a2::a3::a4::a5::a6::a7::[]), h) = (a_mov (.v (.int .i64 0)) h (.c (fun t4 h1 => Q .normal ((a0::a1::a2::a3::t4::a5::a6::a7::[]), h1)) ())) := by rw [awp_eq]; kernel_rfl
noncomputable def c31_2 : Code := cr c31_0
noncomputable def c31_3 : Code := cl c31_2
theorem w31_3 : awp X n c31_3 Q ((a0::a1::a2::a3::a4::a5::a6::a7::[]), h) = (a_mov a0 h (.c (fun t5 h1 => a_mov a1 h1 (.c (fun t6 h2 => ACall X 39 [t5, t6] h2 (.c (fun t7 h3 => a_mov t7 h3 (.c (fun t4 h4 => Q .normal ((a0::a1::a2::a3::t4::t5::t6::t7::[]), h4)) ())) ())) ())) ())) := by rw [awp_eq]; kernel_rfl
noncomputable def c31_4 : Code := cr c31_2
theorem w31_4 : awp X n c31_4 Q st = Q .ret st := by rw [awp_eq]; kernel_rfl
theorem w31_2 : awp X n c31_2 Q st = awp X n c31_3 (thenQ (awp X n c31_4 Q) Q) st := by rw [awp_eq]; kernel_rfl
theorem w31_0 : awp X n c31_0 Q st = awp X n c31_1 (thenQ (awp X n c31_2 Q) Q) st := by rw [awp_eq]; kernel_rfl
theorem q31_ret : retQ X Try.f31 K .ret ((a0::a1::a2::a3::a4::a5::a6::a7::[]), h) = (K.K a4 h) := by kernel_rfl
theorem q31_normal : retQ X Try.f31 K .normal ((a0::a1::a2::a3::a4::a5::a6::a7::[]), h) = (K.K a4 h) := by kernel_rfl
theorem i31 (H : awp X h.length c31_0 (retQ X Try.f31 K) ((a0::a1::.bad::.bad::.bad::.bad::.bad::.bad::[]), h)) : ACall X 31 [a0, a1] h K := acall_intro (fn := Try.f31) (by kernel_rfl) (by kernel_rfl) (by kernel_rfl) H
noncomputable def R31 := And.intro (And.intro (w31_1) (And.intro w31_3 w31_4)) (And.intro (And.intro w31_2 w31_0) (And.intro q31_ret q31_normal))
/-! function 32: (*sindri/cursor.Cursor).At -/
noncomputable def c32_0 : Code := bodyOf Try.f32
noncomputable def c32_1 : Code := cl c32_0
theorem w32_1 : awp X n c32_1 Q ((a0::a1::a2::a3::a4::a5::a6::a7::a8::[]), h) = (a_mov (.v (.int .i64 0)) h (.c (fun t2 h1 => Q .normal ((a0::a1::t2::a3::a4::a5::a6::a7::a8::[]), h1)) ())) := by rw [awp_eq]; kernel_rfl
noncomputable def c32_2 : Code := cr c32_0
noncomputable def c32_3 : Code := cl c32_2
noncomputable def c32_4 : Code := cl c32_3
theorem w32_4 : awp X n c32_4 Q ((a0::a1::a2::a3::a4::a5::a6::a7::a8::[]), h) = (a_mov a0 h (.c (fun t3 h1 => a_eqp false t3 (.v (.pointer none)) h1 (.c (fun t4 h2 => Q .normal ((a0::a1::a2::t3::t4::a5::a6::a7::a8::[]), h2)) ())) ())) := by rw [awp_eq]; kernel_rfl
noncomputable def c32_5 : Code := cr c32_3
noncomputable def c32_6 : Code := cl c32_5
noncomputable def c32_7 : Code := cl c32_6
theorem w32_7 : awp X n c32_7 Q ((a0::a1::a2::a3::a4::a5::a6::a7::a8::[]), h) = (a_mov (.v (.int .i64 0)) h (.c (fun t2 h1 => Q .normal ((a0::a1::t2::a3::a4::a5::a6::a7::a8::[]), h1)) ())) := by rw [awp_eq]; kernel_rfl
noncomputable def c32_8 : Code := cr c32_6
theorem w32_8 : awp X n c32_8 Q st = Q .ret st := by rw [awp_eq]; kernel_rfl
theorem w32_6 : awp X n c32_6 Q st = awp X n c32_7 (thenQ (awp X n c32_8 Q) Q) st := by rw [awp_eq]; kernel_rfl
noncomputable def c32_9 : Code := cr c32_5
theorem w32_9 : awp X n c32_9 Q st = Q .normal st := by rw [awp_eq]; kernel_rfl
theorem w32_5 : awp X n c32_5 Q ((a0::a1::a2::a3::a4::a5::a6::a7::a8::[]), h) = a_cond a4 (awp X n c32_6 Q ((a0::a1::a2::a3::a4::a5::a6::a7::a8::[]), h)) (awp X n c32_9 Q ((a0::a1::a2::a3::a4::a5::a6::a7::a8::[]), h)) := by rw [awp_eq]; kernel_rfl
theorem w32_3 : awp X n c32_3 Q st = awp X n c32_4 (thenQ (awp X n c32_5 Q) Q) st := by rw [awp_eq]; kernel_rfl
noncomputable def c32_10 : Code := cr c32_2
noncomputable def c32_11 : Code := cl c32_10
theorem w32_11 : awp X n c32_11 Q ((a0::a1::a2::a3::a4::a5::a6::a7::a8::[]), h) = (a_mov a0 h (.c (fun t5 h1 => a_nilc t5 h1 (.c (fun t6 h2 => a_fa 1 t6 h2 (.c (fun t7 h3 => a_load 1 false t7 h3 (.c (fun t8 h4 => a_mov t8 h4 (.c (fun t2 h5 => Q .normal ((a0::a1::t2::a3::a4::t5::t6::t7::t8::[]), h5)) ())) ())) ())) ())) ())) := by rw [awp_eq]; kernel_rfl
noncomputable def c32_12 : Code := cr c32_10
theorem w32_12 : awp X n c32_12 Q st = Q .ret st := by rw [awp_eq]; kernel_rfl
theorem w32_10 : awp X n c32_10 Q st = awp X n c32_11 (thenQ (awp X n c32_12 Q) Q) st := by rw [awp_eq]; kernel_rfl
theorem w32_2 : awp X n c32_2 Q st = awp X n c32_3 (thenQ (awp X n c32_10 Q) Q) st := by rw [awp_eq]; kernel_rfl
theorem w32_0 : awp X n c32_0 Q st = awp X n c32_1 (thenQ (awp X n c32_2 Q) Q) st := by rw [awp_eq]; kernel_rfl
theorem q32_ret : retQ X Try.f32 K .ret ((a0::a1::a2::a3::a4::a5::a6::a7::a8::[]), h) = (K.K a2 h) := by kernel_rfl
theorem q32_normal : retQ X Try.f32 K .normal ((a0::a1::a2::a3::a4::a5::a6::a7::a8::[]), h) = (K.K a2 h) := by kernel_rfl
theorem i32 (H : awp X h.length c32_0 (retQ X Try.f32 K) ((a0::.bad::.bad::.bad::.bad::.bad::.bad::.bad::.bad::[]), h)) : ACall X 32 [a0] h K := acall_intro (fn := Try.f32) (by kernel_rfl) (by kernel_rfl) (by kernel_rfl) H
noncomputable def R32 := And.intro (And.intro (And.intro (w32_1) (And.intro w32_4 w32_7)) (And.intro (And.intro w32_8 w32_6) (And.intro w32_9 w32_5))) (And.intro (And.intro (And.intro w32_3 w32_11) (And.intro w32_12 w32_10)) (And.intro (And.intro w32_2 w32_0) (And.intro q32_ret q32_normal)))
/-! function 33: (*sindri/cursor.Cursor).Left -/
noncomputable def c33_0 : Code := bodyOf Try.f33
noncomputable def c33_1 : Code := cl c33_0
theorem w33_1 : awp X n c33_1 Q ((a0::a1::a2::a3::a4::a5::a6::a7::a8::a9::b0::b1::b2::b3::b4::b5::[]), h) = (a_mov (.v (.int .i64 0)) h (.c (fun t2 h1 => Q .normal ((a0::a1::t2::a3::a4::a5::a6::a7::a8::a9::b0::b1::b2::b3::b4::b5::[]), h1)) ())) := by rw [awp_eq]; kernel_rfl
noncomputable def c33_2 : Code := cr c33_0
noncomputable def c33_3 : Code := cl c33_2
noncomputable def c33_4 : Code := cl c33_3
theorem w33_4 : awp X n c33_4 Q ((a0::a1::a2::a3::a4::a5::a6::a7::a8::a9::b0::b1::b2::b3::b4::b5::[]), h) = (a_mov a0 h (.c (fun t3 h1 => ACall X 28 [t3] h1 (.c (fun t4 h2 => a_bin .neq t4 (.v (.int .i64 0)) h2 (.c (fun t5 h3 => Q .normal ((a0::a1::a2::t3::t4::t5::a6::a7::a8::a9::b0::b1::b2::b3::b4::b5::[]), h3)) ())) ())) ())) := by rw [awp_eq]; kernel_rfl
noncomputable def c33_5 : Code := cr c33_3
noncomputable def c33_6 : Code := cl c33_5
noncomputable def c33_7 : Code := cl c33_6
theorem w33_7 : awp X n c33_7 Q ((a0::a1::a2::a3::a4::a5::a6::a7::a8::a9::b0::b1::b2::b3::b4::b5::[]), h) = (a_mov (.v (.int .i64 0)) h (.c (fun t2 h1 => Q .normal ((a0::a1::t2::a3::a4::a5::a6::a7::a8::a9::b0::b1::b2::b3::b4::b5::[]), h1)) ())) := by rw [awp_eq]; kernel_rfl
noncomputable def c33_8 : Code := cr c33_6
theorem w33_8 : awp X n c33_8 Q st = Q .ret st := by rw [awp_eq]; kernel_rfl
theorem w33_6 : awp X n c33_6 Q st = awp X n c33_7 (thenQ (awp X n c33_8 Q) Q) st := by rw [awp_eq]; kernel_rfl
noncomputable def c33_9 : Code := cr c33_5
theorem w33_9 : awp X n c33_9 Q st = Q .normal st := by rw [awp_eq]; kernel_rfl
theorem w33_5 : awp X n c33_5 Q ((a0::a1::a2::a3::a4::a5::a6::a7::a8::a9::b0::b1::b2::b3::b4::b5::[]), h) = a_cond a5 (awp X n c33_6 Q ((a0::a1::a2::a3::a4::a5::a6::a7::a8::a9::b0::b1::b2::b3::b4::b5::[]), h)) (awp X n c33_9 Q ((a0::a1::a2::a3::a4::a5::a6::a7::a8::a9::b0::b1::b2::b3::b4::b5::[]), h)) := by rw [awp_eq]; kernel_rfl
theorem w33_3 : awp X n c33_3 Q st = awp X n c33_4 (thenQ (awp X n c33_5 Q) Q) st := by rw [awp_eq]; kernel_rfl
noncomputable def c33_10 : Code := cr c33_2
noncomputable def c33_11 : Code := cl c33_10
theorem w33_11 : awp X n c33_11 Q ((a0::a1::a2::a3::a4::a5::a6::a7::a8::a9::b0::b1::b2::b3::b4::b5::[]), h) = (a_mov a0 h (.c (fun t6 h1 => a_nilc t6 h1 (.c (fun t7 h2 => a_fa 0 t7 h2 (.c (fun t8 h3 => a_load 1 false t8 h3 (.c (fun t9 h4 => a_len t9 h4 (.c (fun t10 h5 => a_mov a0 h5 (.c (fun t11 h6 => a_nilc t11 h6 (.c (fun t12 h7 => a_fa 1 t12 h7 (.c (fun t13 h8 => a_load 1 false t13 h8 (.c (fun t14 h9 => a_bin .sub t10 t14 h9 (.c (fun t15 h10 => a_mov t15 h10 (.c (fun t2 h11 => Q .normal ((a0::a1::t2::a3::a4::a5::t6::t7::t8::t9::t10::t11::t12::t13::t14::t15::[]), h11)) ())) ())) ())) ())) ())) ())) ())) ())) ())) ())) ())) := by rw [awp_eq]; kernel_rfl
noncomputable def c33_12 : Code := cr c33_10
theorem w33_12 : awp X n c33_12 Q st = Q .ret st := by rw [awp_eq]; kernel_rfl
theorem w33_10 : awp X n c33_10 Q st = awp X n c33_11 (thenQ (awp X n c33_12 Q) Q) st := by rw [awp_eq]; kernel_rfl
theorem w33_2 : awp X n c33_2 Q st = awp X n c33_3 (thenQ (awp X n c33_10 Q) Q) st := by rw [awp_eq]; kernel_rfl
theorem w33_0 : awp X n c33_0 Q st = awp X n c33_1 (thenQ (awp X n c33_2 Q) Q) st := by rw [awp_eq]; kernel_rfl
theorem q33_ret : retQ X Try.f33 K .ret ((a0::a1::a2::a3::a4::a5::a6::a7::a8::a9::b0::b1::b2::b3::b4::b5::[]), h) = (K.K a2 h) := by kernel_rfl
theorem q33_normal : retQ X Try.f33 K .normal ((a0::a1::a2::a3::a4::a5::a6::a7::a8::a9::b0::b1::b2::b3::b4::b5::[]), h) = (K.K a2 h) := by kernel_rfl
theorem i33 (H : awp X h.length c33_0 (retQ X Try.f33 K) ((a0::.bad::.bad::.bad::.bad::.bad::.bad::.bad::.bad::.bad::.bad::.bad::.bad::.bad::.bad::.bad::[]), h)) : ACall X 33 [a0] h K := acall_intro (fn := Try.f33) (by kernel_rfl) (by kernel_rfl) (by kernel_rfl) H
noncomputable def R33 := And.intro (And.intro (And.intro (w33_1) (And.intro w33_4 w33_7)) (And.intro (And.intro w33_8 w33_6) (And.intro w33_9 w33_5))) (And.intro (And.intro (And.intro w33_3 w33_11) (And.intro w33_12 w33_10)) (And.intro (And.intro w33_2 w33_0) (And.intro q33_ret q33_normal)))
/-! function 34: (*sindri/cursor.Cursor).Seek -/
noncomputable def c34_0 : Code := bodyOf Try.f34
noncomputable def c34_1 : Code := cl c34_0
noncomputable def c34_2 : Code := cl c34_1
theorem w34_2 : awp X n c34_2 Q ((a0::a1::a2::a3::a4::a5::a6::a7::a8::a9::b0::b1::b2::b3::b4::b5::b6::b7::b8::b9::d0::d1::d2::d3::[]), h) = (a_mov a0 h (.c (fun t10 h1 => ACall X 28 [t10] h1 (.c (fun t11 h2 => a_bin .neq t11 (.v (.int .i64 0)) h2 (.c (fun t12 h3 => a_mov t12 h3 (.c (fun t9 h4 => Q .normal ((a0::a1::a2::a3::a4::a5::a6::a7::a8::t9::t10::t11::t12::b3::b4::b5::b6::b7::b8::b9::d0::d1::d2::d3::[]), h4)) ())) ())) ())) ())) := by rw [awp_eq]; kernel_rfl
noncomputable def c34_3 : Code := cr c34_1
noncomputable def c34_4 : Code := cl c34_3
theorem w34_4 : awp X n c34_4 Q st = Q .normal st := by rw [awp_eq]; kernel_rfl
noncomputable def c34_5 : Code := cr c34_3
noncomputable def c34_6 : Code := cl c34_5
theorem w34_6 : awp X n c34_6 Q ((a0::a1::a2::a3::a4::a5::a6::a7::a8::a9::b0::b1::b2::b3::b4::b5::b6::b7::b8::b9::d0::d1::d2::d3::[]), h) = (a_mov a1 h (.c (fun t14 h1 => a_mov a0 h1 (.c (fun t15 h2 => a_nilc t15 h2 (.c (fun t16 h3 => a_fa 0 t16 h3 (.c (fun t17 h4 => a_load 1 false t17 h4 (.c (fun t18 h5 => a_len t18 h5 (.c (fun t19 h6 => a_cint .u64 t19 h6 (.c (fun t20 h7 => a_bin .gtr t14 t20 h7 (.c (fun t21 h8 => a_mov t21 h8 (.c (fun t13 h9 => Q .normal ((a0::a1::a2::a3::a4::a5::a6::a7::a8::a9::b0::b1::b2::t13::t14::t15::t16::t17::t18::t19::t20::t21::d2::d3::[]), h9)) ())) ())) ())) ())) ())) ())) ())) ())) ())) := by rw [awp_eq]; kernel_rfl
noncomputable def c34_7 : Code := cr c34_5
noncomputable def c34_8 : Code := cl c34_7
theorem w34_8 : awp X n c34_8 Q ((a0::a1::a2::a3::a4::a5::a6::a7::a8::a9::b0::b1::b2::b3::b4::b5::b6::b7::b8::b9::d0::d1::d2::d3::[]), h) = (a_mov a0 h (.c (fun t22 h1 => ACall X 35 [t22, (.v (.int .i64 10))] h1 (.c (fun t23 h2 => Q .normal ((a0::a1::a2::a3::a4::a5::a6::a7::a8::a9::b0::b1::b2::b3::b4::b5::b6::b7::b8::b9::d0::d1::t22::t23::[]), h2)) ())) ())) := by rw [awp_eq]; kernel_rfl
noncomputable def c34_9 : Code := cr c34_7
theorem w34_9 : awp X n c34_9 Q ((a0::a1::a2::a3::a4::a5::a6::a7::a8::a9::b0::b1::b2::b3::b4::b5::b6::b7::b8::b9::d0::d1::d2::d3::[]), h) = (a_mov a0 h (.c (fun t4 h1 => a_mov a1 h1 (.c (fun t5 h2 => a_cint .i64 t5 h2 (.c (fun t6 h3 => a_nilc t4 h3 (.c (fun t7 h4 => a_fa 1 t7 h4 (.c (fun t8 h5 => a_store 1 t8 t6 h5 (.c (fun _v5 h6 => Q .normal ((a0::a1::a2::a3::t4::t5::t6::t7::t8::a9::b0::b1::b2::b3::b4::b5::b6::b7::b8::b9::d0::d1::d2::d3::[]), h6)) ())) ())) ())) ())) ())) ())) := by rw [awp_eq]; kernel_rfl
theorem w34_7 : awp X n c34_7 Q ((a0::a1::a2::a3::a4::a5::a6::a7::a8::a9::b0::b1::b2::b3::b4::b5::b6::b7::b8::b9::d0::d1::d2::d3::[]), h) = a_cond b3 (awp X n c34_8 Q ((a0::a1::a2::a3::a4::a5::a6::a7::a8::a9::b0::b1::b2::b3::b4::b5::b6::b7::b8::b9::d0::d1::d2::d3::[]), h)) (awp X n c34_9 Q ((a0::a1::a2::a3::a4::a5::a6::a7::a8::a9::b0::b1::b2::b3::b4::b5::b6::b7::b8::b9::d0::d1::d2::d3::[]), h)) := by rw [awp_eq]; kernel_rfl
theorem w34_5 : awp X n c34_5 Q st = awp X n c34_6 (thenQ (awp X n c34_7 Q) Q) st := by rw [awp_eq]; kernel_rfl
theorem w34_3 : awp X n c34_3 Q ((a0::a1::a2::a3::a4::a5::a6::a7::a8::a9::b0::b1::b2::b3::b4::b5::b6::b7::b8::b9::d0::d1::d2::d3::[]), h) = a_cond a9 (awp X n c34_4 Q ((a0::a1::a2::a3::a4::a5::a6::a7::a8::a9::b0::b1::b2::b3::b4::b5::b6::b7::b8::b9::d0::d1::d2::d3::[]), h)) (awp X n c34_5 Q ((a0::a1::a2::a3::a4::a5::a6::a7::a8::a9::b0::b1::b2::b3::b4::b5::b6::b7::b8::b9::d0::d1::d2::d3::[]), h)) := by rw [awp_eq]; kernel_rfl
theorem w34_1 : awp X n c34_1 Q st = awp X n c34_2 (thenQ (awp X n c34_3 Q) Q) st := by rw [awp_eq]; kernel_rfl
theorem w34_0 : awp X n c34_0 Q st = awp X n c34_1 (blockQ 0 Q) st := by rw [awp_eq]; kernel_rfl
theorem q34_ret : retQ X Try.f34 K .ret ((a0::a1::a2::a3::a4::a5::a6::a7::a8::a9::b0::b1::b2::b3::b4::b5::b6::b7::b8::b9::d0::d1::d2::d3::[]), h) = (K.K (.t []) h) := by kernel_rfl
theorem q34_normal : retQ X Try.f34 K .normal ((a0::a1::a2::a3::a4::a5::a6::a7::a8::a9::b0::b1::b2::b3::b4::b5::b6::b7::b8::b9::d0::d1::d2::d3::[]), h) = (K.K (.t []) h) := by kernel_rfl
theorem i34 (H : awp X h.length c34_0 (retQ X Try.f34 K) ((a0::a1::.bad::.bad::.bad::.bad::.bad::.bad::.bad::.bad::.bad::.bad::.bad::.bad::.bad::.bad::.bad::.bad::.bad::.bad::.bad::.bad::.bad::.bad::[]), h)) : ACall X 34 [a0, a1] h K := acall_intro (fn := Try.f34) (by kernel_rfl) (by kernel_rfl) (by kernel_rfl) H
noncomputable def R34 := And.intro (And.intro (And.intro (w34_2) (And.intro w34_4 w34_6)) (And.intro (w34_8) (And.intro w34_9 w34_7))) (And.intro (And.intro (w34_5) (And.intro w34_3 w34_1)) (And.intro (w34_0) (And.intro q34_ret q34_normal)))
/-! function 35: (*sindri/cursor.Cursor).Fail -/
noncomputable def c35_0 : Code := bodyOf Try.f35
noncomputable def c35_1 : Code := cl c35_0
theorem w35_1 : awp X n c35_1 Q ((a0::a1::a2::a3::a4::a5::a6::a7::a8::a9::b0::[]), h) = (a_mov a0 h (.c (fun t4 h1 => ACall X 28 [t4] h1 (.c (fun t5 h2 => a_bin .eql t5 (.v (.int .i64 0)) h2 (.c (fun t6 h3 => Q .normal ((a0::a1::a2::a3::t4::t5::t6::a7::a8::a9::b0::[]), h3)) ())) ())) ())) := by rw [awp_eq]; kernel_rfl
noncomputable def c35_2 : Code := cr c35_0
noncomputable def c35_3 : Code := cl c35_2
theorem w35_3 : awp X n c35_3 Q ((a0::a1::a2::a3::a4::a5::a6::a7::a8::a9::b0::[]), h) = (a_mov a0 h (.c (fun t7 h1 => a_mov a1 h1 (.c (fun t8 h2 => a_nilc t7 h2 (.c (fun t9 h3 => a_fa 3 t9 h3 (.c (fun t10 h4 => a_store 1 t10 t8 h4 (.c (fun _v4 h5 => Q .normal ((a0::a1::a2::a3::a4::a5::a6::t7::t8::t9::t10::[]), h5)) ())) ())) ())) ())) ())) := by rw [awp_eq]; kernel_rfl
noncomputable def c35_4 : Code := cr c35_2
theorem w35_4 : awp X n c35_4 Q st = Q .normal st := by rw [awp_eq]; kernel_rfl
theorem w35_2 : awp X n c35_2 Q ((a0::a1::a2::a3::a4::a5::a6::a7::a8::a9::b0::[]), h) = a_cond a6 (awp X n c35_3 Q ((a0::a1::a2::a3::a4::a5::a6::a7::a8::a9::b0::[]), h)) (awp X n c35_4 Q ((a0::a1::a2::a3::a4::a5::a6::a7::a8::a9::b0::[]), h)) := by rw [awp_eq]; kernel_rfl
theorem w35_0 : awp X n c35_0 Q st = awp X n c35_1 (thenQ (awp X n c35_2 Q) Q) st := by rw [awp_eq]; kernel_rfl
theorem q35_ret : retQ X Try.f35 K .ret ((a0::a1::a2::a3::a4::a5::a6::a7::a8::a9::b0::[]), h) = (K.K (.t []) h) := by kernel_rfl
theorem q35_normal : retQ X Try.f35 K .normal ((a0::a1::a2::a3::a4::a5::a6::a7::a8::a9::b0::[]), h) = (K.K (.t []) h) := by kernel_rfl
theorem i35 (H : awp X h.length c35_0 (retQ X Try.f35 K) ((a0::a1::.bad::.bad::.bad::.bad::.bad::.bad::.bad::.bad::.bad::[]), h)) : ACall X 35 [a0, a1] h K := acall_intro (fn := Try.f35) (by kernel_rfl) (by kernel_rfl) (by kernel_rfl) H
noncomputable def R35 := And.intro (And.intro (w35_1) (And.intro w35_3 w35_4)) (And.intro (And.intro w35_2 w35_0) (And.intro q35_ret q35_normal))
/-! function 36: (*sindri/cursor.Cursor).U8 -/
noncomputable def c36_0 : Code := bodyOf Try.f36
noncomputable def c36_1 : Code := cl c36_0
theorem w36_1 : awp X n c36_1 Q ([a0,a1,a2,a3,a4], h) = (a_mov (.v (.int .u64 0)) h (.c (fun t2 h1 => Q .normal ([a0,a1,t2,a3,a4], h1)) ())) := by rw [awp_eq]; kernel_rfl
noncomputable def c36_2 : Code := cr c36_0
noncomputable def c36_3 : Code := cl c36_2
theorem w36_3 : awp X n c36_3 Q ([a0,a1,a2,a3,a4], h) = (a_mov a0 h (.c (fun t3 h1 => ACall X 40 [t3, (.v (.int .i64 1))] h1 (.c (fun t4 h2 => a_mov t4 h2 (.c (fun t2 h3 => Q .normal ([a0,a1,t2,t3,t4], h3)) ())) ())) ())) := by rw [awp_eq]; kernel_rfl
noncomputable def c36_4 : Code := cr c36_2
theorem w36_4 : awp X n c36_4 Q st = Q .ret st := by rw [awp_eq]; kernel_rfl
theorem w36_2 : awp X n c36_2 Q st = awp X n c36_3 (thenQ (awp X n c36_4 Q) Q) st := by rw [awp_eq]; kernel_rfl
theorem w36_0 : awp X n c36_0 Q st = awp X n c36_1 (thenQ (awp X n c36_2 Q) Q) st := by rw [awp_eq]; kernel_rfl
theorem q36_ret : retQ X Try.f36 K .ret ([a0,a1,a2,a3,a4], h) = (K.K a2 h) := by kernel_rfl
theorem q36_normal : retQ X Try.f36 K .normal ([a0,a1,a2,a3,a4], h) = (K.K a2 h) := by kernel_rfl
theorem i36 (H : awp X h.length c36_0 (retQ X Try.f36 K) ([a0,.bad,.bad,.bad,.bad], h)) : ACall X 36 [a0] h K := acall_intro (fn := Try.f36) (by kernel_rfl) (by kernel_rfl) (by kernel_rfl) H
noncomputable def R36 := And.intro (And.intro (w36_1) (And.intro w36_3 w36_4)) (And.intro (And.intro w36_2 w36_0) (And.intro q36_ret q36_normal))
/-! function 37: (*sindri/cursor.Cursor).Bytes -/
noncomputable def c37_0 : Code := bodyOf Try.f37
noncomputable def c37_1 : Code := cl c37_0
theorem w37_1 : awp X n c37_1 Q ((a0::a1::a2::a3::a4::a5::a6::a7::a8::a9::b0::b1::b2::b3::b4::[]), h) = (a_mov (.v (.slice none 0 0)) h (.c (fun t4 h1 => Q .normal ((a0::a1::a2::a3::t4::a5::a6::a7::a8::a9::b0::b1::b2::b3::b4::[]), h1)) ())) := by rw [awp_eq]; kernel_rfl
noncomputable def c37_2 : Code := cr c37_0
noncomputable def c37_3 : Code := cl c37_2
theorem w37_3 : awp X n c37_3 Q ((a0::a1::a2::a3::a4::a5::a6::a7::a8::a9::b0::b1::b2::b3::b4::[]), h) = (a_mov a0 h (.c (fun t6 h1 => a_mov a1 h1 (.c (fun t7 h2 => ACall X 41 [t6, t7] h2 (.c (fun t8 h3 => a_mov t8 h3 (.c (fun t5 h4 => Q .normal ((a0::a1::a2::a3::a4::t5::t6::t7::t8::a9::b0::b1::b2::b3::b4::[]), h4)) ())) ())) ())) ())) := by rw [awp_eq]; kernel_rfl
noncomputable def c37_4 : Code := cr c37_2
noncomputable def c37_5 : Code := cl c37_4
noncomputable def c37_6 : Code := cl c37_5
theorem w37_6 : awp X n c37_6 Q ((a0::a1::a2::a3::a4::a5::a6::a7::a8::a9::b0::b1::b2::b3::b4::[]), h) = (a_mov a5 h (.c (fun t9 h1 => a_len t9 h1 (.c (fun t10 h2 => a_bin .eql t10 (.v (.int .i64 0)) h2 (.c (fun t11 h3 => Q .normal ((a0::a1::a2::a3::a4::a5::a6::a7::a8::t9::t10::t11::b2::b3::b4::[]), h3)) ())) ())) ())) := by rw [awp_eq]; kernel_rfl
noncomputable def c37_7 : Code := cr c37_5
noncomputable def c37_8 : Code := cl c37_7
noncomputable def c37_9 : Code := cl c37_8
theorem w37_9 : awp X n c37_9 Q ((a0::a1::a2::a3::a4::a5::a6::a7::a8::a9::b0::b1::b2::b3::b4::[]), h) = (a_mov (.v (.slice none 0 0)) h (.c (fun t4 h1 => Q .normal ((a0::a1::a2::a3::t4::a5::a6::a7::a8::a9::b0::b1::b2::b3::b4::[]), h1)) ())) := by rw [awp_eq]; kernel_rfl
noncomputable def c37_10 : Code := cr c37_8
theorem w37_10 : awp X n c37_10 Q st = Q .ret st := by rw [awp_eq]; kernel_rfl
theorem w37_8 : awp X n c37_8 Q st = awp X n c37_9 (thenQ (awp X n c37_10 Q) Q) st := by rw [awp_eq]; kernel_rfl
noncomputable def c37_11 : Code := cr c37_7
theorem w37_11 : awp X n c37_11 Q st = Q .normal st := by rw [awp_eq]; kernel_rfl
theorem w37_7 : awp X n c37_7 Q ((a0::a1::a2::a3::a4::a5::a6::a7::a8::a9::b0::b1::b2::b3::b4::[]), h) = a_cond b1 (awp X n c37_8 Q ((a0::a1::a2::a3::a4::a5::a6::a7::a8::a9::b0::b1::b2::b3::b4::[]), h)) (awp X n c37_11 Q ((a0::a1::a2::a3::a4::a5::a6::a7::a8::a9::b0::b1::b2::b3::b4::[]), h)) := by rw [awp_eq]; kernel_rfl
theorem w37_5 : awp X n c37_5 Q st = awp X n c37_6 (thenQ (awp X n c37_7 Q) Q) st := by rw [awp_eq]; kernel_rfl
noncomputable def c37_12 : Code := cr c37_4
noncomputable def c37_13 : Code := cl c37_12
theorem w37_13 : awp X n c37_13 Q ((a0::a1::a2::a3::a4::a5::a6::a7::a8::a9::b0::b1::b2::b3::b4::[]), h) = (a_lit 1 0 [] [] h (.c (fun t12 h1 => a_mov a5 h1 (.c (fun t13 h2 => a_app 1 1 t12 t13 h2 (.c (fun t14 h3 => a_mov t14 h3 (.c (fun t4 h4 => Q .normal ((a0::a1::a2::a3::t4::a5::a6::a7::a8::a9::b0::b1::t12::t13::t14::[]), h4)) ())) ())) ())) ())) := by rw [awp_eq]; kernel_rfl
noncomputable def c37_14 : Code := cr c37_12
theorem w37_14 : awp X n c37_14 Q st = Q .ret st := by rw [awp_eq]; kernel_rfl
theorem w37_12 : awp X n c37_12 Q st = awp X n c37_13 (thenQ (awp X n c37_14 Q) Q) st := by rw [awp_eq]; kernel_rfl
theorem w37_4 : awp X n c37_4 Q st = awp X n c37_5 (thenQ (awp X n c37_12 Q) Q) st := by rw [awp_eq]; kernel_rfl
theorem w37_2 : awp X n c37_2 Q st = awp X n c37_3 (thenQ (awp X n c37_4 Q) Q) st := by rw [awp_eq]; kernel_rfl
theorem w37_0 : awp X n c37_0 Q st = awp X n c37_1 (thenQ (awp X n c37_2 Q) Q) st := by rw [awp_eq]; kernel_rfl
theorem q37_ret : retQ X Try.f37 K .ret ((a0::a1::a2::a3::a4::a5::a6::a7::a8::a9::b0::b1::b2::b3::b4::[]), h) = (K.K a4 h) := by kernel_rfl
theorem q37_normal : retQ X Try.f37 K .normal ((a0::a1::a2::a3::a4::a5::a6::a7::a8::a9::b0::b1::b2::b3::b4::[]), h) = (K.K a4 h) := by kernel_rfl
theorem i37 (H : awp X h.length c37_0 (retQ X Try.f37 K) ((a0::a1::.bad::.bad::.bad::.bad::.bad::.bad::.bad::.bad::.bad::.bad::.bad::.bad::.bad::[]), h)) : ACall X 37 [a0, a1] h K := acall_intro (fn := Try.f37) (by kernel_rfl) (by kernel_rfl) (by kernel_rfl) H
noncomputable def R37 := And.intro (And.intro (And.intro (And.intro w37_1 w37_3) (And.intro w37_6 w37_9)) (And.intro (And.intro w37_10 w37_8) (And.intro w37_11 w37_7))) (And.intro (And.intro (And.intro w37_5 w37_13) (And.intro w37_14 w37_12)) (And.intro (And.intro w37_4 w37_2) (And.intro (w37_0) (And.intro q37_ret q37_normal))))
/-! function 40: (*sindri/cursor.Cursor).Uint -/
noncomputable def c40_0 : Code := bodyOf Try.f40
noncomputable def c40_1 : Code := cl c40_0
theorem w40_1 : awp X n c40_1 Q ((a0::a1::a2::a3::a4::a5::a6::a7::a8::a9::b0::b1::b2::b3::b4::b5::b6::b7::b8::b9::d0::d1::d2::d3::d4::d5::d6::d7::d8::[]), h) = (a_mov (.v (.int .u64 0)) h (.c (fun t4 h1 => Q .normal ((a0::a1::a2::a3::t4::a5::a6::a7::a8::a9::b0::b1::b2::b3::b4::b5::b6::b7::b8::b9::d0::d1::d2::d3::d4::d5::d6::d7::d8::[]), h1)) ())) := by rw [awp_eq]; kernel_rfl
noncomputable def c40_2 : Code := cr c40_0
noncomputable def c40_3 : Code := cl c40_2
theorem w40_3 : awp X n c40_3 Q ((a0::a1::a2::a3::a4::a5::a6::a7::a8::a9::b0::b1::b2::b3::b4::b5::b6::b7::b8::b9::d0::d1::d2::d3::d4::d5::d6::d7::d8::[]), h) = (a_mov (.v (.int .u64 0)) h (.c (fun t5 h1 => Q .normal ((a0::a1::a2::a3::a4::t5::a6::a7::a8::a9::b0::b1::b2::b3::b4::b5::b6::b7::b8::b9::d0::d1::d2::d3::d4::d5::d6::d7::d8::[]), h1)) ())) := by rw [awp_eq]; kernel_rfl
noncomputable def c40_4 : Code := cr c40_2
noncomputable def c40_5 : Code := cl c40_4
noncomputable def c40_6 : Code := cl c40_5
theorem w40_6 : awp X n c40_6 Q ((a0::a1::a2::a3::a4::a5::a6::a7::a8::a9::b0::b1::b2::b3::b4::b5::b6::b7::b8::b9::d0::d1::d2::d3::d4::d5::d6::d7::d8::[]), h) = (a_mov a0 h (.c (fun t8 h1 => a_mov a1 h1 (.c (fun t9 h2 => ACall X 42 [t9] h2 (.c (fun t10 h3 => a_cint .u64 t10 h3 (.c (fun t11 h4 => ACall X 41 [t8, t11] h4 (.c (fun t12 h5 => a_len t12 h5 (.c (fun t13 h6 => a_mov (.v (.int .i64 0)) h6 (.c (fun t14 h7 => Q .normal ((a0::a1::a2::a3::a4::a5::a6::a7::t8::t9::t10::t11::t12::t13::t14::b5::b6::b7::b8::b9::d0::d1::d2::d3::d4::d5::d6::d7::d8::[]), h7)) ())) ())) ())) ())) ())) ())) ())) := by rw [awp_eq]; kernel_rfl
noncomputable def c40_7 : Code := cr c40_5
noncomputable def c40_8 : Code := cl c40_7
noncomputable def c40_9 : Code := cl c40_8
noncomputable def c40_10 : Code := cl c40_9
theorem w40_10 : awp X n c40_10 Q ((a0::a1::a2::a3::a4::a5::a6::a7::a8::a9::b0::b1::b2::b3::b4::b5::b6::b7::b8::b9::d0::d1::d2::d3::d4::d5::d6::d7::d8::[]), h) = (a_bin .lss b4 b3 h (.c (fun t15 h1 => Q .normal ((a0::a1::a2::a3::a4::a5::a6::a7::a8::a9::b0::b1::b2::b3::b4::t15::b6::b7::b8::b9::d0::d1::d2::d3::d4::d5::d6::d7::d8::[]), h1)) ())) := by rw [awp_eq]; kernel_rfl
noncomputable def c40_11 : Code := cr c40_9
noncomputable def c40_12 : Code := cl c40_11
noncomputable def c40_13 : Code := cl c40_12
theorem w40_13 : awp X n c40_13 Q st = Q .normal st := by rw [awp_eq]; kernel_rfl
noncomputable def c40_14 : Code := cr c40_12
theorem w40_14 : awp X n c40_14 Q st = Q (.exit 0) st := by rw [awp_eq]; kernel_rfl
theorem w40_12 : awp X n c40_12 Q ((a0::a1::a2::a3::a4::a5::a6::a7::a8::a9::b0::b1::b2::b3::b4::b5::b6::b7::b8::b9::d0::d1::d2::d3::d4::d5::d6::d7::d8::[]), h) = a_cond b5 (awp X n c40_13 Q ((a0::a1::a2::a3::a4::a5::a6::a7::a8::a9::b0::b1::b2::b3::b4::b5::b6::b7::b8::b9::d0::d1::d2::d3::d4::d5::d6::d7::d8::[]), h)) (awp X n c40_14 Q ((a0::a1::a2::a3::a4::a5::a6::a7::a8::a9::b0::b1::b2::b3::b4::b5::b6::b7::b8::b9::d0::d1::d2::d3::d4::d5::d6::d7::d8::[]), h)) := by rw [awp_eq]; kernel_rfl
noncomputable def c40_15 : Code := cr c40_11
noncomputable def c40_16 : Code := cl c40_15
noncomputable def c40_17 : Code := cl c40_16
noncomputable def c40_18 : Code := cl c40_17
theorem w40_18 : awp X n c40_18 Q ((a0::a1::a2::a3::a4::a5::a6::a7::a8::a9::b0::b1::b2::b3::b4::b5::b6::b7::b8::b9::d0::d1::d2::d3::d4::d5::d6::d7::d8::[]), h) = (a_mov b4 h (.c (fun t16 h1 => a_ia 1 b2 b4 h1 (.c (fun t17 h2 => a_load 1 false t17 h2 (.c (fun t18 h3 => a_mov t16 h3 (.c (fun t6 h4 => a_mov t18 h4 (.c (fun t7 h5 => Q .normal ((a0::a1::a2::a3::a4::a5::t6::t7::a8::a9::b0::b1::b2::b3::b4::b5::t16::t17::t18::b9::d0::d1::d2::d3::d4::d5::d6::d7::d8::[]), h5)) ())) ())) ())) ())) ())) := by rw [awp_eq]; kernel_rfl
noncomputable def c40_19 : Code := cr c40_17
theorem w40_19 : awp X n c40_19 Q ((a0::a1::a2::a3::a4::a5::a6::a7::a8::a9::b0::b1::b2::b3::b4::b5::b6::b7::b8::b9::d0::d1::d2::d3::d4::d5::d6::d7::d8::[]), h) = (a_mov a5 h (.c (fun t19 h1 => a_mov a7 h1 (.c (fun t20 h2 => a_cint .u64 t20 h2 (.c (fun t21 h3 => a_mov a6 h3 (.c (fun t22 h4 => a_bin .mul (.v (.int .i64 8)) t22 h4 (.c (fun t23 h5 => a_cint .u64 t23 h5 (.c (fun t24 h6 => a_bin .shl t21 t24 h6 (.c (fun t25 h7 => a_bin .or t19 t25 h7 (.c (fun t26 h8 => a_mov t26 h8 (.c (fun t5 h9 => Q .normal ((a0::a1::a2::a3::a4::t5::a6::a7::a8::a9::b0::b1::b2::b3::b4::b5::b6::b7::b8::t19::t20::t21::t22::t23::t24::t25::t26::d7::d8::[]), h9)) ())) ())) ())) ())) ())) ())) ())) ())) ())) := by rw [awp_eq]; kernel_rfl
theorem w40_17 : awp X n c40_17 Q st = awp X n c40_18 (thenQ (awp X n c40_19 Q) Q) st := by rw [awp_eq]; kernel_rfl
theorem w40_16 : awp X n c40_16 Q st = awp X n c40_17 (blockQ 1 Q) st := by rw [awp_eq]; kernel_rfl
noncomputable def c40_20 : Code := cr c40_15
theorem w40_20 : awp X n c40_20 Q ((a0::a1::a2::a3::a4::a5::a6::a7::a8::a9::b0::b1::b2::b3::b4::b5::b6::b7::b8::b9::d0::d1::d2::d3::d4::d5::d6::d7::d8::[]), h) = (a_bin .add b4 (.v (.int .i64 1)) h (.c (fun t27 h1 => a_mov t27 h1 (.c (fun t14 h2 => Q .normal ((a0::a1::a2::a3::a4::a5::a6::a7::a8::a9::b0::b1::b2::b3::t14::b5::b6::b7::b8::b9::d0::d1::d2::d3::d4::d5::d6::t27::d8::[]), h2)) ())) ())) := by rw [awp_eq]; kernel_rfl
theorem w40_15 : awp X n c40_15 Q st = awp X n c40_16 (thenQ (awp X n c40_20 Q) Q) st := by rw [awp_eq]; kernel_rfl
theorem w40_11 : awp X n c40_11 Q st = awp X n c40_12 (thenQ (awp X n c40_15 Q) Q) st := by rw [awp_eq]; kernel_rfl
theorem w40_9 : awp X n c40_9 Q st = awp X n c40_10 (thenQ (awp X n c40_11 Q) Q) st := by rw [awp_eq]; kernel_rfl
theorem w40_8 : awp X n c40_8 Q st = ALoop X n c40_9 Q st := by rw [awp_eq]; kernel_rfl
theorem w40_7 : awp X n c40_7 Q st = awp X n c40_8 (blockQ 0 Q) st := by rw [awp_eq]; kernel_rfl
theorem w40_5 : awp X n c40_5 Q st = awp X n c40_6 (thenQ (awp X n c40_7 Q) Q) st := by rw [awp_eq]; kernel_rfl
noncomputable def c40_21 : Code := cr c40_4
noncomputable def c40_22 : Code := cl c40_21
theorem w40_22 : awp X n c40_22 Q ((a0::a1::a2::a3::a4::a5::a6::a7::a8::a9::b0::b1::b2::b3::b4::b5::b6::b7::b8::b9::d0::d1::d2::d3::d4::d5::d6::d7::d8::[]), h) = (a_mov a5 h (.c (fun t28 h1 => a_mov t28 h1 (.c (fun t4 h2 => Q .normal ((a0::a1::a2::a3::t4::a5::a6::a7::a8::a9::b0::b1::b2::b3::b4::b5::b6::b7::b8::b9::d0::d1::d2::d3::d4::d5::d6::d7::t28::[]), h2)) ())) ())) := by rw [awp_eq]; kernel_rfl
noncomputable def c40_23 : Code := cr c40_21
theorem w40_23 : awp X n c40_23 Q st = Q .ret st := by rw [awp_eq]; kernel_rfl
theorem w40_21 : awp X n c40_21 Q st = awp X n c40_22 (thenQ (awp X n c40_23 Q) Q) st := by rw [awp_eq]; kernel_rfl
theorem w40_4 : awp X n c40_4 Q st = awp X n c40_5 (thenQ (awp X n c40_21 Q) Q) st := by rw [awp_eq]; kernel_rfl
theorem w40_2 : awp X n c40_2 Q st = awp X n c40_3 (thenQ (awp X n c40_4 Q) Q) st := by rw [awp_eq]; kernel_rfl
theorem w40_0 : awp X n c40_0 Q st = awp X n c40_1 (thenQ (awp X n c40_2 Q) Q) st := by rw [awp_eq]; kernel_rfl
theorem q40_ret : retQ X Try.f40 K .ret ((a0::a1::a2::a3::a4::a5::a6::a7::a8::a9::b0::b1::b2::b3::b4::b5::b6::b7::b8::b9::d0::d1::d2::d3::d4::d5::d6::d7::d8::[]), h) = (K.K a4 h) := by kernel_rfl
theorem q40_normal : retQ X Try.f40 K .normal ((a0::a1::a2::a3::a4::a5::a6::a7::a8::a9::b0::b1::b2::b3::b4::b5::b6::b7::b8::b9::d0::d1::d2::d3::d4::d5::d6::d7::d8::[]), h) = (K.K a4 h) := by kernel_rfl
theorem i40 (H : awp X h.length c40_0 (retQ X Try.f40 K) ((a0::a1::.bad::.bad::.bad::.bad::.bad::.bad::.bad::.bad::.bad::.bad::.bad::.bad::.bad::.bad::.bad::.bad::.bad::.bad::.bad::.bad::.bad::.bad::.bad::.bad::.bad::.bad::.bad::[]), h)) : ACall X 40 [a0, a1] h K := acall_intro (fn := Try.f40) (by kernel_rfl) (by kernel_rfl) (by kernel_rfl) H
noncomputable def R40 := And.intro (And.intro (And.intro (And.intro (w40_1) (And.intro w40_3 w40_6)) (And.intro (w40_10) (And.intro w40_13 w40_14))) (And.intro (And.intro (w40_12) (And.intro w40_18 w40_19)) (And.intro (And.intro w40_17 w40_16) (And.intro w40_20 w40_15)))) (And.intro (And.intro (And.intro (w40_11) (And.intro w40_9 w40_8)) (And.intro (w40_7) (And.intro w40_5 w40_22))) (And.intro (And.intro (w40_23) (And.intro w40_21 w40_4)) (And.intro (And.intro w40_2 w40_0) (And.intro q40_ret q40_normal))))
/-! function 41: (*sindri/cursor.Cursor).next -/
noncomputable def c41_0 : Code := bodyOf Try.f41
noncomputable def c41_1 : Code := cl c41_0
theorem w41_1 : awp X n c41_1 Q ((a0::a1::a2::a3::a4::a5::a6::a7::a8::a9::b0::b1::b2::b3::b4::b5::b6::b7::b8::b9::d0::d1::d2::d3::d4::d5::d6::d7::d8::d9::e0::e1::e2::e3::e4::e5::e6::e7::e8::e9::f0::f1::f2::f3::f4::f5::f6::f7::f8::[]), h) = (a_mov (.v (.slice none 0 0)) h (.c (fun t4 h1 => Q .normal ((a0::a1::a2::a3::t4::a5::a6::a7::a8::a9::b0::b1::b2::b3::b4::b5::b6::b7::b8::b9::d0::d1::d2::d3::d4::d5::d6::d7::d8::d9::e0::e1::e2::e3::e4::e5::e6::e7::e8::e9::f0::f1::f2::f3::f4::f5::f6::f7::f8::[]), h1)) ())) := by rw [awp_eq]; kernel_rfl
noncomputable def c41_2 : Code := cr c41_0
noncomputable def c41_3 : Code := cl c41_2
noncomputable def c41_4 : Code := cl c41_3
theorem w41_4 : awp X n c41_4 Q ((a0::a1::a2::a3::a4::a5::a6::a7::a8::a9::b0::b1::b2::b3::b4::b5::b6::b7::b8::b9::d0::d1::d2::d3::d4::d5::d6::d7::d8::d9::e0::e1::e2::e3::e4::e5::e6::e7::e8::e9::f0::f1::f2::f3::f4::f5::f6::f7::f8::[]), h) = (a_mov a0 h (.c (fun t6 h1 => ACall X 28 [t6] h1 (.c (fun t7 h2 => a_bin .neq t7 (.v (.int .i64 0)) h2 (.c (fun t8 h3 => Q .normal ((a0::a1::a2::a3::a4::a5::t6::t7::t8::a9::b0::b1::b2::b3::b4::b5::b6::b7::b8::b9::d0::d1::d2::d3::d4::d5::d6::d7::d8::d9::e0::e1::e2::e3::e4::e5::e6::e7::e8::e9::f0::f1::f2::f3::f4::f5::f6::f7::f8::[]), h3)) ())) ())) ())) := by rw [awp_eq]; kernel_rfl
noncomputable def c41_5 : Code := cr c41_3
noncomputable def c41_6 : Code := cl c41_5
noncomputable def c41_7 : Code := cl c41_6
theorem w41_7 : awp X n c41_7 Q ((a0::a1::a2::a3::a4::a5::a6::a7::a8::a9::b0::b1::b2::b3::b4::b5::b6::b7::b8::b9::d0::d1::d2::d3::d4::d5::d6::d7::d8::d9::e0::e1::e2::e3::e4::e5::e6::e7::e8::e9::f0::f1::f2::f3::f4::f5::f6::f7::f8::[]), h) = (a_mov (.v (.slice none 0 0)) h (.c (fun t4 h1 => Q .normal ((a0::a1::a2::a3::t4::a5::a6::a7::a8::a9::b0::b1::b2::b3::b4::b5::b6::b7::b8::b9::d0::d1::d2::d3::d4::d5::d6::d7::d8::d9::e0::e1::e2::e3::e4::e5::e6::e7::e8::e9::f0::f1::f2::f3::f4::f5::f6::f7::f8::[]), h1)) ())) := by rw [awp_eq]; kernel_rfl
noncomputable def c41_8 : Code := cr c41_6
theorem w41_8 : awp X n c41_8 Q st = Q .ret st := by rw [awp_eq]; kernel_rfl
theorem w41_6 : awp X n c41_6 Q st = awp X n c41_7 (thenQ (awp X n c41_8 Q) Q) st := by rw [awp_eq]; kernel_rfl
noncomputable def c41_9 : Code := cr c41_5
theorem w41_9 : awp X n c41_9 Q st = Q .normal st := by rw [awp_eq]; kernel_rfl
theorem w41_5 : awp X n c41_5 Q ((a0::a1::a2::a3::a4::a5::a6::a7::a8::a9::b0::b1::b2::b3::b4::b5::b6::b7::b8::b9::d0::d1::d2::d3::d4::d5::d6::d7::d8::d9::e0::e1::e2::e3::e4::e5::e6::e7::e8::e9::f0::f1::f2::f3::f4::f5::f6::f7::f8::[]), h) = a_cond a8 (awp X n c41_6 Q ((a0::a1::a2::a3::a4::a5::a6::a7::a8::a9::b0::b1::b2::b3::b4::b5::b6::b7::b8::b9::d0::d1::d2::d3::d4::d5::d6::d7::d8::d9::e0::e1::e2::e3::e4::e5::e6::e7::e8::e9::f0::f1::f2::f3::f4::f5::f6::f7::f8::[]), h)) (awp X n c41_9 Q ((a0::a1::a2::a3::a4::a5::a6::a7::a8::a9::b0::b1::b2::b3::b4::b5::b6::b7::b8::b9::d0::d1::d2::d3::d4::d5::d6::d7::d8::d9::e0::e1::e2::e3::e4::e5::e6::e7::e8::e9::f0::f1::f2::f3::f4::f5::f6::f7::f8::[]), h)) := by rw [awp_eq]; kernel_rfl
theorem w41_3 : awp X n c41_3 Q st = awp X n c41_4 (thenQ (awp X n c41_5 Q) Q) st := by rw [awp_eq]; kernel_rfl
noncomputable def c41_10 : Code := cr c41_2
noncomputable def c41_11 : Code := cl c41_10
noncomputable def c41_12 : Code := cl c41_11
theorem w41_12 : awp X n c41_12 Q ((a0::a1::a2::a3::a4::a5::a6::a7::a8::a9::b0::b1::b2::b3::b4::b5::b6::b7::b8::b9::d0::d1::d2::d3::d4::d5::d6::d7::d8::d9::e0::e1::e2::e3::e4::e5::e6::e7::e8::e9::f0::f1::f2::f3::f4::f5::f6::f7::f8::[]), h) = (a_mov a1 h (.c (fun t9 h1 => a_mov a0 h1 (.c (fun t10 h2 => ACall X 33 [t10] h2 (.c (fun t11 h3 => a_cint .u64 t11 h3 (.c (fun t12 h4 => a_bin .gtr t9 t12 h4 (.c (fun t13 h5 => Q .normal ((a0::a1::a2::a3::a4::a5::a6::a7::a8::t9::t10::t11::t12::t13::b4::b5::b6::b7::b8::b9::d0::d1::d2::d3::d4::d5::d6::d7::d8::d9::e0::e1::e2::e3::e4::e5::e6::e7::e8::e9::f0::f1::f2::f3::f4::f5::f6::f7::f8::[]), h5)) ())) ())) ())) ())) ())) := by rw [awp_eq]; kernel_rfl
noncomputable def c41_13 : Code := cr c41_11
noncomputable def c41_14 : Code := cl c41_13
noncomputable def c41_15 : Code := cl c41_14
theorem w41_15 : awp X n c41_15 Q ((a0::a1::a2::a3::a4::a5::a6::a7::a8::a9::b0::b1::b2::b3::b4::b5::b6::b7::b8::b9::d0::d1::d2::d3::d4::d5::d6::d7::d8::d9::e0::e1::e2::e3::e4::e5::e6::e7::e8::e9::f0::f1::f2::f3::f4::f5::f6::f7::f8::[]), h) = (a_mov a0 h (.c (fun t14 h1 => ACall X 35 [t14, (.v (.int .i64 10))] h1 (.c (fun t15 h2 => Q .normal ((a0::a1::a2::a3::a4::a5::a6::a7::a8::a9::b0::b1::b2::b3::t14::t15::b6::b7::b8::b9::d0::d1::d2::d3::d4::d5::d6::d7::d8::d9::e0::e1::e2::e3::e4::e5::e6::e7::e8::e9::f0::f1::f2::f3::f4::f5::f6::f7::f8::[]), h2)) ())) ())) := by rw [awp_eq]; kernel_rfl
noncomputable def c41_16 : Code := cr c41_14
noncomputable def c41_17 : Code := cl c41_16
theorem w41_17 : awp X n c41_17 Q ((a0::a1::a2::a3::a4::a5::a6::a7::a8::a9::b0::b1::b2::b3::b4::b5::b6::b7::b8::b9::d0::d1::d2::d3::d4::d5::d6::d7::d8::d9::e0::e1::e2::e3::e4::e5::e6::e7::e8::e9::f0::f1::f2::f3::f4::f5::f6::f7::f8::[]), h) = (a_mov (.v (.slice none 0 0)) h (.c (fun t4 h1 => Q .normal ((a0::a1::a2::a3::t4::a5::a6::a7::a8::a9::b0::b1::b2::b3::b4::b5::b6::b7::b8::b9::d0::d1::d2::d3::d4::d5::d6::d7::d8::d9::e0::e1::e2::e3::e4::e5::e6::e7::e8::e9::f0::f1::f2::f3::f4::f5::f6::f7::f8::[]), h1)) ())) := by rw [awp_eq]; kernel_rfl
noncomputable def c41_18 : Code := cr c41_16
theorem w41_18 : awp X n c41_18 Q st = Q .ret st := by rw [awp_eq]; kernel_rfl
theorem w41_16 : awp X n c41_16 Q st = awp X n c41_17 (thenQ (awp X n c41_18 Q) Q) st := by rw [awp_eq]; kernel_rfl
theorem w41_14 : awp X n c41_14 Q st = awp X n c41_15 (thenQ (awp X n c41_16 Q) Q) st := by rw [awp_eq]; kernel_rfl
noncomputable def c41_19 : Code := cr c41_13
theorem w41_19 : awp X n c41_19 Q st = Q .normal st := by rw [awp_eq]; kernel_rfl
theorem w41_13 : awp X n c41_13 Q ((a0::a1::a2::a3::a4::a5::a6::a7::a8::a9::b0::b1::b2::b3::b4::b5::b6::b7::b8::b9::d0::d1::d2::d3::d4::d5::d6::d7::d8::d9::e0::e1::e2::e3::e4::e5::e6::e7::e8::e9::f0::f1::f2::f3::f4::f5::f6::f7::f8::[]), h) = a_cond b3 (awp X n c41_14 Q ((a0::a1::a2::a3::a4::a5::a6::a7::a8::a9::b0::b1::b2::b3::b4::b5::b6::b7::b8::b9::d0::d1::d2::d3::d4::d5::d6::d7::d8::d9::e0::e1::e2::e3::e4::e5::e6::e7::e8::e9::f0::f1::f2::f3::f4::f5::f6::f7::f8::[]), h)) (awp X n c41_19 Q ((a0::a1::a2::a3::a4::a5::a6::a7::a8::a9::b0::b1::b2::b3::b4::b5::b6::b7::b8::b9::d0::d1::d2::d3::d4::d5::d6::d7::d8::d9::e0::e1::e2::e3::e4::e5::e6::e7::e8::e9::f0::f1::f2::f3::f4::f5::f6::f7::f8::[]), h)) := by rw [awp_eq]; kernel_rfl
theorem w41_11 : awp X n c41_11 Q st = awp X n c41_12 (thenQ (awp X n c41_13 Q) Q) st := by rw [awp_eq]; kernel_rfl
noncomputable def c41_20 : Code := cr c41_10
noncomputable def c41_21 : Code := cl c41_20
theorem w41_21 : awp X n c41_21 Q ((a0::a1::a2::a3::a4::a5::a6::a7::a8::a9::b0::b1::b2::b3::b4::b5::b6::b7::b8::b9::d0::d1::d2::d3::d4::d5::d6::d7::d8::d9::e0::e1::e2::e3::e4::e5::e6::e7::e8::e9::f0::f1::f2::f3::f4::f5::f6::f7::f8::[]), h) = (a_mov a0 h (.c (fun t16 h1 => a_nilc t16 h1 (.c (fun t17 h2 => a_fa 0 t17 h2 (.c (fun t18 h3 => a_load 1 false t18 h3 (.c (fun t19 h4 => a_mov a0 h4 (.c (fun t20 h5 => a_nilc t20 h5 (.c (fun t21 h6 => a_fa 1 t21 h6 (.c (fun t22 h7 => a_load 1 false t22 h7 (.c (fun t23 h8 => a_mov a0 h8 (.c (fun t24 h9 => a_nilc t24 h9 (.c (fun t25 h10 => a_fa 1 t25 h10 (.c (fun t26 h11 => a_load 1 false t26 h11 (.c (fun t27 h12 => a_mov a1 h12 (.c (fun t28 h13 => a_cint .i64 t28 h13 (.c (fun t29 h14 => a_bin .add t27 t29 h14 (.c (fun t30 h15 => a_mov a0 h15 (.c (fun t31 h16 => a_nilc t31 h16 (.c (fun t32 h17 => a_fa 1 t32 h17 (.c (fun t33 h18 => a_load 1 false t33 h18 (.c (fun t34 h19 => a_mov a1 h19 (.c (fun t35 h20 => a_cint .i64 t35 h20 (.c (fun t36 h21 => a_bin .add t34 t36 h21 (.c (fun t37 h22 => a_slice 1 t19 (some t23) (some t30) (some t37) h22 (.c (fun t38 h23 => a_mov t38 h23 (.c (fun t5 h24 => Q .normal ((a0::a1::a2::a3::a4::t5::a6::a7::a8::a9::b0::b1::b2::b3::b4::b5::t16::t17::t18::t19::t20::t21::t22::t23::t24::t25::t26::t27::t28::t29::t30::t31::t32::t33::t34::t35::t36::t37::t38::e9::f0::f1::f2::f3::f4::f5::f6::f7::f8::[]), h24)) ())) ())) ())) ())) ())) ())) ())) ())) ())) ())) ())) ())) ())) ())) ())) ())) ())) ())) ())) ())) ())) ())) ())) ())) := by rw [awp_eq]; kernel_rfl
noncomputable def c41_22 : Code := cr c41_20
noncomputable def c41_23 : Code := cl c41_22
theorem w41_23 : awp X n c41_23 Q ((a0::a1::a2::a3::a4::a5::a6::a7::a8::a9::b0::b1::b2::b3::b4::b5::b6::b7::b8::b9::d0::d1::d2::d3::d4::d5::d6::d7::d8::d9::e0::e1::e2::e3::e4::e5::e6::e7::e8::e9::f0::f1::f2::f3::f4::f5::f6::f7::f8::[]), h) = (a_mov a0 h (.c (fun t39 h1 => a_nilc t39 h1 (.c (fun t40 h2 => a_fa 1 t40 h2 (.c (fun t41 h3 => a_load 1 false t41 h3 (.c (fun t42 h4 => a_mov a1 h4 (.c (fun t43 h5 => a_cint .i64 t43 h5 (.c (fun t44 h6 => a_bin .add t42 t44 h6 (.c (fun t45 h7 => a_nilc t39 h7 (.c (fun t46 h8 => a_fa 1 t46 h8 (.c (fun t47 h9 => a_store 1 t47 t45 h9 (.c (fun _v9 h10 => Q .normal ((a0::a1::a2::a3::a4::a5::a6::a7::a8::a9::b0::b1::b2::b3::b4::b5::b6::b7::b8::b9::d0::d1::d2::d3::d4::d5::d6::d7::d8::d9::e0::e1::e2::e3::e4::e5::e6::e7::e8::t39::t40::t41::t42::t43::t44::t45::t46::t47::f8::[]), h10)) ())) ())) ())) ())) ())) ())) ())) ())) ())) ())) := by rw [awp_eq]; kernel_rfl
noncomputable def c41_24 : Code := cr c41_22
noncomputable def c41_25 : Code := cl c41_24
theorem w41_25 : awp X n c41_25 Q ((a0::a1::a2::a3::a4::a5::a6::a7::a8::a9::b0::b1::b2::b3::b4::b5::b6::b7::b8::b9::d0::d1::d2::d3::d4::d5::d6::d7::d8::d9::e0::e1::e2::e3::e4::e5::e6::e7::e8::e9::f0::f1::f2::f3::f4::f5::f6::f7::f8::[]), h) = (a_mov a5 h (.c (fun t48 h1 => a_mov t48 h1 (.c (fun t4 h2 => Q .normal ((a0::a1::a2::a3::t4::a5::a6::a7::a8::a9::b0::b1::b2::b3::b4::b5::b6::b7::b8::b9::d0::d1::d2::d3::d4::d5::d6::d7::d8::d9::e0::e1::e2::e3::e4::e5::e6::e7::e8::e9::f0::f1::f2::f3::f4::f5::f6::f7::t48::[]), h2)) ())) ())) := by rw [awp_eq]; kernel_rfl
noncomputable def c41_26 : Code := cr c41_24
theorem w41_26 : awp X n c41_26 Q st = Q .ret st := by rw [awp_eq]; kernel_rfl
theorem w41_24 : awp X n c41_24 Q st = awp X n c41_25 (thenQ (awp X n c41_26 Q) Q) st := by rw [awp_eq]; kernel_rfl
theorem w41_22 : awp X n c41_22 Q st = awp X n c41_23 (thenQ (awp X n c41_24 Q) Q) st := by rw [awp_eq]; kernel_rfl
theorem w41_20 : awp X n c41_20 Q st = awp X n c41_21 (thenQ (awp X n c41_22 Q) Q) st := by rw [awp_eq]; kernel_rfl
theorem w41_10 : awp X n c41_10 Q st = awp X n c41_11 (thenQ (awp X n c41_20 Q) Q) st := by rw [awp_eq]; kernel_rfl
theorem w41_2 : awp X n c41_2 Q st = awp X n c41_3 (thenQ (awp X n c41_10 Q) Q) st := by rw [awp_eq]; kernel_rfl
theorem w41_0 : awp X n c41_0 Q st = awp X n c41_1 (thenQ (awp X n c41_2 Q) Q) st := by rw [awp_eq]; kernel_rfl
theorem q41_ret : retQ X Try.f41 K .ret ((a0::a1::a2::a3::a4::a5::a6::a7::a8::a9::b0::b1::b2::b3::b4::b5::b6::b7::b8::b9::d0::d1::d2::d3::d4::d5::d6::d7::d8::d9::e0::e1::e2::e3::e4::e5::e6::e7::e8::e9::f0::f1::f2::f3::f4::f5::f6::f7::f8::[]), h) = (K.K a4 h) := by kernel_rfl
theorem q41_normal : retQ X Try.f41 K .normal ((a0::a1::a2::a3::a4::a5::a6::a7::a8::a9::b0::b1::b2::b3::b4::b5::b6::b7::b8::b9::d0::d1::d2::d3::d4::d5::d6::d7::d8::d9::e0::e1::e2::e3::e4::e5::e6::e7::e8::e9::f0::f1::f2::f3::f4::f5::f6::f7::f8::[]), h) = (K.K a4 h) := by kernel_rfl
theorem i41 (H : awp X h.length c41_0 (retQ X Try.f41 K) ((a0::a1::.bad::.bad::.bad::.bad::.bad::.bad::.bad::.bad::.bad::.bad::.bad::.bad::.bad::.bad::.bad::.bad::.bad::.bad::.bad::.bad::.bad::.bad::.bad::.bad::.bad::.bad::.bad::.bad::.bad::.bad::.bad::.bad::.bad::.bad::.bad::.bad::.bad::.bad::.bad::.bad::.bad::.bad::.bad::.bad::.bad::.bad::.bad::[]), h)) : ACall X 41 [a0, a1] h K := acall_intro (fn := Try.f41) (by kernel_rfl) (by kernel_rfl) (by kernel_rfl) H
noncomputable def R41 := And.intro (And.intro (And.intro (And.intro (w41_1) (And.intro w41_4 w41_7)) (And.intro (And.intro w41_8 w41_6) (And.intro w41_9 w41_5))) (And.intro (And.intro (w41_3) (And.intro w41_12 w41_15)) (And.intro (And.intro w41_17 w41_18) (And.intro w41_16 w41_14)))) (And.intro (And.intro (And.intro (w41_19) (And.intro w41_13 w41_11)) (And.intro (And.intro w41_21 w41_23) (And.intro w41_25 w41_26))) (And.intro (And.intro (And.intro w41_24 w41_22) (And.intro w41_20 w41_10)) (And.intro (And.intro w41_2 w41_0) (And.intro q41_ret q41_normal))))
/-! function 42: sindri/cursor.width -/
noncomputable def c42_0 : Code := bodyOf Try.f42
noncomputable def c42_1 : Code := cl c42_0
theorem w42_1 : awp X n c42_1 Q ([a0,a1,a2,a3,a4,a5], h) = (a_mov (.v (.int .i64 0)) h (.c (fun t2 h1 => Q .normal ([a0,a1,t2,a3,a4,a5], h1)) ())) := by rw [awp_eq]; kernel_rfl
noncomputable def c42_2 : Code := cr c42_0
noncomputable def c42_3 : Code := cl c42_2
theorem w42_3 : awp X n c42_3 Q ([a0,a1,a2,a3,a4,a5], h) = (a_mov a0 h (.c (fun t3 h1 => a_max [t3, (.v (.int .i64 0))] h1 (.c (fun t4 h2 => a_min [t4, (.v (.int .i64 8))] h2 (.c (fun t5 h3 => a_mov t5 h3 (.c (fun t2 h4 => Q .normal ([a0,a1,t2,t3,t4,t5], h4)) ())) ())) ())) ())) := by rw [awp_eq]; kernel_rfl
noncomputable def c42_4 : Code := cr c42_2
theorem w42_4 : awp X n c42_4 Q st = Q .ret st := by rw [awp_eq]; kernel_rfl
theorem w42_2 : awp X n c42_2 Q st = awp X n c42_3 (thenQ (awp X n c42_4 Q) Q) st := by rw [awp_eq]; kernel_rfl
theorem w42_0 : awp X n c42_0 Q st = awp X n c42_1 (thenQ (awp X n c42_2 Q) Q) st := by rw [awp_eq]; kernel_rfl
theorem q42_ret : retQ X Try.f42 K .ret ([a0,a1,a2,a3,a4,a5], h) = (K.K a2 h) := by kernel_rfl
theorem q42_normal : retQ X Try.f42 K .normal ([a0,a1,a2,a3,a4,a5], h) = (K.K a2 h) := by kernel_rfl
theorem i42 (H : awp X h.length c42_0 (retQ X Try.f42 K) ([a0,.bad,.bad,.bad,.bad,.bad], h)) : ACall X 42 [a0] h K := acall_intro (fn := Try.f42) (by kernel_rfl) (by kernel_rfl) (by kernel_rfl) H
noncomputable def R42 := And.intro (And.intro (w42_1) (And.intro w42_3 w42_4)) (And.intro (And.intro w42_2 w42_0) (And.intro q42_ret q42_normal))
end Go.Proofs.Ytgpddpdhkhfdjaa
