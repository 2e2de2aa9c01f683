import Derived.Test.YtgpddpdhkhfdjaaEnv
set_option linter.unusedVariables false
set_option linter.defProp false
set_option maxRecDepth 100000
namespace Go.Proofs.Ytgpddpdhkhfdjaa
open Go.Ab
variable (n : Nat) (h : Heap) (Q : Qt) (st : St) (K : Kt) (a0 a1 a2 a3 a4 a5 a6 a7 a8 a9 b0 b1 b2 b3 b4 b5 b6 b7 b8 b9 d0 d1 d2 d3 d4 d5 d6 d7 d8 d9 e0 e1 e2 e3 e4 e5 e6 e7 e8 e9 f0 f1 f2 f3 f4 f5 f6 f7 f8 f9 g0 g1 g2 g3 g4 g5 g6 g7 g8 g9 j0 j1 j2 j3 j4 j5 j6 j7 j8 j9 : AV)
/-! function 18: sindri/cstr.Right -/
noncomputable def c18_0 : Code := bodyOf Try.f18
noncomputable def c18_1 : Code := cl c18_0
theorem w18_1 : awp X n c18_1 Q ((a0::a1::a2::a3::a4::a5::a6::a7::a8::a9::b0::[]), h) = (a_mov (.v (.bool false)) h (.c (fun t2 h1 => Q .normal ((a0::a1::t2::a3::a4::a5::a6::a7::a8::a9::b0::[]), h1)) ())) := by rw [awp_eq]; kernel_rfl
noncomputable def c18_2 : Code := cr c18_0
noncomputable def c18_3 : Code := cl c18_2
theorem w18_3 : awp X n c18_3 Q ((a0::a1::a2::a3::a4::a5::a6::a7::a8::a9::b0::[]), h) = (a_mov a0 h (.c (fun t3 h1 => ACall X 25 [t3, (.v (.int .u8 0))] h1 (.c (fun t4 h2 => a_bin .lss t4 (.v (.int .i64 0)) h2 (.c (fun t5 h3 => a_mov t5 h3 (.c (fun t6 h4 => a_on t6 true (fun k => a_mov a0 h4 k) h4 (.c (fun t7 h5 => a_on t6 true (fun k => a_lens t7 h5 k) h5 (.c (fun t8 h6 => a_on t6 true (fun k => a_bin .leq t8 (.v (.int .i64 200)) h6 k) h6 (.c (fun t9 h7 => a_pick t6 t9 (.v (.bool false)) h7 (.c (fun t10 h8 => a_mov t10 h8 (.c (fun t2 h9 => Q .normal ((a0::a1::t2::t3::t4::t5::t6::t7::t8::t9::t10::[]), h9)) ())) ())) ())) ())) ())) ())) ())) ())) ())) := by rw [awp_eq]; kernel_rfl
noncomputable def c18_4 : Code := cr c18_2
theorem w18_4 : awp X n c18_4 Q st = Q .ret st := by rw [awp_eq]; kernel_rfl
theorem w18_2 : awp X n c18_2 Q st = awp X n c18_3 (thenQ (awp X n c18_4 Q) Q) st := by rw [awp_eq]; kernel_rfl
theorem w18_0 : awp X n c18_0 Q st = awp X n c18_1 (thenQ (awp X n c18_2 Q) Q) st := by rw [awp_eq]; kernel_rfl
theorem q18_ret : retQ X Try.f18 K .ret ((a0::a1::a2::a3::a4::a5::a6::a7::a8::a9::b0::[]), h) = (K.K a2 h) := by kernel_rfl
theorem q18_normal : retQ X Try.f18 K .normal ((a0::a1::a2::a3::a4::a5::a6::a7::a8::a9::b0::[]), h) = (K.K a2 h) := by kernel_rfl
theorem i18 (H : awp X h.length c18_0 (retQ X Try.f18 K) ((a0::.bad::.bad::.bad::.bad::.bad::.bad::.bad::.bad::.bad::.bad::[]), h)) : ACall X 18 [a0] h K := acall_intro (fn := Try.f18) (by kernel_rfl) (by kernel_rfl) (by kernel_rfl) H
noncomputable def R18 := And.intro (And.intro (w18_1) (And.intro w18_3 w18_4)) (And.intro (And.intro w18_2 w18_0) (And.intro q18_ret q18_normal))
/-! function 19: sindri/cstr.At -/
noncomputable def c19_0 : Code := bodyOf Try.f19
noncomputable def c19_1 : Code := cl c19_0
theorem w19_1 : awp X n c19_1 Q ((a0::a1::a2::a3::a4::a5::a6::a7::a8::a9::b0::b1::b2::b3::b4::b5::b6::b7::b8::b9::d0::d1::[]), h) = (a_mov (.v (.string ⟨#[]⟩)) h (.c (fun t4 h1 => a_mov (.v (.int .i64 0)) h1 (.c (fun t5 h2 => Q .normal ((a0::a1::a2::a3::t4::t5::a6::a7::a8::a9::b0::b1::b2::b3::b4::b5::b6::b7::b8::b9::d0::d1::[]), h2)) ())) ())) := by rw [awp_eq]; kernel_rfl
noncomputable def c19_2 : Code := cr c19_0
noncomputable def c19_3 : Code := cl c19_2
noncomputable def c19_4 : Code := cl c19_3
theorem w19_4 : awp X n c19_4 Q ((a0::a1::a2::a3::a4::a5::a6::a7::a8::a9::b0::b1::b2::b3::b4::b5::b6::b7::b8::b9::d0::d1::[]), h) = (a_mov a1 h (.c (fun t8 h1 => a_mov a0 h1 (.c (fun t9 h2 => a_len t9 h2 (.c (fun t10 h3 => a_cint .u64 t10 h3 (.c (fun t11 h4 => a_bin .geq t8 t11 h4 (.c (fun t12 h5 => Q .normal ((a0::a1::a2::a3::a4::a5::a6::a7::t8::t9::t10::t11::t12::b3::b4::b5::b6::b7::b8::b9::d0::d1::[]), h5)) ())) ())) ())) ())) ())) := by rw [awp_eq]; kernel_rfl
noncomputable def c19_5 : Code := cr c19_3
noncomputable def c19_6 : Code := cl c19_5
noncomputable def c19_7 : Code := cl c19_6
theorem w19_7 : awp X n c19_7 Q ((a0::a1::a2::a3::a4::a5::a6::a7::a8::a9::b0::b1::b2::b3::b4::b5::b6::b7::b8::b9::d0::d1::[]), h) = (a_mov (.v (.string ⟨#[]⟩)) h (.c (fun t4 h1 => a_mov (.v (.int .i64 10)) h1 (.c (fun t5 h2 => Q .normal ((a0::a1::a2::a3::t4::t5::a6::a7::a8::a9::b0::b1::b2::b3::b4::b5::b6::b7::b8::b9::d0::d1::[]), h2)) ())) ())) := by rw [awp_eq]; kernel_rfl
noncomputable def c19_8 : Code := cr c19_6
theorem w19_8 : awp X n c19_8 Q st = Q .ret st := by rw [awp_eq]; kernel_rfl
theorem w19_6 : awp X n c19_6 Q st = awp X n c19_7 (thenQ (awp X n c19_8 Q) Q) st := by rw [awp_eq]; kernel_rfl
noncomputable def c19_9 : Code := cr c19_5
theorem w19_9 : awp X n c19_9 Q st = Q .normal st := by rw [awp_eq]; kernel_rfl
theorem w19_5 : awp X n c19_5 Q ((a0::a1::a2::a3::a4::a5::a6::a7::a8::a9::b0::b1::b2::b3::b4::b5::b6::b7::b8::b9::d0::d1::[]), h) = a_cond b2 (awp X n c19_6 Q ((a0::a1::a2::a3::a4::a5::a6::a7::a8::a9::b0::b1::b2::b3::b4::b5::b6::b7::b8::b9::d0::d1::[]), h)) (awp X n c19_9 Q ((a0::a1::a2::a3::a4::a5::a6::a7::a8::a9::b0::b1::b2::b3::b4::b5::b6::b7::b8::b9::d0::d1::[]), h)) := by rw [awp_eq]; kernel_rfl
theorem w19_3 : awp X n c19_3 Q st = awp X n c19_4 (thenQ (awp X n c19_5 Q) Q) st := by rw [awp_eq]; kernel_rfl
noncomputable def c19_10 : Code := cr c19_2
noncomputable def c19_11 : Code := cl c19_10
theorem w19_11 : awp X n c19_11 Q ((a0::a1::a2::a3::a4::a5::a6::a7::a8::a9::b0::b1::b2::b3::b4::b5::b6::b7::b8::b9::d0::d1::[]), h) = (a_mov a0 h (.c (fun t13 h1 => a_mov a1 h1 (.c (fun t14 h2 => a_slice 1 t13 (some t14) none none h2 (.c (fun t15 h3 => ACall X 26 [t15] h3 (.c (fun t16 h4 => a_mov t16 h4 (.c (fun t6 h5 => Q .normal ((a0::a1::a2::a3::a4::a5::t6::a7::a8::a9::b0::b1::b2::t13::t14::t15::t16::b7::b8::b9::d0::d1::[]), h5)) ())) ())) ())) ())) ())) := by rw [awp_eq]; kernel_rfl
noncomputable def c19_12 : Code := cr c19_10
noncomputable def c19_13 : Code := cl c19_12
theorem w19_13 : awp X n c19_13 Q ((a0::a1::a2::a3::a4::a5::a6::a7::a8::a9::b0::b1::b2::b3::b4::b5::b6::b7::b8::b9::d0::d1::[]), h) = (a_mov a6 h (.c (fun t17 h1 => ACall X 27 [t17] h1 (.c (fun t18 h2 => a_mov t18 h2 (.c (fun t7 h3 => Q .normal ((a0::a1::a2::a3::a4::a5::a6::t7::a8::a9::b0::b1::b2::b3::b4::b5::b6::t17::t18::b9::d0::d1::[]), h3)) ())) ())) ())) := by rw [awp_eq]; kernel_rfl
noncomputable def c19_14 : Code := cr c19_12
noncomputable def c19_15 : Code := cl c19_14
theorem w19_15 : awp X n c19_15 Q ((a0::a1::a2::a3::a4::a5::a6::a7::a8::a9::b0::b1::b2::b3::b4::b5::b6::b7::b8::b9::d0::d1::[]), h) = (a_mov a7 h (.c (fun t19 h1 => a_mov a6 h1 (.c (fun t20 h2 => ACall X 28 [t20] h2 (.c (fun t21 h3 => a_mov t19 h3 (.c (fun t4 h4 => a_mov t21 h4 (.c (fun t5 h5 => Q .normal ((a0::a1::a2::a3::t4::t5::a6::a7::a8::a9::b0::b1::b2::b3::b4::b5::b6::b7::b8::t19::t20::t21::[]), h5)) ())) ())) ())) ())) ())) := by rw [awp_eq]; kernel_rfl
noncomputable def c19_16 : Code := cr c19_14
theorem w19_16 : awp X n c19_16 Q st = Q .ret st := by rw [awp_eq]; kernel_rfl
theorem w19_14 : awp X n c19_14 Q st = awp X n c19_15 (thenQ (awp X n c19_16 Q) Q) st := by rw [awp_eq]; kernel_rfl
theorem w19_12 : awp X n c19_12 Q st = awp X n c19_13 (thenQ (awp X n c19_14 Q) Q) st := by rw [awp_eq]; kernel_rfl
theorem w19_10 : awp X n c19_10 Q st = awp X n c19_11 (thenQ (awp X n c19_12 Q) Q) st := by rw [awp_eq]; kernel_rfl
theorem w19_2 : awp X n c19_2 Q st = awp X n c19_3 (thenQ (awp X n c19_10 Q) Q) st := by rw [awp_eq]; kernel_rfl
theorem w19_0 : awp X n c19_0 Q st = awp X n c19_1 (thenQ (awp X n c19_2 Q) Q) st := by rw [awp_eq]; kernel_rfl
theorem q19_ret : retQ X Try.f19 K .ret ((a0::a1::a2::a3::a4::a5::a6::a7::a8::a9::b0::b1::b2::b3::b4::b5::b6::b7::b8::b9::d0::d1::[]), h) = (K.K (.t [a4, a5]) h) := by kernel_rfl
theorem q19_normal : retQ X Try.f19 K .normal ((a0::a1::a2::a3::a4::a5::a6::a7::a8::a9::b0::b1::b2::b3::b4::b5::b6::b7::b8::b9::d0::d1::[]), h) = (K.K (.t [a4, a5]) h) := by kernel_rfl
theorem i19 (H : awp X h.length c19_0 (retQ X Try.f19 K) ((a0::a1::.bad::.bad::.bad::.bad::.bad::.bad::.bad::.bad::.bad::.bad::.bad::.bad::.bad::.bad::.bad::.bad::.bad::.bad::.bad::.bad::[]), h)) : ACall X 19 [a0, a1] h K := acall_intro (fn := Try.f19) (by kernel_rfl) (by kernel_rfl) (by kernel_rfl) H
noncomputable def R19 := And.intro (And.intro (And.intro (And.intro w19_1 w19_4) (And.intro w19_7 w19_8)) (And.intro (And.intro w19_6 w19_9) (And.intro (w19_5) (And.intro w19_3 w19_11)))) (And.intro (And.intro (And.intro w19_13 w19_15) (And.intro (w19_16) (And.intro w19_14 w19_12))) (And.intro (And.intro w19_10 w19_2) (And.intro (w19_0) (And.intro q19_ret q19_normal))))
/-! function 20: sindri/cstr.Put -/
noncomputable def c20_0 : Code := bodyOf Try.f20
noncomputable def c20_1 : Code := cl c20_0
theorem w20_1 : awp X n c20_1 Q ((a0::a1::a2::a3::a4::a5::a6::a7::a8::a9::b0::b1::b2::b3::b4::b5::b6::b7::[]), h) = (a_mov (.v (.slice none 0 0)) h (.c (fun t4 h1 => Q .normal ((a0::a1::a2::a3::t4::a5::a6::a7::a8::a9::b0::b1::b2::b3::b4::b5::b6::b7::[]), h1)) ())) := by rw [awp_eq]; kernel_rfl
noncomputable def c20_2 : Code := cr c20_0
noncomputable def c20_3 : Code := cl c20_2
noncomputable def c20_4 : Code := cl c20_3
theorem w20_4 : awp X n c20_4 Q ((a0::a1::a2::a3::a4::a5::a6::a7::a8::a9::b0::b1::b2::b3::b4::b5::b6::b7::[]), h) = (a_mov a1 h (.c (fun t6 h1 => ACall X 25 [t6, (.v (.int .u8 0))] h1 (.c (fun t7 h2 => a_mov t7 h2 (.c (fun t5 h3 => Q .normal ((a0::a1::a2::a3::a4::t5::t6::t7::a8::a9::b0::b1::b2::b3::b4::b5::b6::b7::[]), h3)) ())) ())) ())) := by rw [awp_eq]; kernel_rfl
noncomputable def c20_5 : Code := cr c20_3
noncomputable def c20_6 : Code := cl c20_5
theorem w20_6 : awp X n c20_6 Q ((a0::a1::a2::a3::a4::a5::a6::a7::a8::a9::b0::b1::b2::b3::b4::b5::b6::b7::[]), h) = (a_mov a5 h (.c (fun t8 h1 => a_bin .geq t8 (.v (.int .i64 0)) h1 (.c (fun t9 h2 => Q .normal ((a0::a1::a2::a3::a4::a5::a6::a7::t8::t9::b0::b1::b2::b3::b4::b5::b6::b7::[]), h2)) ())) ())) := by rw [awp_eq]; kernel_rfl
noncomputable def c20_7 : Code := cr c20_5
noncomputable def c20_8 : Code := cl c20_7
theorem w20_8 : awp X n c20_8 Q ((a0::a1::a2::a3::a4::a5::a6::a7::a8::a9::b0::b1::b2::b3::b4::b5::b6::b7::[]), h) = (a_mov a1 h (.c (fun t10 h1 => a_mov a5 h1 (.c (fun t11 h2 => a_sstr t10 none (some t11) h2 (.c (fun t12 h3 => a_mov t12 h3 (.c (fun t1 h4 => Q .normal ((a0::t1::a2::a3::a4::a5::a6::a7::a8::a9::t10::t11::t12::b3::b4::b5::b6::b7::[]), h4)) ())) ())) ())) ())) := by rw [awp_eq]; kernel_rfl
noncomputable def c20_9 : Code := cr c20_7
theorem w20_9 : awp X n c20_9 Q st = Q .normal st := by rw [awp_eq]; kernel_rfl
theorem w20_7 : awp X n c20_7 Q ((a0::a1::a2::a3::a4::a5::a6::a7::a8::a9::b0::b1::b2::b3::b4::b5::b6::b7::[]), h) = a_cond a9 (awp X n c20_8 Q ((a0::a1::a2::a3::a4::a5::a6::a7::a8::a9::b0::b1::b2::b3::b4::b5::b6::b7::[]), h)) (awp X n c20_9 Q ((a0::a1::a2::a3::a4::a5::a6::a7::a8::a9::b0::b1::b2::b3::b4::b5::b6::b7::[]), h)) := by rw [awp_eq]; kernel_rfl
theorem w20_5 : awp X n c20_5 Q st = awp X n c20_6 (thenQ (awp X n c20_7 Q) Q) st := by rw [awp_eq]; kernel_rfl
theorem w20_3 : awp X n c20_3 Q st = awp X n c20_4 (thenQ (awp X n c20_5 Q) Q) st := by rw [awp_eq]; kernel_rfl
noncomputable def c20_10 : Code := cr c20_2
noncomputable def c20_11 : Code := cl c20_10
theorem w20_11 : awp X n c20_11 Q ((a0::a1::a2::a3::a4::a5::a6::a7::a8::a9::b0::b1::b2::b3::b4::b5::b6::b7::[]), h) = (a_mov a0 h (.c (fun t13 h1 => a_mov a1 h1 (.c (fun t14 h2 => a_app 1 1 t13 t14 h2 (.c (fun t15 h3 => a_lit 1 1 [.v (.int .u8 0)] [(0, 1, (.v (.int .u8 0)))] h3 (.c (fun t16 h4 => a_app 1 1 t15 t16 h4 (.c (fun t17 h5 => a_mov t17 h5 (.c (fun t4 h6 => Q .normal ((a0::a1::a2::a3::t4::a5::a6::a7::a8::a9::b0::b1::b2::t13::t14::t15::t16::t17::[]), h6)) ())) ())) ())) ())) ())) ())) := by rw [awp_eq]; kernel_rfl
noncomputable def c20_12 : Code := cr c20_10
theorem w20_12 : awp X n c20_12 Q st = Q .ret st := by rw [awp_eq]; kernel_rfl
theorem w20_10 : awp X n c20_10 Q st = awp X n c20_11 (thenQ (awp X n c20_12 Q) Q) st := by rw [awp_eq]; kernel_rfl
theorem w20_2 : awp X n c20_2 Q st = awp X n c20_3 (thenQ (awp X n c20_10 Q) Q) st := by rw [awp_eq]; kernel_rfl
theorem w20_0 : awp X n c20_0 Q st = awp X n c20_1 (thenQ (awp X n c20_2 Q) Q) st := by rw [awp_eq]; kernel_rfl
theorem q20_ret : retQ X Try.f20 K .ret ((a0::a1::a2::a3::a4::a5::a6::a7::a8::a9::b0::b1::b2::b3::b4::b5::b6::b7::[]), h) = (K.K a4 h) := by kernel_rfl
theorem q20_normal : retQ X Try.f20 K .normal ((a0::a1::a2::a3::a4::a5::a6::a7::a8::a9::b0::b1::b2::b3::b4::b5::b6::b7::[]), h) = (K.K a4 h) := by kernel_rfl
theorem i20 (H : awp X h.length c20_0 (retQ X Try.f20 K) ((a0::a1::.bad::.bad::.bad::.bad::.bad::.bad::.bad::.bad::.bad::.bad::.bad::.bad::.bad::.bad::.bad::.bad::[]), h)) : ACall X 20 [a0, a1] h K := acall_intro (fn := Try.f20) (by kernel_rfl) (by kernel_rfl) (by kernel_rfl) H
noncomputable def R20 := And.intro (And.intro (And.intro (w20_1) (And.intro w20_4 w20_6)) (And.intro (And.intro w20_8 w20_9) (And.intro w20_7 w20_5))) (And.intro (And.intro (And.intro w20_3 w20_11) (And.intro w20_12 w20_10)) (And.intro (And.intro w20_2 w20_0) (And.intro q20_ret q20_normal)))
/-! function 21: sindri/sindriref03.Right -/
noncomputable def c21_0 : Code := bodyOf Try.f21
noncomputable def c21_1 : Code := cl c21_0
theorem w21_1 : awp X n c21_1 Q ((a0::a1::a2::a3::a4::a5::a6::a7::a8::a9::b0::b1::b2::b3::b4::b5::b6::[]), h) = (a_mov (.v (.bool false)) h (.c (fun t2 h1 => Q .normal ((a0::a1::t2::a3::a4::a5::a6::a7::a8::a9::b0::b1::b2::b3::b4::b5::b6::[]), h1)) ())) := by rw [awp_eq]; kernel_rfl
noncomputable def c21_2 : Code := cr c21_0
noncomputable def c21_3 : Code := cl c21_2
noncomputable def c21_4 : Code := cl c21_3
theorem w21_4 : awp X n c21_4 Q ((a0::a1::a2::a3::a4::a5::a6::a7::a8::a9::b0::b1::b2::b3::b4::b5::b6::[]), h) = (a_mov (.v (.int .i64 0)) h (.c (fun t3 h1 => Q .normal ((a0::a1::a2::t3::a4::a5::a6::a7::a8::a9::b0::b1::b2::b3::b4::b5::b6::[]), h1)) ())) := by rw [awp_eq]; kernel_rfl
noncomputable def c21_5 : Code := cr c21_3
noncomputable def c21_6 : Code := cl c21_5
noncomputable def c21_7 : Code := cl c21_6
noncomputable def c21_8 : Code := cl c21_7
noncomputable def c21_9 : Code := cl c21_8
theorem w21_9 : awp X n c21_9 Q ((a0::a1::a2::a3::a4::a5::a6::a7::a8::a9::b0::b1::b2::b3::b4::b5::b6::[]), h) = (a_mov a3 h (.c (fun t4 h1 => a_mov a0 h1 (.c (fun t5 h2 => a_lens t5 h2 (.c (fun t6 h3 => a_bin .lss t4 t6 h3 (.c (fun t7 h4 => Q .normal ((a0::a1::a2::a3::t4::t5::t6::t7::a8::a9::b0::b1::b2::b3::b4::b5::b6::[]), h4)) ())) ())) ())) ())) := by rw [awp_eq]; kernel_rfl
noncomputable def c21_10 : Code := cr c21_8
noncomputable def c21_11 : Code := cl c21_10
theorem w21_11 : awp X n c21_11 Q st = Q .normal st := by rw [awp_eq]; kernel_rfl
noncomputable def c21_12 : Code := cr c21_10
theorem w21_12 : awp X n c21_12 Q st = Q (.exit 0) st := by rw [awp_eq]; kernel_rfl
theorem w21_10 : awp X n c21_10 Q ((a0::a1::a2::a3::a4::a5::a6::a7::a8::a9::b0::b1::b2::b3::b4::b5::b6::[]), h) = a_cond a7 (awp X n c21_11 Q ((a0::a1::a2::a3::a4::a5::a6::a7::a8::a9::b0::b1::b2::b3::b4::b5::b6::[]), h)) (awp X n c21_12 Q ((a0::a1::a2::a3::a4::a5::a6::a7::a8::a9::b0::b1::b2::b3::b4::b5::b6::[]), h)) := by rw [awp_eq]; kernel_rfl
theorem w21_8 : awp X n c21_8 Q st = awp X n c21_9 (thenQ (awp X n c21_10 Q) Q) st := by rw [awp_eq]; kernel_rfl
noncomputable def c21_13 : Code := cr c21_7
noncomputable def c21_14 : Code := cl c21_13
noncomputable def c21_15 : Code := cl c21_14
noncomputable def c21_16 : Code := cl c21_15
theorem w21_16 : awp X n c21_16 Q ((a0::a1::a2::a3::a4::a5::a6::a7::a8::a9::b0::b1::b2::b3::b4::b5::b6::[]), h) = (a_mov a0 h (.c (fun t10 h1 => a_mov a3 h1 (.c (fun t11 h2 => a_ixs t10 t11 h2 (.c (fun t12 h3 => a_bin .eql t12 (.v (.int .u8 0)) h3 (.c (fun t13 h4 => Q .normal ((a0::a1::a2::a3::a4::a5::a6::a7::a8::a9::t10::t11::t12::t13::b4::b5::b6::[]), h4)) ())) ())) ())) ())) := by rw [awp_eq]; kernel_rfl
noncomputable def c21_17 : Code := cr c21_15
noncomputable def c21_18 : Code := cl c21_17
noncomputable def c21_19 : Code := cl c21_18
theorem w21_19 : awp X n c21_19 Q ((a0::a1::a2::a3::a4::a5::a6::a7::a8::a9::b0::b1::b2::b3::b4::b5::b6::[]), h) = (a_mov (.v (.bool false)) h (.c (fun t2 h1 => Q .normal ((a0::a1::t2::a3::a4::a5::a6::a7::a8::a9::b0::b1::b2::b3::b4::b5::b6::[]), h1)) ())) := by rw [awp_eq]; kernel_rfl
noncomputable def c21_20 : Code := cr c21_18
theorem w21_20 : awp X n c21_20 Q st = Q .ret st := by rw [awp_eq]; kernel_rfl
theorem w21_18 : awp X n c21_18 Q st = awp X n c21_19 (thenQ (awp X n c21_20 Q) Q) st := by rw [awp_eq]; kernel_rfl
noncomputable def c21_21 : Code := cr c21_17
theorem w21_21 : awp X n c21_21 Q st = Q .normal st := by rw [awp_eq]; kernel_rfl
theorem w21_17 : awp X n c21_17 Q ((a0::a1::a2::a3::a4::a5::a6::a7::a8::a9::b0::b1::b2::b3::b4::b5::b6::[]), h) = a_cond b3 (awp X n c21_18 Q ((a0::a1::a2::a3::a4::a5::a6::a7::a8::a9::b0::b1::b2::b3::b4::b5::b6::[]), h)) (awp X n c21_21 Q ((a0::a1::a2::a3::a4::a5::a6::a7::a8::a9::b0::b1::b2::b3::b4::b5::b6::[]), h)) := by rw [awp_eq]; kernel_rfl
theorem w21_15 : awp X n c21_15 Q st = awp X n c21_16 (thenQ (awp X n c21_17 Q) Q) st := by rw [awp_eq]; kernel_rfl
theorem w21_14 : awp X n c21_14 Q st = awp X n c21_15 (blockQ 1 Q) st := by rw [awp_eq]; kernel_rfl
noncomputable def c21_22 : Code := cr c21_13
theorem w21_22 : awp X n c21_22 Q ((a0::a1::a2::a3::a4::a5::a6::a7::a8::a9::b0::b1::b2::b3::b4::b5::b6::[]), h) = (a_mov a3 h (.c (fun t8 h1 => a_bin .add t8 (.v (.int .i64 1)) h1 (.c (fun t9 h2 => a_mov t9 h2 (.c (fun t3 h3 => Q .normal ((a0::a1::a2::t3::a4::a5::a6::a7::t8::t9::b0::b1::b2::b3::b4::b5::b6::[]), h3)) ())) ())) ())) := by rw [awp_eq]; kernel_rfl
theorem w21_13 : awp X n c21_13 Q st = awp X n c21_14 (thenQ (awp X n c21_22 Q) Q) st := by rw [awp_eq]; kernel_rfl
theorem w21_7 : awp X n c21_7 Q st = awp X n c21_8 (thenQ (awp X n c21_13 Q) Q) st := by rw [awp_eq]; kernel_rfl
theorem w21_6 : awp X n c21_6 Q st = ALoop X n c21_7 Q st := by rw [awp_eq]; kernel_rfl
theorem w21_5 : awp X n c21_5 Q st = awp X n c21_6 (blockQ 0 Q) st := by rw [awp_eq]; kernel_rfl
theorem w21_3 : awp X n c21_3 Q st = awp X n c21_4 (thenQ (awp X n c21_5 Q) Q) st := by rw [awp_eq]; kernel_rfl
noncomputable def c21_23 : Code := cr c21_2
noncomputable def c21_24 : Code := cl c21_23
theorem w21_24 : awp X n c21_24 Q ((a0::a1::a2::a3::a4::a5::a6::a7::a8::a9::b0::b1::b2::b3::b4::b5::b6::[]), h) = (a_mov a0 h (.c (fun t14 h1 => a_lens t14 h1 (.c (fun t15 h2 => a_bin .leq t15 (.v (.int .i64 200)) h2 (.c (fun t16 h3 => a_mov t16 h3 (.c (fun t2 h4 => Q .normal ((a0::a1::t2::a3::a4::a5::a6::a7::a8::a9::b0::b1::b2::b3::t14::t15::t16::[]), h4)) ())) ())) ())) ())) := by rw [awp_eq]; kernel_rfl
noncomputable def c21_25 : Code := cr c21_23
theorem w21_25 : awp X n c21_25 Q st = Q .ret st := by rw [awp_eq]; kernel_rfl
theorem w21_23 : awp X n c21_23 Q st = awp X n c21_24 (thenQ (awp X n c21_25 Q) Q) st := by rw [awp_eq]; kernel_rfl
theorem w21_2 : awp X n c21_2 Q st = awp X n c21_3 (thenQ (awp X n c21_23 Q) Q) st := by rw [awp_eq]; kernel_rfl
theorem w21_0 : awp X n c21_0 Q st = awp X n c21_1 (thenQ (awp X n c21_2 Q) Q) st := by rw [awp_eq]; kernel_rfl
theorem q21_ret : retQ X Try.f21 K .ret ((a0::a1::a2::a3::a4::a5::a6::a7::a8::a9::b0::b1::b2::b3::b4::b5::b6::[]), h) = (K.K a2 h) := by kernel_rfl
theorem q21_normal : retQ X Try.f21 K .normal ((a0::a1::a2::a3::a4::a5::a6::a7::a8::a9::b0::b1::b2::b3::b4::b5::b6::[]), h) = (K.K a2 h) := by kernel_rfl
theorem i21 (H : awp X h.length c21_0 (retQ X Try.f21 K) ((a0::.bad::.bad::.bad::.bad::.bad::.bad::.bad::.bad::.bad::.bad::.bad::.bad::.bad::.bad::.bad::.bad::[]), h)) : ACall X 21 [a0] h K := acall_intro (fn := Try.f21) (by kernel_rfl) (by kernel_rfl) (by kernel_rfl) H
noncomputable def R21 := And.intro (And.intro (And.intro (And.intro (w21_1) (And.intro w21_4 w21_9)) (And.intro (And.intro w21_11 w21_12) (And.intro w21_10 w21_8))) (And.intro (And.intro (w21_16) (And.intro w21_19 w21_20)) (And.intro (And.intro w21_18 w21_21) (And.intro w21_17 w21_15)))) (And.intro (And.intro (And.intro (w21_14) (And.intro w21_22 w21_13)) (And.intro (And.intro w21_7 w21_6) (And.intro w21_5 w21_3))) (And.intro (And.intro (w21_24) (And.intro w21_25 w21_23)) (And.intro (And.intro w21_2 w21_0) (And.intro q21_ret q21_normal))))
/-! function 22: sindri/sindriref03.Put -/
noncomputable def c22_0 : Code := bodyOf Try.f22
noncomputable def c22_1 : Code := cl c22_0
theorem w22_1 : awp X n c22_1 Q ((a0::a1::a2::a3::a4::a5::a6::a7::a8::a9::b0::b1::b2::b3::b4::b5::b6::b7::b8::b9::d0::d1::d2::d3::d4::d5::[]), h) = (a_mov (.v (.slice none 0 0)) h (.c (fun t2 h1 => Q .normal ((a0::a1::t2::a3::a4::a5::a6::a7::a8::a9::b0::b1::b2::b3::b4::b5::b6::b7::b8::b9::d0::d1::d2::d3::d4::d5::[]), h1)) ())) := by rw [awp_eq]; kernel_rfl
noncomputable def c22_2 : Code := cr c22_0
noncomputable def c22_3 : Code := cl c22_2
theorem w22_3 : awp X n c22_3 Q ((a0::a1::a2::a3::a4::a5::a6::a7::a8::a9::b0::b1::b2::b3::b4::b5::b6::b7::b8::b9::d0::d1::d2::d3::d4::d5::[]), h) = (a_mov (.v (.slice none 0 0)) h (.c (fun t3 h1 => Q .normal ((a0::a1::a2::t3::a4::a5::a6::a7::a8::a9::b0::b1::b2::b3::b4::b5::b6::b7::b8::b9::d0::d1::d2::d3::d4::d5::[]), h1)) ())) := by rw [awp_eq]; kernel_rfl
noncomputable def c22_4 : Code := cr c22_2
noncomputable def c22_5 : Code := cl c22_4
noncomputable def c22_6 : Code := cl c22_5
theorem w22_6 : awp X n c22_6 Q ((a0::a1::a2::a3::a4::a5::a6::a7::a8::a9::b0::b1::b2::b3::b4::b5::b6::b7::b8::b9::d0::d1::d2::d3::d4::d5::[]), h) = (a_mov (.v (.int .i64 0)) h (.c (fun t4 h1 => Q .normal ((a0::a1::a2::a3::t4::a5::a6::a7::a8::a9::b0::b1::b2::b3::b4::b5::b6::b7::b8::b9::d0::d1::d2::d3::d4::d5::[]), h1)) ())) := by rw [awp_eq]; kernel_rfl
noncomputable def c22_7 : Code := cr c22_5
noncomputable def c22_8 : Code := cl c22_7
noncomputable def c22_9 : Code := cl c22_8
noncomputable def c22_10 : Code := cl c22_9
noncomputable def c22_11 : Code := cl c22_10
theorem w22_11 : awp X n c22_11 Q ((a0::a1::a2::a3::a4::a5::a6::a7::a8::a9::b0::b1::b2::b3::b4::b5::b6::b7::b8::b9::d0::d1::d2::d3::d4::d5::[]), h) = (a_mov a4 h (.c (fun t5 h1 => a_mov a0 h1 (.c (fun t6 h2 => a_lens t6 h2 (.c (fun t7 h3 => a_bin .lss t5 t7 h3 (.c (fun t8 h4 => a_mov t8 h4 (.c (fun t9 h5 => a_on t9 true (fun k => a_mov a0 h5 k) h5 (.c (fun t10 h6 => a_on t9 true (fun k => a_mov a4 h6 k) h6 (.c (fun t11 h7 => a_on t9 true (fun k => a_ixs t10 t11 h7 k) h7 (.c (fun t12 h8 => a_on t9 true (fun k => a_bin .neq t12 (.v (.int .u8 0)) h8 k) h8 (.c (fun t13 h9 => a_pick t9 t13 (.v (.bool false)) h9 (.c (fun t14 h10 => Q .normal ((a0::a1::a2::a3::a4::t5::t6::t7::t8::t9::t10::t11::t12::t13::t14::b5::b6::b7::b8::b9::d0::d1::d2::d3::d4::d5::[]), h10)) ())) ())) ())) ())) ())) ())) ())) ())) ())) ())) := by rw [awp_eq]; kernel_rfl
noncomputable def c22_12 : Code := cr c22_10
noncomputable def c22_13 : Code := cl c22_12
theorem w22_13 : awp X n c22_13 Q st = Q .normal st := by rw [awp_eq]; kernel_rfl
noncomputable def c22_14 : Code := cr c22_12
theorem w22_14 : awp X n c22_14 Q st = Q (.exit 0) st := by rw [awp_eq]; kernel_rfl
theorem w22_12 : awp X n c22_12 Q ((a0::a1::a2::a3::a4::a5::a6::a7::a8::a9::b0::b1::b2::b3::b4::b5::b6::b7::b8::b9::d0::d1::d2::d3::d4::d5::[]), h) = a_cond b4 (awp X n c22_13 Q ((a0::a1::a2::a3::a4::a5::a6::a7::a8::a9::b0::b1::b2::b3::b4::b5::b6::b7::b8::b9::d0::d1::d2::d3::d4::d5::[]), h)) (awp X n c22_14 Q ((a0::a1::a2::a3::a4::a5::a6::a7::a8::a9::b0::b1::b2::b3::b4::b5::b6::b7::b8::b9::d0::d1::d2::d3::d4::d5::[]), h)) := by rw [awp_eq]; kernel_rfl
theorem w22_10 : awp X n c22_10 Q st = awp X n c22_11 (thenQ (awp X n c22_12 Q) Q) st := by rw [awp_eq]; kernel_rfl
noncomputable def c22_15 : Code := cr c22_9
noncomputable def c22_16 : Code := cl c22_15
noncomputable def c22_17 : Code := cl c22_16
theorem w22_17 : awp X n c22_17 Q ((a0::a1::a2::a3::a4::a5::a6::a7::a8::a9::b0::b1::b2::b3::b4::b5::b6::b7::b8::b9::d0::d1::d2::d3::d4::d5::[]), h) = (a_mov a3 h (.c (fun t17 h1 => a_mov a0 h1 (.c (fun t18 h2 => a_mov a4 h2 (.c (fun t19 h3 => a_ixs t18 t19 h3 (.c (fun t20 h4 => a_lit 1 1 [.v (.int .u8 0)] [(0, 1, t20)] h4 (.c (fun t21 h5 => a_app 1 1 t17 t21 h5 (.c (fun t22 h6 => a_mov t22 h6 (.c (fun t3 h7 => Q .normal ((a0::a1::a2::t3::a4::a5::a6::a7::a8::a9::b0::b1::b2::b3::b4::b5::b6::t17::t18::t19::t20::t21::t22::d3::d4::d5::[]), h7)) ())) ())) ())) ())) ())) ())) ())) := by rw [awp_eq]; kernel_rfl
theorem w22_16 : awp X n c22_16 Q st = awp X n c22_17 (blockQ 1 Q) st := by rw [awp_eq]; kernel_rfl
noncomputable def c22_18 : Code := cr c22_15
theorem w22_18 : awp X n c22_18 Q ((a0::a1::a2::a3::a4::a5::a6::a7::a8::a9::b0::b1::b2::b3::b4::b5::b6::b7::b8::b9::d0::d1::d2::d3::d4::d5::[]), h) = (a_mov a4 h (.c (fun t15 h1 => a_bin .add t15 (.v (.int .i64 1)) h1 (.c (fun t16 h2 => a_mov t16 h2 (.c (fun t4 h3 => Q .normal ((a0::a1::a2::a3::t4::a5::a6::a7::a8::a9::b0::b1::b2::b3::b4::t15::t16::b7::b8::b9::d0::d1::d2::d3::d4::d5::[]), h3)) ())) ())) ())) := by rw [awp_eq]; kernel_rfl
theorem w22_15 : awp X n c22_15 Q st = awp X n c22_16 (thenQ (awp X n c22_18 Q) Q) st := by rw [awp_eq]; kernel_rfl
theorem w22_9 : awp X n c22_9 Q st = awp X n c22_10 (thenQ (awp X n c22_15 Q) Q) st := by rw [awp_eq]; kernel_rfl
theorem w22_8 : awp X n c22_8 Q st = ALoop X n c22_9 Q st := by rw [awp_eq]; kernel_rfl
theorem w22_7 : awp X n c22_7 Q st = awp X n c22_8 (blockQ 0 Q) st := by rw [awp_eq]; kernel_rfl
theorem w22_5 : awp X n c22_5 Q st = awp X n c22_6 (thenQ (awp X n c22_7 Q) Q) st := by rw [awp_eq]; kernel_rfl
noncomputable def c22_19 : Code := cr c22_4
noncomputable def c22_20 : Code := cl c22_19
theorem w22_20 : awp X n c22_20 Q ((a0::a1::a2::a3::a4::a5::a6::a7::a8::a9::b0::b1::b2::b3::b4::b5::b6::b7::b8::b9::d0::d1::d2::d3::d4::d5::[]), h) = (a_mov a3 h (.c (fun t23 h1 => a_lit 1 1 [.v (.int .u8 0)] [(0, 1, (.v (.int .u8 0)))] h1 (.c (fun t24 h2 => a_app 1 1 t23 t24 h2 (.c (fun t25 h3 => a_mov t25 h3 (.c (fun t2 h4 => Q .normal ((a0::a1::t2::a3::a4::a5::a6::a7::a8::a9::b0::b1::b2::b3::b4::b5::b6::b7::b8::b9::d0::d1::d2::t23::t24::t25::[]), h4)) ())) ())) ())) ())) := by rw [awp_eq]; kernel_rfl
noncomputable def c22_21 : Code := cr c22_19
theorem w22_21 : awp X n c22_21 Q st = Q .ret st := by rw [awp_eq]; kernel_rfl
theorem w22_19 : awp X n c22_19 Q st = awp X n c22_20 (thenQ (awp X n c22_21 Q) Q) st := by rw [awp_eq]; kernel_rfl
theorem w22_4 : awp X n c22_4 Q st = awp X n c22_5 (thenQ (awp X n c22_19 Q) Q) st := by rw [awp_eq]; kernel_rfl
theorem w22_2 : awp X n c22_2 Q st = awp X n c22_3 (thenQ (awp X n c22_4 Q) Q) st := by rw [awp_eq]; kernel_rfl
theorem w22_0 : awp X n c22_0 Q st = awp X n c22_1 (thenQ (awp X n c22_2 Q) Q) st := by rw [awp_eq]; kernel_rfl
theorem q22_ret : retQ X Try.f22 K .ret ((a0::a1::a2::a3::a4::a5::a6::a7::a8::a9::b0::b1::b2::b3::b4::b5::b6::b7::b8::b9::d0::d1::d2::d3::d4::d5::[]), h) = (K.K a2 h) := by kernel_rfl
theorem q22_normal : retQ X Try.f22 K .normal ((a0::a1::a2::a3::a4::a5::a6::a7::a8::a9::b0::b1::b2::b3::b4::b5::b6::b7::b8::b9::d0::d1::d2::d3::d4::d5::[]), h) = (K.K a2 h) := by kernel_rfl
theorem i22 (H : awp X h.length c22_0 (retQ X Try.f22 K) ((a0::.bad::.bad::.bad::.bad::.bad::.bad::.bad::.bad::.bad::.bad::.bad::.bad::.bad::.bad::.bad::.bad::.bad::.bad::.bad::.bad::.bad::.bad::.bad::.bad::.bad::[]), h)) : ACall X 22 [a0] h K := acall_intro (fn := Try.f22) (by kernel_rfl) (by kernel_rfl) (by kernel_rfl) H
noncomputable def R22 := And.intro (And.intro (And.intro (And.intro (w22_1) (And.intro w22_3 w22_6)) (And.intro (w22_11) (And.intro w22_13 w22_14))) (And.intro (And.intro (w22_12) (And.intro w22_10 w22_17)) (And.intro (w22_16) (And.intro w22_18 w22_15)))) (And.intro (And.intro (And.intro (w22_9) (And.intro w22_8 w22_7)) (And.intro (w22_5) (And.intro w22_20 w22_21))) (And.intro (And.intro (w22_19) (And.intro w22_4 w22_2)) (And.intro (w22_0) (And.intro q22_ret q22_normal))))
/-! function 23: sindri/cstr.All -/
noncomputable def c23_0 : Code := bodyOf Try.f23
noncomputable def c23_1 : Code := cl c23_0
theorem w23_1 : awp X n c23_1 Q ((a0::a1::a2::a3::a4::a5::a6::a7::a8::a9::b0::b1::b2::b3::b4::b5::b6::b7::b8::b9::d0::d1::d2::d3::d4::d5::d6::d7::d8::[]), h) = (a_mov (.v (.slice none 0 0)) h (.c (fun t2 h1 => a_mov (.v (.int .i64 0)) h1 (.c (fun t3 h2 => Q .normal ((a0::a1::t2::t3::a4::a5::a6::a7::a8::a9::b0::b1::b2::b3::b4::b5::b6::b7::b8::b9::d0::d1::d2::d3::d4::d5::d6::d7::d8::[]), h2)) ())) ())) := by rw [awp_eq]; kernel_rfl
noncomputable def c23_2 : Code := cr c23_0
noncomputable def c23_3 : Code := cl c23_2
theorem w23_3 : awp X n c23_3 Q ((a0::a1::a2::a3::a4::a5::a6::a7::a8::a9::b0::b1::b2::b3::b4::b5::b6::b7::b8::b9::d0::d1::d2::d3::d4::d5::d6::d7::d8::[]), h) = (a_mov (.v (.slice none 0 0)) h (.c (fun t4 h1 => Q .normal ((a0::a1::a2::a3::t4::a5::a6::a7::a8::a9::b0::b1::b2::b3::b4::b5::b6::b7::b8::b9::d0::d1::d2::d3::d4::d5::d6::d7::d8::[]), h1)) ())) := by rw [awp_eq]; kernel_rfl
noncomputable def c23_4 : Code := cr c23_2
noncomputable def c23_5 : Code := cl c23_4
noncomputable def c23_6 : Code := cl c23_5
noncomputable def c23_7 : Code := cl c23_6
noncomputable def c23_8 : Code := cl c23_7
noncomputable def c23_9 : Code := cl c23_8
theorem w23_9 : awp X n c23_9 Q ((a0::a1::a2::a3::a4::a5::a6::a7::a8::a9::b0::b1::b2::b3::b4::b5::b6::b7::b8::b9::d0::d1::d2::d3::d4::d5::d6::d7::d8::[]), h) = (a_mov a0 h (.c (fun t6 h1 => a_len t6 h1 (.c (fun t7 h2 => a_bin .gtr t7 (.v (.int .i64 0)) h2 (.c (fun t8 h3 => Q .normal ((a0::a1::a2::a3::a4::a5::t6::t7::t8::a9::b0::b1::b2::b3::b4::b5::b6::b7::b8::b9::d0::d1::d2::d3::d4::d5::d6::d7::d8::[]), h3)) ())) ())) ())) := by rw [awp_eq]; kernel_rfl
noncomputable def c23_10 : Code := cr c23_8
noncomputable def c23_11 : Code := cl c23_10
theorem w23_11 : awp X n c23_11 Q st = Q .normal st := by rw [awp_eq]; kernel_rfl
noncomputable def c23_12 : Code := cr c23_10
theorem w23_12 : awp X n c23_12 Q st = Q (.exit 0) st := by rw [awp_eq]; kernel_rfl
theorem w23_10 : awp X n c23_10 Q ((a0::a1::a2::a3::a4::a5::a6::a7::a8::a9::b0::b1::b2::b3::b4::b5::b6::b7::b8::b9::d0::d1::d2::d3::d4::d5::d6::d7::d8::[]), h) = a_cond a8 (awp X n c23_11 Q ((a0::a1::a2::a3::a4::a5::a6::a7::a8::a9::b0::b1::b2::b3::b4::b5::b6::b7::b8::b9::d0::d1::d2::d3::d4::d5::d6::d7::d8::[]), h)) (awp X n c23_12 Q ((a0::a1::a2::a3::a4::a5::a6::a7::a8::a9::b0::b1::b2::b3::b4::b5::b6::b7::b8::b9::d0::d1::d2::d3::d4::d5::d6::d7::d8::[]), h)) := by rw [awp_eq]; kernel_rfl
theorem w23_8 : awp X n c23_8 Q st = awp X n c23_9 (thenQ (awp X n c23_10 Q) Q) st := by rw [awp_eq]; kernel_rfl
noncomputable def c23_13 : Code := cr c23_7
noncomputable def c23_14 : Code := cl c23_13
noncomputable def c23_15 : Code := cl c23_14
theorem w23_15 : awp X n c23_15 Q ((a0::a1::a2::a3::a4::a5::a6::a7::a8::a9::b0::b1::b2::b3::b4::b5::b6::b7::b8::b9::d0::d1::d2::d3::d4::d5::d6::d7::d8::[]), h) = (a_mov a0 h (.c (fun t9 h1 => ACall X 29 [t9, (.v (.int .u8 0))] h1 (.c (fun t10 h2 => a_mov t10 h2 (.c (fun t5 h3 => Q .normal ((a0::a1::a2::a3::a4::t5::a6::a7::a8::t9::t10::b1::b2::b3::b4::b5::b6::b7::b8::b9::d0::d1::d2::d3::d4::d5::d6::d7::d8::[]), h3)) ())) ())) ())) := by rw [awp_eq]; kernel_rfl
noncomputable def c23_16 : Code := cr c23_14
noncomputable def c23_17 : Code := cl c23_16
noncomputable def c23_18 : Code := cl c23_17
noncomputable def c23_19 : Code := cl c23_18
theorem w23_19 : awp X n c23_19 Q ((a0::a1::a2::a3::a4::a5::a6::a7::a8::a9::b0::b1::b2::b3::b4::b5::b6::b7::b8::b9::d0::d1::d2::d3::d4::d5::d6::d7::d8::[]), h) = (a_mov a5 h (.c (fun t12 h1 => a_bin .lss t12 (.v (.int .i64 0)) h1 (.c (fun t13 h2 => a_mov t13 h2 (.c (fun t11 h3 => Q .normal ((a0::a1::a2::a3::a4::a5::a6::a7::a8::a9::b0::t11::t12::t13::b4::b5::b6::b7::b8::b9::d0::d1::d2::d3::d4::d5::d6::d7::d8::[]), h3)) ())) ())) ())) := by rw [awp_eq]; kernel_rfl
noncomputable def c23_20 : Code := cr c23_18
noncomputable def c23_21 : Code := cl c23_20
noncomputable def c23_22 : Code := cl c23_21
theorem w23_22 : awp X n c23_22 Q ((a0::a1::a2::a3::a4::a5::a6::a7::a8::a9::b0::b1::b2::b3::b4::b5::b6::b7::b8::b9::d0::d1::d2::d3::d4::d5::d6::d7::d8::[]), h) = (a_mov (.v (.slice none 0 0)) h (.c (fun t2 h1 => a_mov (.v (.int .i64 12)) h1 (.c (fun t3 h2 => Q .normal ((a0::a1::t2::t3::a4::a5::a6::a7::a8::a9::b0::b1::b2::b3::b4::b5::b6::b7::b8::b9::d0::d1::d2::d3::d4::d5::d6::d7::d8::[]), h2)) ())) ())) := by rw [awp_eq]; kernel_rfl
noncomputable def c23_23 : Code := cr c23_21
theorem w23_23 : awp X n c23_23 Q st = Q .ret st := by rw [awp_eq]; kernel_rfl
theorem w23_21 : awp X n c23_21 Q st = awp X n c23_22 (thenQ (awp X n c23_23 Q) Q) st := by rw [awp_eq]; kernel_rfl
noncomputable def c23_24 : Code := cr c23_20
noncomputable def c23_25 : Code := cl c23_24
theorem w23_25 : awp X n c23_25 Q ((a0::a1::a2::a3::a4::a5::a6::a7::a8::a9::b0::b1::b2::b3::b4::b5::b6::b7::b8::b9::d0::d1::d2::d3::d4::d5::d6::d7::d8::[]), h) = (a_mov a5 h (.c (fun t15 h1 => a_bin .gtr t15 (.v (.int .i64 200)) h1 (.c (fun t16 h2 => a_mov t16 h2 (.c (fun t14 h3 => Q .normal ((a0::a1::a2::a3::a4::a5::a6::a7::a8::a9::b0::b1::b2::b3::t14::t15::t16::b7::b8::b9::d0::d1::d2::d3::d4::d5::d6::d7::d8::[]), h3)) ())) ())) ())) := by rw [awp_eq]; kernel_rfl
noncomputable def c23_26 : Code := cr c23_24
noncomputable def c23_27 : Code := cl c23_26
noncomputable def c23_28 : Code := cl c23_27
theorem w23_28 : awp X n c23_28 Q ((a0::a1::a2::a3::a4::a5::a6::a7::a8::a9::b0::b1::b2::b3::b4::b5::b6::b7::b8::b9::d0::d1::d2::d3::d4::d5::d6::d7::d8::[]), h) = (a_mov (.v (.slice none 0 0)) h (.c (fun t2 h1 => a_mov (.v (.int .i64 3)) h1 (.c (fun t3 h2 => Q .normal ((a0::a1::t2::t3::a4::a5::a6::a7::a8::a9::b0::b1::b2::b3::b4::b5::b6::b7::b8::b9::d0::d1::d2::d3::d4::d5::d6::d7::d8::[]), h2)) ())) ())) := by rw [awp_eq]; kernel_rfl
noncomputable def c23_29 : Code := cr c23_27
theorem w23_29 : awp X n c23_29 Q st = Q .ret st := by rw [awp_eq]; kernel_rfl
theorem w23_27 : awp X n c23_27 Q st = awp X n c23_28 (thenQ (awp X n c23_29 Q) Q) st := by rw [awp_eq]; kernel_rfl
noncomputable def c23_30 : Code := cr c23_26
theorem w23_30 : awp X n c23_30 Q st = Q .normal st := by rw [awp_eq]; kernel_rfl
theorem w23_26 : awp X n c23_26 Q ((a0::a1::a2::a3::a4::a5::a6::a7::a8::a9::b0::b1::b2::b3::b4::b5::b6::b7::b8::b9::d0::d1::d2::d3::d4::d5::d6::d7::d8::[]), h) = a_cond b4 (awp X n c23_27 Q ((a0::a1::a2::a3::a4::a5::a6::a7::a8::a9::b0::b1::b2::b3::b4::b5::b6::b7::b8::b9::d0::d1::d2::d3::d4::d5::d6::d7::d8::[]), h)) (awp X n c23_30 Q ((a0::a1::a2::a3::a4::a5::a6::a7::a8::a9::b0::b1::b2::b3::b4::b5::b6::b7::b8::b9::d0::d1::d2::d3::d4::d5::d6::d7::d8::[]), h)) := by rw [awp_eq]; kernel_rfl
theorem w23_24 : awp X n c23_24 Q st = awp X n c23_25 (thenQ (awp X n c23_26 Q) Q) st := by rw [awp_eq]; kernel_rfl
theorem w23_20 : awp X n c23_20 Q ((a0::a1::a2::a3::a4::a5::a6::a7::a8::a9::b0::b1::b2::b3::b4::b5::b6::b7::b8::b9::d0::d1::d2::d3::d4::d5::d6::d7::d8::[]), h) = a_cond b1 (awp X n c23_21 Q ((a0::a1::a2::a3::a4::a5::a6::a7::a8::a9::b0::b1::b2::b3::b4::b5::b6::b7::b8::b9::d0::d1::d2::d3::d4::d5::d6::d7::d8::[]), h)) (awp X n c23_24 Q ((a0::a1::a2::a3::a4::a5::a6::a7::a8::a9::b0::b1::b2::b3::b4::b5::b6::b7::b8::b9::d0::d1::d2::d3::d4::d5::d6::d7::d8::[]), h)) := by rw [awp_eq]; kernel_rfl
theorem w23_18 : awp X n c23_18 Q st = awp X n c23_19 (thenQ (awp X n c23_20 Q) Q) st := by rw [awp_eq]; kernel_rfl
theorem w23_17 : awp X n c23_17 Q st = awp X n c23_18 (blockQ 2 Q) st := by rw [awp_eq]; kernel_rfl
noncomputable def c23_31 : Code := cr c23_16
noncomputable def c23_32 : Code := cl c23_31
theorem w23_32 : awp X n c23_32 Q ((a0::a1::a2::a3::a4::a5::a6::a7::a8::a9::b0::b1::b2::b3::b4::b5::b6::b7::b8::b9::d0::d1::d2::d3::d4::d5::d6::d7::d8::[]), h) = (a_mov a4 h (.c (fun t17 h1 => a_mov a0 h1 (.c (fun t18 h2 => a_mov a5 h2 (.c (fun t19 h3 => a_slice 1 t18 none (some t19) none h3 (.c (fun t20 h4 => a_cstr t20 h4 (.c (fun t21 h5 => a_lit 1 1 [.v (.string ⟨#[]⟩)] [(0, 1, t21)] h5 (.c (fun t22 h6 => a_app 1 16 t17 t22 h6 (.c (fun t23 h7 => a_mov t23 h7 (.c (fun t4 h8 => Q .normal ((a0::a1::a2::a3::t4::a5::a6::a7::a8::a9::b0::b1::b2::b3::b4::b5::b6::t17::t18::t19::t20::t21::t22::t23::d4::d5::d6::d7::d8::[]), h8)) ())) ())) ())) ())) ())) ())) ())) ())) := by rw [awp_eq]; kernel_rfl
noncomputable def c23_33 : Code := cr c23_31
theorem w23_33 : awp X n c23_33 Q ((a0::a1::a2::a3::a4::a5::a6::a7::a8::a9::b0::b1::b2::b3::b4::b5::b6::b7::b8::b9::d0::d1::d2::d3::d4::d5::d6::d7::d8::[]), h) = (a_mov a0 h (.c (fun t24 h1 => a_mov a5 h1 (.c (fun t25 h2 => a_bin .add t25 (.v (.int .i64 1)) h2 (.c (fun t26 h3 => a_slice 1 t24 (some t26) none none h3 (.c (fun t27 h4 => a_mov t27 h4 (.c (fun t0 h5 => Q .normal ((t0::a1::a2::a3::a4::a5::a6::a7::a8::a9::b0::b1::b2::b3::b4::b5::b6::b7::b8::b9::d0::d1::d2::d3::t24::t25::t26::t27::d8::[]), h5)) ())) ())) ())) ())) ())) := by rw [awp_eq]; kernel_rfl
theorem w23_31 : awp X n c23_31 Q st = awp X n c23_32 (thenQ (awp X n c23_33 Q) Q) st := by rw [awp_eq]; kernel_rfl
theorem w23_16 : awp X n c23_16 Q st = awp X n c23_17 (thenQ (awp X n c23_31 Q) Q) st := by rw [awp_eq]; kernel_rfl
theorem w23_14 : awp X n c23_14 Q st = awp X n c23_15 (thenQ (awp X n c23_16 Q) Q) st := by rw [awp_eq]; kernel_rfl
theorem w23_13 : awp X n c23_13 Q st = awp X n c23_14 (blockQ 1 Q) st := by rw [awp_eq]; kernel_rfl
theorem w23_7 : awp X n c23_7 Q st = awp X n c23_8 (thenQ (awp X n c23_13 Q) Q) st := by rw [awp_eq]; kernel_rfl
theorem w23_6 : awp X n c23_6 Q st = ALoop X n c23_7 Q st := by rw [awp_eq]; kernel_rfl
theorem w23_5 : awp X n c23_5 Q st = awp X n c23_6 (blockQ 0 Q) st := by rw [awp_eq]; kernel_rfl
noncomputable def c23_34 : Code := cr c23_4
noncomputable def c23_35 : Code := cl c23_34
theorem w23_35 : awp X n c23_35 Q ((a0::a1::a2::a3::a4::a5::a6::a7::a8::a9::b0::b1::b2::b3::b4::b5::b6::b7::b8::b9::d0::d1::d2::d3::d4::d5::d6::d7::d8::[]), h) = (a_mov a4 h (.c (fun t28 h1 => a_mov t28 h1 (.c (fun t2 h2 => a_mov (.v (.int .i64 0)) h2 (.c (fun t3 h3 => Q .normal ((a0::a1::t2::t3::a4::a5::a6::a7::a8::a9::b0::b1::b2::b3::b4::b5::b6::b7::b8::b9::d0::d1::d2::d3::d4::d5::d6::d7::t28::[]), h3)) ())) ())) ())) := by rw [awp_eq]; kernel_rfl
noncomputable def c23_36 : Code := cr c23_34
theorem w23_36 : awp X n c23_36 Q st = Q .ret st := by rw [awp_eq]; kernel_rfl
theorem w23_34 : awp X n c23_34 Q st = awp X n c23_35 (thenQ (awp X n c23_36 Q) Q) st := by rw [awp_eq]; kernel_rfl
theorem w23_4 : awp X n c23_4 Q st = awp X n c23_5 (thenQ (awp X n c23_34 Q) Q) st := by rw [awp_eq]; kernel_rfl
theorem w23_2 : awp X n c23_2 Q st = awp X n c23_3 (thenQ (awp X n c23_4 Q) Q) st := by rw [awp_eq]; kernel_rfl
theorem w23_0 : awp X n c23_0 Q st = awp X n c23_1 (thenQ (awp X n c23_2 Q) Q) st := by rw [awp_eq]; kernel_rfl
theorem q23_ret : retQ X Try.f23 K .ret ((a0::a1::a2::a3::a4::a5::a6::a7::a8::a9::b0::b1::b2::b3::b4::b5::b6::b7::b8::b9::d0::d1::d2::d3::d4::d5::d6::d7::d8::[]), h) = (K.K (.t [a2, a3]) h) := by kernel_rfl
theorem q23_normal : retQ X Try.f23 K .normal ((a0::a1::a2::a3::a4::a5::a6::a7::a8::a9::b0::b1::b2::b3::b4::b5::b6::b7::b8::b9::d0::d1::d2::d3::d4::d5::d6::d7::d8::[]), h) = (K.K (.t [a2, a3]) h) := by kernel_rfl
theorem i23 (H : awp X h.length c23_0 (retQ X Try.f23 K) ((a0::.bad::.bad::.bad::.bad::.bad::.bad::.bad::.bad::.bad::.bad::.bad::.bad::.bad::.bad::.bad::.bad::.bad::.bad::.bad::.bad::.bad::.bad::.bad::.bad::.bad::.bad::.bad::.bad::[]), h)) : ACall X 23 [a0] h K := acall_intro (fn := Try.f23) (by kernel_rfl) (by kernel_rfl) (by kernel_rfl) H
noncomputable def R23 := And.intro (And.intro (And.intro (And.intro (And.intro w23_1 w23_3) (And.intro w23_9 w23_11)) (And.intro (And.intro w23_12 w23_10) (And.intro (w23_8) (And.intro w23_15 w23_19)))) (And.intro (And.intro (And.intro w23_22 w23_23) (And.intro (w23_21) (And.intro w23_25 w23_28))) (And.intro (And.intro w23_29 w23_27) (And.intro (w23_30) (And.intro w23_26 w23_24))))) (And.intro (And.intro (And.intro (And.intro w23_20 w23_18) (And.intro (w23_17) (And.intro w23_32 w23_33))) (And.intro (And.intro w23_31 w23_16) (And.intro (w23_14) (And.intro w23_13 w23_7)))) (And.intro (And.intro (And.intro w23_6 w23_5) (And.intro (w23_35) (And.intro w23_36 w23_34))) (And.intro (And.intro w23_4 w23_2) (And.intro (w23_0) (And.intro q23_ret q23_normal)))))
/-! function 24: sindri/sindriref03.All -/
noncomputable def c24_0 : Code := bodyOf Try.f24
noncomputable def c24_1 : Code := cl c24_0
theorem w24_1 : awp X n c24_1 Q ((a0::a1::a2::a3::a4::a5::a6::a7::a8::a9::b0::b1::b2::b3::b4::b5::b6::b7::b8::b9::d0::d1::d2::d3::d4::d5::d6::d7::d8::d9::e0::e1::e2::[]), h) = (a_mov (.v (.slice none 0 0)) h (.c (fun t2 h1 => a_mov (.v (.int .i64 0)) h1 (.c (fun t3 h2 => Q .normal ((a0::a1::t2::t3::a4::a5::a6::a7::a8::a9::b0::b1::b2::b3::b4::b5::b6::b7::b8::b9::d0::d1::d2::d3::d4::d5::d6::d7::d8::d9::e0::e1::e2::[]), h2)) ())) ())) := by rw [awp_eq]; kernel_rfl
noncomputable def c24_2 : Code := cr c24_0
noncomputable def c24_3 : Code := cl c24_2
theorem w24_3 : awp X n c24_3 Q ((a0::a1::a2::a3::a4::a5::a6::a7::a8::a9::b0::b1::b2::b3::b4::b5::b6::b7::b8::b9::d0::d1::d2::d3::d4::d5::d6::d7::d8::d9::e0::e1::e2::[]), h) = (a_mov a0 h (.c (fun t7 h1 => a_build [.v (.slice none 0 0), .v (.int .i64 0), .v (.int .i64 0)] [(0, 1, t7)] h1 (.c (fun t8 h2 => a_box t8 h2 (.c (fun t9 h3 => a_mov t9 h3 (.c (fun t4 h4 => Q .normal ((a0::a1::a2::a3::t4::a5::a6::t7::t8::t9::b0::b1::b2::b3::b4::b5::b6::b7::b8::b9::d0::d1::d2::d3::d4::d5::d6::d7::d8::d9::e0::e1::e2::[]), h4)) ())) ())) ())) ())) := by rw [awp_eq]; kernel_rfl
noncomputable def c24_4 : Code := cr c24_2
noncomputable def c24_5 : Code := cl c24_4
theorem w24_5 : awp X n c24_5 Q ((a0::a1::a2::a3::a4::a5::a6::a7::a8::a9::b0::b1::b2::b3::b4::b5::b6::b7::b8::b9::d0::d1::d2::d3::d4::d5::d6::d7::d8::d9::e0::e1::e2::[]), h) = (a_mov (.v (.slice none 0 0)) h (.c (fun t5 h1 => Q .normal ((a0::a1::a2::a3::a4::t5::a6::a7::a8::a9::b0::b1::b2::b3::b4::b5::b6::b7::b8::b9::d0::d1::d2::d3::d4::d5::d6::d7::d8::d9::e0::e1::e2::[]), h1)) ())) := by rw [awp_eq]; kernel_rfl
noncomputable def c24_6 : Code := cr c24_4
noncomputable def c24_7 : Code := cl c24_6
noncomputable def c24_8 : Code := cl c24_7
noncomputable def c24_9 : Code := cl c24_8
noncomputable def c24_10 : Code := cl c24_9
noncomputable def c24_11 : Code := cl c24_10
theorem w24_11 : awp X n c24_11 Q ((a0::a1::a2::a3::a4::a5::a6::a7::a8::a9::b0::b1::b2::b3::b4::b5::b6::b7::b8::b9::d0::d1::d2::d3::d4::d5::d6::d7::d8::d9::e0::e1::e2::[]), h) = (a_mov a4 h (.c (fun t10 h1 => a_nilc t10 h1 (.c (fun t11 h2 => a_fa 1 t11 h2 (.c (fun t12 h3 => a_load 1 false t12 h3 (.c (fun t13 h4 => a_mov a0 h4 (.c (fun t14 h5 => a_len t14 h5 (.c (fun t15 h6 => a_bin .lss t13 t15 h6 (.c (fun t16 h7 => Q .normal ((a0::a1::a2::a3::a4::a5::a6::a7::a8::a9::t10::t11::t12::t13::t14::t15::t16::b7::b8::b9::d0::d1::d2::d3::d4::d5::d6::d7::d8::d9::e0::e1::e2::[]), h7)) ())) ())) ())) ())) ())) ())) ())) := by rw [awp_eq]; kernel_rfl
noncomputable def c24_12 : Code := cr c24_10
noncomputable def c24_13 : Code := cl c24_12
theorem w24_13 : awp X n c24_13 Q st = Q .normal st := by rw [awp_eq]; kernel_rfl
noncomputable def c24_14 : Code := cr c24_12
theorem w24_14 : awp X n c24_14 Q st = Q (.exit 0) st := by rw [awp_eq]; kernel_rfl
theorem w24_12 : awp X n c24_12 Q ((a0::a1::a2::a3::a4::a5::a6::a7::a8::a9::b0::b1::b2::b3::b4::b5::b6::b7::b8::b9::d0::d1::d2::d3::d4::d5::d6::d7::d8::d9::e0::e1::e2::[]), h) = a_cond b6 (awp X n c24_13 Q ((a0::a1::a2::a3::a4::a5::a6::a7::a8::a9::b0::b1::b2::b3::b4::b5::b6::b7::b8::b9::d0::d1::d2::d3::d4::d5::d6::d7::d8::d9::e0::e1::e2::[]), h)) (awp X n c24_14 Q ((a0::a1::a2::a3::a4::a5::a6::a7::a8::a9::b0::b1::b2::b3::b4::b5::b6::b7::b8::b9::d0::d1::d2::d3::d4::d5::d6::d7::d8::d9::e0::e1::e2::[]), h)) := by rw [awp_eq]; kernel_rfl
theorem w24_10 : awp X n c24_10 Q st = awp X n c24_11 (thenQ (awp X n c24_12 Q) Q) st := by rw [awp_eq]; kernel_rfl
noncomputable def c24_15 : Code := cr c24_9
noncomputable def c24_16 : Code := cl c24_15
noncomputable def c24_17 : Code := cl c24_16
theorem w24_17 : awp X n c24_17 Q ((a0::a1::a2::a3::a4::a5::a6::a7::a8::a9::b0::b1::b2::b3::b4::b5::b6::b7::b8::b9::d0::d1::d2::d3::d4::d5::d6::d7::d8::d9::e0::e1::e2::[]), h) = (a_mov a4 h (.c (fun t17 h1 => ACall X 30 [t17] h1 (.c (fun t18 h2 => a_mov t18 h2 (.c (fun t6 h3 => Q .normal ((a0::a1::a2::a3::a4::a5::t6::a7::a8::a9::b0::b1::b2::b3::b4::b5::b6::t17::t18::b9::d0::d1::d2::d3::d4::d5::d6::d7::d8::d9::e0::e1::e2::[]), h3)) ())) ())) ())) := by rw [awp_eq]; kernel_rfl
noncomputable def c24_18 : Code := cr c24_16
noncomputable def c24_19 : Code := cl c24_18
noncomputable def c24_20 : Code := cl c24_19
theorem w24_20 : awp X n c24_20 Q ((a0::a1::a2::a3::a4::a5::a6::a7::a8::a9::b0::b1::b2::b3::b4::b5::b6::b7::b8::b9::d0::d1::d2::d3::d4::d5::d6::d7::d8::d9::e0::e1::e2::[]), h) = (a_mov a4 h (.c (fun t19 h1 => a_nilc t19 h1 (.c (fun t20 h2 => a_fa 2 t20 h2 (.c (fun t21 h3 => a_load 1 false t21 h3 (.c (fun t22 h4 => a_bin .neq t22 (.v (.int .i64 0)) h4 (.c (fun t23 h5 => Q .normal ((a0::a1::a2::a3::a4::a5::a6::a7::a8::a9::b0::b1::b2::b3::b4::b5::b6::b7::b8::t19::t20::t21::t22::t23::d4::d5::d6::d7::d8::d9::e0::e1::e2::[]), h5)) ())) ())) ())) ())) ())) := by rw [awp_eq]; kernel_rfl
noncomputable def c24_21 : Code := cr c24_19
noncomputable def c24_22 : Code := cl c24_21
noncomputable def c24_23 : Code := cl c24_22
theorem w24_23 : awp X n c24_23 Q ((a0::a1::a2::a3::a4::a5::a6::a7::a8::a9::b0::b1::b2::b3::b4::b5::b6::b7::b8::b9::d0::d1::d2::d3::d4::d5::d6::d7::d8::d9::e0::e1::e2::[]), h) = (a_mov a4 h (.c (fun t24 h1 => a_nilc t24 h1 (.c (fun t25 h2 => a_fa 2 t25 h2 (.c (fun t26 h3 => a_load 1 false t26 h3 (.c (fun t27 h4 => a_mov (.v (.slice none 0 0)) h4 (.c (fun t2 h5 => a_mov t27 h5 (.c (fun t3 h6 => Q .normal ((a0::a1::t2::t3::a4::a5::a6::a7::a8::a9::b0::b1::b2::b3::b4::b5::b6::b7::b8::b9::d0::d1::d2::d3::t24::t25::t26::t27::d8::d9::e0::e1::e2::[]), h6)) ())) ())) ())) ())) ())) ())) := by rw [awp_eq]; kernel_rfl
noncomputable def c24_24 : Code := cr c24_22
theorem w24_24 : awp X n c24_24 Q st = Q .ret st := by rw [awp_eq]; kernel_rfl
theorem w24_22 : awp X n c24_22 Q st = awp X n c24_23 (thenQ (awp X n c24_24 Q) Q) st := by rw [awp_eq]; kernel_rfl
noncomputable def c24_25 : Code := cr c24_21
theorem w24_25 : awp X n c24_25 Q st = Q .normal st := by rw [awp_eq]; kernel_rfl
theorem w24_21 : awp X n c24_21 Q ((a0::a1::a2::a3::a4::a5::a6::a7::a8::a9::b0::b1::b2::b3::b4::b5::b6::b7::b8::b9::d0::d1::d2::d3::d4::d5::d6::d7::d8::d9::e0::e1::e2::[]), h) = a_cond d3 (awp X n c24_22 Q ((a0::a1::a2::a3::a4::a5::a6::a7::a8::a9::b0::b1::b2::b3::b4::b5::b6::b7::b8::b9::d0::d1::d2::d3::d4::d5::d6::d7::d8::d9::e0::e1::e2::[]), h)) (awp X n c24_25 Q ((a0::a1::a2::a3::a4::a5::a6::a7::a8::a9::b0::b1::b2::b3::b4::b5::b6::b7::b8::b9::d0::d1::d2::d3::d4::d5::d6::d7::d8::d9::e0::e1::e2::[]), h)) := by rw [awp_eq]; kernel_rfl
theorem w24_19 : awp X n c24_19 Q st = awp X n c24_20 (thenQ (awp X n c24_21 Q) Q) st := by rw [awp_eq]; kernel_rfl
noncomputable def c24_26 : Code := cr c24_18
theorem w24_26 : awp X n c24_26 Q ((a0::a1::a2::a3::a4::a5::a6::a7::a8::a9::b0::b1::b2::b3::b4::b5::b6::b7::b8::b9::d0::d1::d2::d3::d4::d5::d6::d7::d8::d9::e0::e1::e2::[]), h) = (a_mov a5 h (.c (fun t28 h1 => a_mov a6 h1 (.c (fun t29 h2 => a_lit 1 1 [.v (.string ⟨#[]⟩)] [(0, 1, t29)] h2 (.c (fun t30 h3 => a_app 1 16 t28 t30 h3 (.c (fun t31 h4 => a_mov t31 h4 (.c (fun t5 h5 => Q .normal ((a0::a1::a2::a3::a4::t5::a6::a7::a8::a9::b0::b1::b2::b3::b4::b5::b6::b7::b8::b9::d0::d1::d2::d3::d4::d5::d6::d7::t28::t29::t30::t31::e2::[]), h5)) ())) ())) ())) ())) ())) := by rw [awp_eq]; kernel_rfl
theorem w24_18 : awp X n c24_18 Q st = awp X n c24_19 (thenQ (awp X n c24_26 Q) Q) st := by rw [awp_eq]; kernel_rfl
theorem w24_16 : awp X n c24_16 Q st = awp X n c24_17 (thenQ (awp X n c24_18 Q) Q) st := by rw [awp_eq]; kernel_rfl
theorem w24_15 : awp X n c24_15 Q st = awp X n c24_16 (blockQ 1 Q) st := by rw [awp_eq]; kernel_rfl
theorem w24_9 : awp X n c24_9 Q st = awp X n c24_10 (thenQ (awp X n c24_15 Q) Q) st := by rw [awp_eq]; kernel_rfl
theorem w24_8 : awp X n c24_8 Q st = ALoop X n c24_9 Q st := by rw [awp_eq]; kernel_rfl
theorem w24_7 : awp X n c24_7 Q st = awp X n c24_8 (blockQ 0 Q) st := by rw [awp_eq]; kernel_rfl
noncomputable def c24_27 : Code := cr c24_6
noncomputable def c24_28 : Code := cl c24_27
theorem w24_28 : awp X n c24_28 Q ((a0::a1::a2::a3::a4::a5::a6::a7::a8::a9::b0::b1::b2::b3::b4::b5::b6::b7::b8::b9::d0::d1::d2::d3::d4::d5::d6::d7::d8::d9::e0::e1::e2::[]), h) = (a_mov a5 h (.c (fun t32 h1 => a_mov t32 h1 (.c (fun t2 h2 => a_mov (.v (.int .i64 0)) h2 (.c (fun t3 h3 => Q .normal ((a0::a1::t2::t3::a4::a5::a6::a7::a8::a9::b0::b1::b2::b3::b4::b5::b6::b7::b8::b9::d0::d1::d2::d3::d4::d5::d6::d7::d8::d9::e0::e1::t32::[]), h3)) ())) ())) ())) := by rw [awp_eq]; kernel_rfl
noncomputable def c24_29 : Code := cr c24_27
theorem w24_29 : awp X n c24_29 Q st = Q .ret st := by rw [awp_eq]; kernel_rfl
theorem w24_27 : awp X n c24_27 Q st = awp X n c24_28 (thenQ (awp X n c24_29 Q) Q) st := by rw [awp_eq]; kernel_rfl
theorem w24_6 : awp X n c24_6 Q st = awp X n c24_7 (thenQ (awp X n c24_27 Q) Q) st := by rw [awp_eq]; kernel_rfl
theorem w24_4 : awp X n c24_4 Q st = awp X n c24_5 (thenQ (awp X n c24_6 Q) Q) st := by rw [awp_eq]; kernel_rfl
theorem w24_2 : awp X n c24_2 Q st = awp X n c24_3 (thenQ (awp X n c24_4 Q) Q) st := by rw [awp_eq]; kernel_rfl
theorem w24_0 : awp X n c24_0 Q st = awp X n c24_1 (thenQ (awp X n c24_2 Q) Q) st := by rw [awp_eq]; kernel_rfl
theorem q24_ret : retQ X Try.f24 K .ret ((a0::a1::a2::a3::a4::a5::a6::a7::a8::a9::b0::b1::b2::b3::b4::b5::b6::b7::b8::b9::d0::d1::d2::d3::d4::d5::d6::d7::d8::d9::e0::e1::e2::[]), h) = (K.K (.t [a2, a3]) h) := by kernel_rfl
theorem q24_normal : retQ X Try.f24 K .normal ((a0::a1::a2::a3::a4::a5::a6::a7::a8::a9::b0::b1::b2::b3::b4::b5::b6::b7::b8::b9::d0::d1::d2::d3::d4::d5::d6::d7::d8::d9::e0::e1::e2::[]), h) = (K.K (.t [a2, a3]) h) := by kernel_rfl
theorem i24 (H : awp X h.length c24_0 (retQ X Try.f24 K) ((a0::.bad::.bad::.bad::.bad::.bad::.bad::.bad::.bad::.bad::.bad::.bad::.bad::.bad::.bad::.bad::.bad::.bad::.bad::.bad::.bad::.bad::.bad::.bad::.bad::.bad::.bad::.bad::.bad::.bad::.bad::.bad::.bad::[]), h)) : ACall X 24 [a0] h K := acall_intro (fn := Try.f24) (by kernel_rfl) (by kernel_rfl) (by kernel_rfl) H
noncomputable def R24 := And.intro (And.intro (And.intro (And.intro (And.intro w24_1 w24_3) (And.intro w24_5 w24_11)) (And.intro (And.intro w24_13 w24_14) (And.intro w24_12 w24_10))) (And.intro (And.intro (And.intro w24_17 w24_20) (And.intro w24_23 w24_24)) (And.intro (And.intro w24_22 w24_25) (And.intro w24_21 w24_19)))) (And.intro (And.intro (And.intro (And.intro w24_26 w24_18) (And.intro w24_16 w24_15)) (And.intro (And.intro w24_9 w24_8) (And.intro w24_7 w24_28))) (And.intro (And.intro (And.intro w24_29 w24_27) (And.intro w24_6 w24_4)) (And.intro (And.intro w24_2 w24_0) (And.intro q24_ret q24_normal))))
/-! function 27: sindri/cstr.Take -/
noncomputable def c27_0 : Code := bodyOf Try.f27
noncomputable def c27_1 : Code := cl c27_0
theorem w27_1 : awp X n c27_1 Q ((a0::a1::a2::a3::a4::a5::a6::a7::a8::a9::b0::b1::b2::b3::b4::b5::b6::b7::b8::b9::d0::d1::d2::d3::d4::d5::d6::d7::d8::d9::e0::e1::e2::e3::e4::e5::e6::e7::e8::e9::f0::[]), h) = (a_mov (.v (.string ⟨#[]⟩)) h (.c (fun t2 h1 => Q .normal ((a0::a1::t2::a3::a4::a5::a6::a7::a8::a9::b0::b1::b2::b3::b4::b5::b6::b7::b8::b9::d0::d1::d2::d3::d4::d5::d6::d7::d8::d9::e0::e1::e2::e3::e4::e5::e6::e7::e8::e9::f0::[]), h1)) ())) := by rw [awp_eq]; kernel_rfl
noncomputable def c27_2 : Code := cr c27_0
noncomputable def c27_3 : Code := cl c27_2
noncomputable def c27_4 : Code := cl c27_3
noncomputable def c27_5 : Code := cl c27_4
theorem w27_5 : awp X n c27_5 Q ((a0::a1::a2::a3::a4::a5::a6::a7::a8::a9::b0::b1::b2::b3::b4::b5::b6::b7::b8::b9::d0::d1::d2::d3::d4::d5::d6::d7::d8::d9::e0::e1::e2::e3::e4::e5::e6::e7::e8::e9::f0::[]), h) = (a_mov a0 h (.c (fun t6 h1 => ACall X 28 [t6] h1 (.c (fun t7 h2 => a_bin .neq t7 (.v (.int .i64 0)) h2 (.c (fun t8 h3 => Q .normal ((a0::a1::a2::a3::a4::a5::t6::t7::t8::a9::b0::b1::b2::b3::b4::b5::b6::b7::b8::b9::d0::d1::d2::d3::d4::d5::d6::d7::d8::d9::e0::e1::e2::e3::e4::e5::e6::e7::e8::e9::f0::[]), h3)) ())) ())) ())) := by rw [awp_eq]; kernel_rfl
noncomputable def c27_6 : Code := cr c27_4
noncomputable def c27_7 : Code := cl c27_6
noncomputable def c27_8 : Code := cl c27_7
theorem w27_8 : awp X n c27_8 Q ((a0::a1::a2::a3::a4::a5::a6::a7::a8::a9::b0::b1::b2::b3::b4::b5::b6::b7::b8::b9::d0::d1::d2::d3::d4::d5::d6::d7::d8::d9::e0::e1::e2::e3::e4::e5::e6::e7::e8::e9::f0::[]), h) = (a_mov (.v (.string ⟨#[]⟩)) h (.c (fun t2 h1 => Q .normal ((a0::a1::t2::a3::a4::a5::a6::a7::a8::a9::b0::b1::b2::b3::b4::b5::b6::b7::b8::b9::d0::d1::d2::d3::d4::d5::d6::d7::d8::d9::e0::e1::e2::e3::e4::e5::e6::e7::e8::e9::f0::[]), h1)) ())) := by rw [awp_eq]; kernel_rfl
noncomputable def c27_9 : Code := cr c27_7
theorem w27_9 : awp X n c27_9 Q st = Q .ret st := by rw [awp_eq]; kernel_rfl
theorem w27_7 : awp X n c27_7 Q st = awp X n c27_8 (thenQ (awp X n c27_9 Q) Q) st := by rw [awp_eq]; kernel_rfl
noncomputable def c27_10 : Code := cr c27_6
theorem w27_10 : awp X n c27_10 Q st = Q .normal st := by rw [awp_eq]; kernel_rfl
theorem w27_6 : awp X n c27_6 Q ((a0::a1::a2::a3::a4::a5::a6::a7::a8::a9::b0::b1::b2::b3::b4::b5::b6::b7::b8::b9::d0::d1::d2::d3::d4::d5::d6::d7::d8::d9::e0::e1::e2::e3::e4::e5::e6::e7::e8::e9::f0::[]), h) = a_cond a8 (awp X n c27_7 Q ((a0::a1::a2::a3::a4::a5::a6::a7::a8::a9::b0::b1::b2::b3::b4::b5::b6::b7::b8::b9::d0::d1::d2::d3::d4::d5::d6::d7::d8::d9::e0::e1::e2::e3::e4::e5::e6::e7::e8::e9::f0::[]), h)) (awp X n c27_10 Q ((a0::a1::a2::a3::a4::a5::a6::a7::a8::a9::b0::b1::b2::b3::b4::b5::b6::b7::b8::b9::d0::d1::d2::d3::d4::d5::d6::d7::d8::d9::e0::e1::e2::e3::e4::e5::e6::e7::e8::e9::f0::[]), h)) := by rw [awp_eq]; kernel_rfl
theorem w27_4 : awp X n c27_4 Q st = awp X n c27_5 (thenQ (awp X n c27_6 Q) Q) st := by rw [awp_eq]; kernel_rfl
noncomputable def c27_11 : Code := cr c27_3
noncomputable def c27_12 : Code := cl c27_11
theorem w27_12 : awp X n c27_12 Q ((a0::a1::a2::a3::a4::a5::a6::a7::a8::a9::b0::b1::b2::b3::b4::b5::b6::b7::b8::b9::d0::d1::d2::d3::d4::d5::d6::d7::d8::d9::e0::e1::e2::e3::e4::e5::e6::e7::e8::e9::f0::[]), h) = (a_mov a0 h (.c (fun t9 h1 => ACall X 32 [t9] h1 (.c (fun t10 h2 => a_cint .u64 t10 h2 (.c (fun t11 h3 => a_mov t11 h3 (.c (fun t3 h4 => Q .normal ((a0::a1::a2::t3::a4::a5::a6::a7::a8::t9::t10::t11::b2::b3::b4::b5::b6::b7::b8::b9::d0::d1::d2::d3::d4::d5::d6::d7::d8::d9::e0::e1::e2::e3::e4::e5::e6::e7::e8::e9::f0::[]), h4)) ())) ())) ())) ())) := by rw [awp_eq]; kernel_rfl
noncomputable def c27_13 : Code := cr c27_11
noncomputable def c27_14 : Code := cl c27_13
theorem w27_14 : awp X n c27_14 Q ((a0::a1::a2::a3::a4::a5::a6::a7::a8::a9::b0::b1::b2::b3::b4::b5::b6::b7::b8::b9::d0::d1::d2::d3::d4::d5::d6::d7::d8::d9::e0::e1::e2::e3::e4::e5::e6::e7::e8::e9::f0::[]), h) = (a_mov (.v (.int .u64 0)) h (.c (fun t4 h1 => Q .normal ((a0::a1::a2::a3::t4::a5::a6::a7::a8::a9::b0::b1::b2::b3::b4::b5::b6::b7::b8::b9::d0::d1::d2::d3::d4::d5::d6::d7::d8::d9::e0::e1::e2::e3::e4::e5::e6::e7::e8::e9::f0::[]), h1)) ())) := by rw [awp_eq]; kernel_rfl
noncomputable def c27_15 : Code := cr c27_13
noncomputable def c27_16 : Code := cl c27_15
theorem w27_16 : awp X n c27_16 Q st = Q .normal st := by rw [awp_eq]; kernel_rfl
noncomputable def c27_17 : Code := cr c27_15
noncomputable def c27_18 : Code := cl c27_17
noncomputable def c27_19 : Code := cl c27_18
noncomputable def c27_20 : Code := cl c27_19
noncomputable def c27_21 : Code := cl c27_20
noncomputable def c27_22 : Code := cl c27_21
noncomputable def c27_23 : Code := cl c27_22
noncomputable def c27_24 : Code := cl c27_23
theorem w27_24 : awp X n c27_24 Q ((a0::a1::a2::a3::a4::a5::a6::a7::a8::a9::b0::b1::b2::b3::b4::b5::b6::b7::b8::b9::d0::d1::d2::d3::d4::d5::d6::d7::d8::d9::e0::e1::e2::e3::e4::e5::e6::e7::e8::e9::f0::[]), h) = (a_mov a0 h (.c (fun t13 h1 => ACall X 33 [t13] h1 (.c (fun t14 h2 => a_bin .eql t14 (.v (.int .i64 0)) h2 (.c (fun t15 h3 => a_mov t15 h3 (.c (fun t12 h4 => Q .normal ((a0::a1::a2::a3::a4::a5::a6::a7::a8::a9::b0::b1::t12::t13::t14::t15::b6::b7::b8::b9::d0::d1::d2::d3::d4::d5::d6::d7::d8::d9::e0::e1::e2::e3::e4::e5::e6::e7::e8::e9::f0::[]), h4)) ())) ())) ())) ())) := by rw [awp_eq]; kernel_rfl
noncomputable def c27_25 : Code := cr c27_23
noncomputable def c27_26 : Code := cl c27_25
noncomputable def c27_27 : Code := cl c27_26
theorem w27_27 : awp X n c27_27 Q ((a0::a1::a2::a3::a4::a5::a6::a7::a8::a9::b0::b1::b2::b3::b4::b5::b6::b7::b8::b9::d0::d1::d2::d3::d4::d5::d6::d7::d8::d9::e0::e1::e2::e3::e4::e5::e6::e7::e8::e9::f0::[]), h) = (a_mov a0 h (.c (fun t16 h1 => a_mov a3 h1 (.c (fun t17 h2 => ACall X 34 [t16, t17] h2 (.c (fun t18 h3 => Q .normal ((a0::a1::a2::a3::a4::a5::a6::a7::a8::a9::b0::b1::b2::b3::b4::b5::t16::t17::t18::b9::d0::d1::d2::d3::d4::d5::d6::d7::d8::d9::e0::e1::e2::e3::e4::e5::e6::e7::e8::e9::f0::[]), h3)) ())) ())) ())) := by rw [awp_eq]; kernel_rfl
noncomputable def c27_28 : Code := cr c27_26
noncomputable def c27_29 : Code := cl c27_28
theorem w27_29 : awp X n c27_29 Q ((a0::a1::a2::a3::a4::a5::a6::a7::a8::a9::b0::b1::b2::b3::b4::b5::b6::b7::b8::b9::d0::d1::d2::d3::d4::d5::d6::d7::d8::d9::e0::e1::e2::e3::e4::e5::e6::e7::e8::e9::f0::[]), h) = (a_mov a0 h (.c (fun t19 h1 => ACall X 35 [t19, (.v (.int .i64 12))] h1 (.c (fun t20 h2 => Q .normal ((a0::a1::a2::a3::a4::a5::a6::a7::a8::a9::b0::b1::b2::b3::b4::b5::b6::b7::b8::t19::t20::d1::d2::d3::d4::d5::d6::d7::d8::d9::e0::e1::e2::e3::e4::e5::e6::e7::e8::e9::f0::[]), h2)) ())) ())) := by rw [awp_eq]; kernel_rfl
noncomputable def c27_30 : Code := cr c27_28
noncomputable def c27_31 : Code := cl c27_30
theorem w27_31 : awp X n c27_31 Q ((a0::a1::a2::a3::a4::a5::a6::a7::a8::a9::b0::b1::b2::b3::b4::b5::b6::b7::b8::b9::d0::d1::d2::d3::d4::d5::d6::d7::d8::d9::e0::e1::e2::e3::e4::e5::e6::e7::e8::e9::f0::[]), h) = (a_mov (.v (.string ⟨#[]⟩)) h (.c (fun t2 h1 => Q .normal ((a0::a1::t2::a3::a4::a5::a6::a7::a8::a9::b0::b1::b2::b3::b4::b5::b6::b7::b8::b9::d0::d1::d2::d3::d4::d5::d6::d7::d8::d9::e0::e1::e2::e3::e4::e5::e6::e7::e8::e9::f0::[]), h1)) ())) := by rw [awp_eq]; kernel_rfl
noncomputable def c27_32 : Code := cr c27_30
theorem w27_32 : awp X n c27_32 Q st = Q .ret st := by rw [awp_eq]; kernel_rfl
theorem w27_30 : awp X n c27_30 Q st = awp X n c27_31 (thenQ (awp X n c27_32 Q) Q) st := by rw [awp_eq]; kernel_rfl
theorem w27_28 : awp X n c27_28 Q st = awp X n c27_29 (thenQ (awp X n c27_30 Q) Q) st := by rw [awp_eq]; kernel_rfl
theorem w27_26 : awp X n c27_26 Q st = awp X n c27_27 (thenQ (awp X n c27_28 Q) Q) st := by rw [awp_eq]; kernel_rfl
noncomputable def c27_33 : Code := cr c27_25
noncomputable def c27_34 : Code := cl c27_33
theorem w27_34 : awp X n c27_34 Q ((a0::a1::a2::a3::a4::a5::a6::a7::a8::a9::b0::b1::b2::b3::b4::b5::b6::b7::b8::b9::d0::d1::d2::d3::d4::d5::d6::d7::d8::d9::e0::e1::e2::e3::e4::e5::e6::e7::e8::e9::f0::[]), h) = (a_mov a0 h (.c (fun t22 h1 => ACall X 36 [t22] h1 (.c (fun t23 h2 => a_bin .eql t23 (.v (.int .u64 0)) h2 (.c (fun t24 h3 => a_mov t24 h3 (.c (fun t21 h4 => Q .normal ((a0::a1::a2::a3::a4::a5::a6::a7::a8::a9::b0::b1::b2::b3::b4::b5::b6::b7::b8::b9::d0::t21::t22::t23::t24::d5::d6::d7::d8::d9::e0::e1::e2::e3::e4::e5::e6::e7::e8::e9::f0::[]), h4)) ())) ())) ())) ())) := by rw [awp_eq]; kernel_rfl
noncomputable def c27_35 : Code := cr c27_33
noncomputable def c27_36 : Code := cl c27_35
theorem w27_36 : awp X n c27_36 Q st = Q (.exit 0) st := by rw [awp_eq]; kernel_rfl
noncomputable def c27_37 : Code := cr c27_35
theorem w27_37 : awp X n c27_37 Q st = Q .normal st := by rw [awp_eq]; kernel_rfl
theorem w27_35 : awp X n c27_35 Q ((a0::a1::a2::a3::a4::a5::a6::a7::a8::a9::b0::b1::b2::b3::b4::b5::b6::b7::b8::b9::d0::d1::d2::d3::d4::d5::d6::d7::d8::d9::e0::e1::e2::e3::e4::e5::e6::e7::e8::e9::f0::[]), h) = a_cond d1 (awp X n c27_36 Q ((a0::a1::a2::a3::a4::a5::a6::a7::a8::a9::b0::b1::b2::b3::b4::b5::b6::b7::b8::b9::d0::d1::d2::d3::d4::d5::d6::d7::d8::d9::e0::e1::e2::e3::e4::e5::e6::e7::e8::e9::f0::[]), h)) (awp X n c27_37 Q ((a0::a1::a2::a3::a4::a5::a6::a7::a8::a9::b0::b1::b2::b3::b4::b5::b6::b7::b8::b9::d0::d1::d2::d3::d4::d5::d6::d7::d8::d9::e0::e1::e2::e3::e4::e5::e6::e7::e8::e9::f0::[]), h)) := by rw [awp_eq]; kernel_rfl
theorem w27_33 : awp X n c27_33 Q st = awp X n c27_34 (thenQ (awp X n c27_35 Q) Q) st := by rw [awp_eq]; kernel_rfl
theorem w27_25 : awp X n c27_25 Q ((a0::a1::a2::a3::a4::a5::a6::a7::a8::a9::b0::b1::b2::b3::b4::b5::b6::b7::b8::b9::d0::d1::d2::d3::d4::d5::d6::d7::d8::d9::e0::e1::e2::e3::e4::e5::e6::e7::e8::e9::f0::[]), h) = a_cond b2 (awp X n c27_26 Q ((a0::a1::a2::a3::a4::a5::a6::a7::a8::a9::b0::b1::b2::b3::b4::b5::b6::b7::b8::b9::d0::d1::d2::d3::d4::d5::d6::d7::d8::d9::e0::e1::e2::e3::e4::e5::e6::e7::e8::e9::f0::[]), h)) (awp X n c27_33 Q ((a0::a1::a2::a3::a4::a5::a6::a7::a8::a9::b0::b1::b2::b3::b4::b5::b6::b7::b8::b9::d0::d1::d2::d3::d4::d5::d6::d7::d8::d9::e0::e1::e2::e3::e4::e5::e6::e7::e8::e9::f0::[]), h)) := by rw [awp_eq]; kernel_rfl
theorem w27_23 : awp X n c27_23 Q st = awp X n c27_24 (thenQ (awp X n c27_25 Q) Q) st := by rw [awp_eq]; kernel_rfl
theorem w27_22 : awp X n c27_22 Q st = awp X n c27_23 (blockQ 2 Q) st := by rw [awp_eq]; kernel_rfl
noncomputable def c27_38 : Code := cr c27_21
theorem w27_38 : awp X n c27_38 Q ((a0::a1::a2::a3::a4::a5::a6::a7::a8::a9::b0::b1::b2::b3::b4::b5::b6::b7::b8::b9::d0::d1::d2::d3::d4::d5::d6::d7::d8::d9::e0::e1::e2::e3::e4::e5::e6::e7::e8::e9::f0::[]), h) = (a_mov a4 h (.c (fun t25 h1 => a_bin .add t25 (.v (.int .u64 1)) h1 (.c (fun t26 h2 => a_mov t26 h2 (.c (fun t4 h3 => Q .normal ((a0::a1::a2::a3::t4::a5::a6::a7::a8::a9::b0::b1::b2::b3::b4::b5::b6::b7::b8::b9::d0::d1::d2::d3::d4::t25::t26::d7::d8::d9::e0::e1::e2::e3::e4::e5::e6::e7::e8::e9::f0::[]), h3)) ())) ())) ())) := by rw [awp_eq]; kernel_rfl
theorem w27_21 : awp X n c27_21 Q st = awp X n c27_22 (thenQ (awp X n c27_38 Q) Q) st := by rw [awp_eq]; kernel_rfl
theorem w27_20 : awp X n c27_20 Q st = awp X n c27_21 (blockQ 1 Q) st := by rw [awp_eq]; kernel_rfl
theorem w27_19 : awp X n c27_19 Q st = ALoop X n c27_20 Q st := by rw [awp_eq]; kernel_rfl
theorem w27_18 : awp X n c27_18 Q st = awp X n c27_19 (blockQ 0 Q) st := by rw [awp_eq]; kernel_rfl
noncomputable def c27_39 : Code := cr c27_17
noncomputable def c27_40 : Code := cl c27_39
theorem w27_40 : awp X n c27_40 Q ((a0::a1::a2::a3::a4::a5::a6::a7::a8::a9::b0::b1::b2::b3::b4::b5::b6::b7::b8::b9::d0::d1::d2::d3::d4::d5::d6::d7::d8::d9::e0::e1::e2::e3::e4::e5::e6::e7::e8::e9::f0::[]), h) = (a_mov a0 h (.c (fun t27 h1 => a_mov a3 h1 (.c (fun t28 h2 => ACall X 34 [t27, t28] h2 (.c (fun t29 h3 => Q .normal ((a0::a1::a2::a3::a4::a5::a6::a7::a8::a9::b0::b1::b2::b3::b4::b5::b6::b7::b8::b9::d0::d1::d2::d3::d4::d5::d6::t27::t28::t29::e0::e1::e2::e3::e4::e5::e6::e7::e8::e9::f0::[]), h3)) ())) ())) ())) := by rw [awp_eq]; kernel_rfl
noncomputable def c27_41 : Code := cr c27_39
noncomputable def c27_42 : Code := cl c27_41
noncomputable def c27_43 : Code := cl c27_42
theorem w27_43 : awp X n c27_43 Q ((a0::a1::a2::a3::a4::a5::a6::a7::a8::a9::b0::b1::b2::b3::b4::b5::b6::b7::b8::b9::d0::d1::d2::d3::d4::d5::d6::d7::d8::d9::e0::e1::e2::e3::e4::e5::e6::e7::e8::e9::f0::[]), h) = (a_mov a4 h (.c (fun t30 h1 => a_bin .gtr t30 (.v (.int .u64 200)) h1 (.c (fun t31 h2 => Q .normal ((a0::a1::a2::a3::a4::a5::a6::a7::a8::a9::b0::b1::b2::b3::b4::b5::b6::b7::b8::b9::d0::d1::d2::d3::d4::d5::d6::d7::d8::d9::t30::t31::e2::e3::e4::e5::e6::e7::e8::e9::f0::[]), h2)) ())) ())) := by rw [awp_eq]; kernel_rfl
noncomputable def c27_44 : Code := cr c27_42
noncomputable def c27_45 : Code := cl c27_44
noncomputable def c27_46 : Code := cl c27_45
theorem w27_46 : awp X n c27_46 Q ((a0::a1::a2::a3::a4::a5::a6::a7::a8::a9::b0::b1::b2::b3::b4::b5::b6::b7::b8::b9::d0::d1::d2::d3::d4::d5::d6::d7::d8::d9::e0::e1::e2::e3::e4::e5::e6::e7::e8::e9::f0::[]), h) = (a_mov a0 h (.c (fun t32 h1 => ACall X 35 [t32, (.v (.int .i64 3))] h1 (.c (fun t33 h2 => Q .normal ((a0::a1::a2::a3::a4::a5::a6::a7::a8::a9::b0::b1::b2::b3::b4::b5::b6::b7::b8::b9::d0::d1::d2::d3::d4::d5::d6::d7::d8::d9::e0::e1::t32::t33::e4::e5::e6::e7::e8::e9::f0::[]), h2)) ())) ())) := by rw [awp_eq]; kernel_rfl
noncomputable def c27_47 : Code := cr c27_45
noncomputable def c27_48 : Code := cl c27_47
theorem w27_48 : awp X n c27_48 Q ((a0::a1::a2::a3::a4::a5::a6::a7::a8::a9::b0::b1::b2::b3::b4::b5::b6::b7::b8::b9::d0::d1::d2::d3::d4::d5::d6::d7::d8::d9::e0::e1::e2::e3::e4::e5::e6::e7::e8::e9::f0::[]), h) = (a_mov (.v (.string ⟨#[]⟩)) h (.c (fun t2 h1 => Q .normal ((a0::a1::t2::a3::a4::a5::a6::a7::a8::a9::b0::b1::b2::b3::b4::b5::b6::b7::b8::b9::d0::d1::d2::d3::d4::d5::d6::d7::d8::d9::e0::e1::e2::e3::e4::e5::e6::e7::e8::e9::f0::[]), h1)) ())) := by rw [awp_eq]; kernel_rfl
noncomputable def c27_49 : Code := cr c27_47
theorem w27_49 : awp X n c27_49 Q st = Q .ret st := by rw [awp_eq]; kernel_rfl
theorem w27_47 : awp X n c27_47 Q st = awp X n c27_48 (thenQ (awp X n c27_49 Q) Q) st := by rw [awp_eq]; kernel_rfl
theorem w27_45 : awp X n c27_45 Q st = awp X n c27_46 (thenQ (awp X n c27_47 Q) Q) st := by rw [awp_eq]; kernel_rfl
noncomputable def c27_50 : Code := cr c27_44
theorem w27_50 : awp X n c27_50 Q st = Q .normal st := by rw [awp_eq]; kernel_rfl
theorem w27_44 : awp X n c27_44 Q ((a0::a1::a2::a3::a4::a5::a6::a7::a8::a9::b0::b1::b2::b3::b4::b5::b6::b7::b8::b9::d0::d1::d2::d3::d4::d5::d6::d7::d8::d9::e0::e1::e2::e3::e4::e5::e6::e7::e8::e9::f0::[]), h) = a_cond e1 (awp X n c27_45 Q ((a0::a1::a2::a3::a4::a5::a6::a7::a8::a9::b0::b1::b2::b3::b4::b5::b6::b7::b8::b9::d0::d1::d2::d3::d4::d5::d6::d7::d8::d9::e0::e1::e2::e3::e4::e5::e6::e7::e8::e9::f0::[]), h)) (awp X n c27_50 Q ((a0::a1::a2::a3::a4::a5::a6::a7::a8::a9::b0::b1::b2::b3::b4::b5::b6::b7::b8::b9::d0::d1::d2::d3::d4::d5::d6::d7::d8::d9::e0::e1::e2::e3::e4::e5::e6::e7::e8::e9::f0::[]), h)) := by rw [awp_eq]; kernel_rfl
theorem w27_42 : awp X n c27_42 Q st = awp X n c27_43 (thenQ (awp X n c27_44 Q) Q) st := by rw [awp_eq]; kernel_rfl
noncomputable def c27_51 : Code := cr c27_41
noncomputable def c27_52 : Code := cl c27_51
theorem w27_52 : awp X n c27_52 Q ((a0::a1::a2::a3::a4::a5::a6::a7::a8::a9::b0::b1::b2::b3::b4::b5::b6::b7::b8::b9::d0::d1::d2::d3::d4::d5::d6::d7::d8::d9::e0::e1::e2::e3::e4::e5::e6::e7::e8::e9::f0::[]), h) = (a_mov a0 h (.c (fun t34 h1 => a_mov a4 h1 (.c (fun t35 h2 => ACall X 37 [t34, t35] h2 (.c (fun t36 h3 => a_cstr t36 h3 (.c (fun t37 h4 => a_mov t37 h4 (.c (fun t5 h5 => Q .normal ((a0::a1::a2::a3::a4::t5::a6::a7::a8::a9::b0::b1::b2::b3::b4::b5::b6::b7::b8::b9::d0::d1::d2::d3::d4::d5::d6::d7::d8::d9::e0::e1::e2::e3::t34::t35::t36::t37::e8::e9::f0::[]), h5)) ())) ())) ())) ())) ())) := by rw [awp_eq]; kernel_rfl
noncomputable def c27_53 : Code := cr c27_51
noncomputable def c27_54 : Code := cl c27_53
theorem w27_54 : awp X n c27_54 Q ((a0::a1::a2::a3::a4::a5::a6::a7::a8::a9::b0::b1::b2::b3::b4::b5::b6::b7::b8::b9::d0::d1::d2::d3::d4::d5::d6::d7::d8::d9::e0::e1::e2::e3::e4::e5::e6::e7::e8::e9::f0::[]), h) = (a_mov a0 h (.c (fun t38 h1 => ACall X 36 [t38] h1 (.c (fun t39 h2 => Q .normal ((a0::a1::a2::a3::a4::a5::a6::a7::a8::a9::b0::b1::b2::b3::b4::b5::b6::b7::b8::b9::d0::d1::d2::d3::d4::d5::d6::d7::d8::d9::e0::e1::e2::e3::e4::e5::e6::e7::t38::t39::f0::[]), h2)) ())) ())) := by rw [awp_eq]; kernel_rfl
noncomputable def c27_55 : Code := cr c27_53
noncomputable def c27_56 : Code := cl c27_55
theorem w27_56 : awp X n c27_56 Q ((a0::a1::a2::a3::a4::a5::a6::a7::a8::a9::b0::b1::b2::b3::b4::b5::b6::b7::b8::b9::d0::d1::d2::d3::d4::d5::d6::d7::d8::d9::e0::e1::e2::e3::e4::e5::e6::e7::e8::e9::f0::[]), h) = (a_mov a5 h (.c (fun t40 h1 => a_mov t40 h1 (.c (fun t2 h2 => Q .normal ((a0::a1::t2::a3::a4::a5::a6::a7::a8::a9::b0::b1::b2::b3::b4::b5::b6::b7::b8::b9::d0::d1::d2::d3::d4::d5::d6::d7::d8::d9::e0::e1::e2::e3::e4::e5::e6::e7::e8::e9::t40::[]), h2)) ())) ())) := by rw [awp_eq]; kernel_rfl
noncomputable def c27_57 : Code := cr c27_55
theorem w27_57 : awp X n c27_57 Q st = Q .ret st := by rw [awp_eq]; kernel_rfl
theorem w27_55 : awp X n c27_55 Q st = awp X n c27_56 (thenQ (awp X n c27_57 Q) Q) st := by rw [awp_eq]; kernel_rfl
theorem w27_53 : awp X n c27_53 Q st = awp X n c27_54 (thenQ (awp X n c27_55 Q) Q) st := by rw [awp_eq]; kernel_rfl
theorem w27_51 : awp X n c27_51 Q st = awp X n c27_52 (thenQ (awp X n c27_53 Q) Q) st := by rw [awp_eq]; kernel_rfl
theorem w27_41 : awp X n c27_41 Q st = awp X n c27_42 (thenQ (awp X n c27_51 Q) Q) st := by rw [awp_eq]; kernel_rfl
theorem w27_39 : awp X n c27_39 Q st = awp X n c27_40 (thenQ (awp X n c27_41 Q) Q) st := by rw [awp_eq]; kernel_rfl
theorem w27_17 : awp X n c27_17 Q st = awp X n c27_18 (thenQ (awp X n c27_39 Q) Q) st := by rw [awp_eq]; kernel_rfl
theorem w27_15 : awp X n c27_15 Q st = awp X n c27_16 (thenQ (awp X n c27_17 Q) Q) st := by rw [awp_eq]; kernel_rfl
theorem w27_13 : awp X n c27_13 Q st = awp X n c27_14 (thenQ (awp X n c27_15 Q) Q) st := by rw [awp_eq]; kernel_rfl
theorem w27_11 : awp X n c27_11 Q st = awp X n c27_12 (thenQ (awp X n c27_13 Q) Q) st := by rw [awp_eq]; kernel_rfl
theorem w27_3 : awp X n c27_3 Q st = awp X n c27_4 (thenQ (awp X n c27_11 Q) Q) st := by rw [awp_eq]; kernel_rfl
theorem w27_2 : awp X n c27_2 Q st = awp X n c27_3 Q st := by rw [awp_eq]; kernel_rfl
theorem w27_0 : awp X n c27_0 Q st = awp X n c27_1 (thenQ (awp X n c27_2 Q) Q) st := by rw [awp_eq]; kernel_rfl
theorem q27_ret : retQ X Try.f27 K .ret ((a0::a1::a2::a3::a4::a5::a6::a7::a8::a9::b0::b1::b2::b3::b4::b5::b6::b7::b8::b9::d0::d1::d2::d3::d4::d5::d6::d7::d8::d9::e0::e1::e2::e3::e4::e5::e6::e7::e8::e9::f0::[]), h) = (K.K a2 h) := by kernel_rfl
theorem q27_normal : retQ X Try.f27 K .normal ((a0::a1::a2::a3::a4::a5::a6::a7::a8::a9::b0::b1::b2::b3::b4::b5::b6::b7::b8::b9::d0::d1::d2::d3::d4::d5::d6::d7::d8::d9::e0::e1::e2::e3::e4::e5::e6::e7::e8::e9::f0::[]), h) = (K.K a2 h) := by kernel_rfl
theorem i27 (H : awp X h.length c27_0 (retQ X Try.f27 K) ((a0::.bad::.bad::.bad::.bad::.bad::.bad::.bad::.bad::.bad::.bad::.bad::.bad::.bad::.bad::.bad::.bad::.bad::.bad::.bad::.bad::.bad::.bad::.bad::.bad::.bad::.bad::.bad::.bad::.bad::.bad::.bad::.bad::.bad::.bad::.bad::.bad::.bad::.bad::.bad::.bad::[]), h)) : ACall X 27 [a0] h K := acall_intro (fn := Try.f27) (by kernel_rfl) (by kernel_rfl) (by kernel_rfl) H
noncomputable def R27 := And.intro (And.intro (And.intro (And.intro (And.intro (w27_1) (And.intro w27_5 w27_8)) (And.intro (And.intro w27_9 w27_7) (And.intro w27_10 w27_6))) (And.intro (And.intro (And.intro w27_4 w27_12) (And.intro w27_14 w27_16)) (And.intro (And.intro w27_24 w27_27) (And.intro w27_29 w27_31)))) (And.intro (And.intro (And.intro (w27_32) (And.intro w27_30 w27_28)) (And.intro (And.intro w27_26 w27_34) (And.intro w27_36 w27_37))) (And.intro (And.intro (And.intro w27_35 w27_33) (And.intro w27_25 w27_23)) (And.intro (And.intro w27_22 w27_38) (And.intro w27_21 w27_20))))) (And.intro (And.intro (And.intro (And.intro (w27_19) (And.intro w27_18 w27_40)) (And.intro (And.intro w27_43 w27_46) (And.intro w27_48 w27_49))) (And.intro (And.intro (And.intro w27_47 w27_45) (And.intro w27_50 w27_44)) (And.intro (And.intro w27_42 w27_52) (And.intro w27_54 w27_56)))) (And.intro (And.intro (And.intro (w27_57) (And.intro w27_55 w27_53)) (And.intro (And.intro w27_51 w27_41) (And.intro w27_39 w27_17))) (And.intro (And.intro (And.intro w27_15 w27_13) (And.intro w27_11 w27_3)) (And.intro (And.intro w27_2 w27_0) (And.intro q27_ret q27_normal)))))
/-! function 30: sindri/sindriref03.Take -/
noncomputable def c30_0 : Code := bodyOf Try.f30
noncomputable def c30_1 : Code := cl c30_0
theorem w30_1 : awp X n c30_1 Q ((a0::a1::a2::a3::a4::a5::a6::a7::a8::a9::b0::b1::b2::b3::b4::b5::b6::b7::b8::b9::d0::d1::d2::d3::d4::d5::d6::d7::d8::d9::e0::e1::e2::e3::e4::e5::e6::e7::e8::e9::f0::f1::f2::f3::f4::f5::f6::f7::f8::f9::g0::g1::g2::g3::g4::g5::g6::g7::g8::g9::j0::j1::j2::j3::j4::j5::j6::j7::j8::j9::[]), h) = (a_mov (.v (.string ⟨#[]⟩)) h (.c (fun t2 h1 => Q .normal ((a0::a1::t2::a3::a4::a5::a6::a7::a8::a9::b0::b1::b2::b3::b4::b5::b6::b7::b8::b9::d0::d1::d2::d3::d4::d5::d6::d7::d8::d9::e0::e1::e2::e3::e4::e5::e6::e7::e8::e9::f0::f1::f2::f3::f4::f5::f6::f7::f8::f9::g0::g1::g2::g3::g4::g5::g6::g7::g8::g9::j0::j1::j2::j3::j4::j5::j6::j7::j8::j9::[]), h1)) ())) := by rw [awp_eq]; kernel_rfl
noncomputable def c30_2 : Code := cr c30_0
noncomputable def c30_3 : Code := cl c30_2
noncomputable def c30_4 : Code := cl c30_3
theorem w30_4 : awp X n c30_4 Q ((a0::a1::a2::a3::a4::a5::a6::a7::a8::a9::b0::b1::b2::b3::b4::b5::b6::b7::b8::b9::d0::d1::d2::d3::d4::d5::d6::d7::d8::d9::e0::e1::e2::e3::e4::e5::e6::e7::e8::e9::f0::f1::f2::f3::f4::f5::f6::f7::f8::f9::g0::g1::g2::g3::g4::g5::g6::g7::g8::g9::j0::j1::j2::j3::j4::j5::j6::j7::j8::j9::[]), h) = (a_mov a0 h (.c (fun t5 h1 => a_nilc t5 h1 (.c (fun t6 h2 => a_fa 2 t6 h2 (.c (fun t7 h3 => a_load 1 false t7 h3 (.c (fun t8 h4 => a_bin .neq t8 (.v (.int .i64 0)) h4 (.c (fun t9 h5 => Q .normal ((a0::a1::a2::a3::a4::t5::t6::t7::t8::t9::b0::b1::b2::b3::b4::b5::b6::b7::b8::b9::d0::d1::d2::d3::d4::d5::d6::d7::d8::d9::e0::e1::e2::e3::e4::e5::e6::e7::e8::e9::f0::f1::f2::f3::f4::f5::f6::f7::f8::f9::g0::g1::g2::g3::g4::g5::g6::g7::g8::g9::j0::j1::j2::j3::j4::j5::j6::j7::j8::j9::[]), h5)) ())) ())) ())) ())) ())) := by rw [awp_eq]; kernel_rfl
noncomputable def c30_5 : Code := cr c30_3
noncomputable def c30_6 : Code := cl c30_5
noncomputable def c30_7 : Code := cl c30_6
theorem w30_7 : awp X n c30_7 Q ((a0::a1::a2::a3::a4::a5::a6::a7::a8::a9::b0::b1::b2::b3::b4::b5::b6::b7::b8::b9::d0::d1::d2::d3::d4::d5::d6::d7::d8::d9::e0::e1::e2::e3::e4::e5::e6::e7::e8::e9::f0::f1::f2::f3::f4::f5::f6::f7::f8::f9::g0::g1::g2::g3::g4::g5::g6::g7::g8::g9::j0::j1::j2::j3::j4::j5::j6::j7::j8::j9::[]), h) = (a_mov (.v (.string ⟨#[]⟩)) h (.c (fun t2 h1 => Q .normal ((a0::a1::t2::a3::a4::a5::a6::a7::a8::a9::b0::b1::b2::b3::b4::b5::b6::b7::b8::b9::d0::d1::d2::d3::d4::d5::d6::d7::d8::d9::e0::e1::e2::e3::e4::e5::e6::e7::e8::e9::f0::f1::f2::f3::f4::f5::f6::f7::f8::f9::g0::g1::g2::g3::g4::g5::g6::g7::g8::g9::j0::j1::j2::j3::j4::j5::j6::j7::j8::j9::[]), h1)) ())) := by rw [awp_eq]; kernel_rfl
noncomputable def c30_8 : Code := cr c30_6
theorem w30_8 : awp X n c30_8 Q st = Q .ret st := by rw [awp_eq]; kernel_rfl
theorem w30_6 : awp X n c30_6 Q st = awp X n c30_7 (thenQ (awp X n c30_8 Q) Q) st := by rw [awp_eq]; kernel_rfl
noncomputable def c30_9 : Code := cr c30_5
theorem w30_9 : awp X n c30_9 Q st = Q .normal st := by rw [awp_eq]; kernel_rfl
theorem w30_5 : awp X n c30_5 Q ((a0::a1::a2::a3::a4::a5::a6::a7::a8::a9::b0::b1::b2::b3::b4::b5::b6::b7::b8::b9::d0::d1::d2::d3::d4::d5::d6::d7::d8::d9::e0::e1::e2::e3::e4::e5::e6::e7::e8::e9::f0::f1::f2::f3::f4::f5::f6::f7::f8::f9::g0::g1::g2::g3::g4::g5::g6::g7::g8::g9::j0::j1::j2::j3::j4::j5::j6::j7::j8::j9::[]), h) = a_cond a9 (awp X n c30_6 Q ((a0::a1::a2::a3::a4::a5::a6::a7::a8::a9::b0::b1::b2::b3::b4::b5::b6::b7::b8::b9::d0::d1::d2::d3::d4::d5::d6::d7::d8::d9::e0::e1::e2::e3::e4::e5::e6::e7::e8::e9::f0::f1::f2::f3::f4::f5::f6::f7::f8::f9::g0::g1::g2::g3::g4::g5::g6::g7::g8::g9::j0::j1::j2::j3::j4::j5::j6::j7::j8::j9::[]), h)) (awp X n c30_9 Q ((a0::a1::a2::a3::a4::a5::a6::a7::a8::a9::b0::b1::b2::b3::b4::b5::b6::b7::b8::b9::d0::d1::d2::d3::d4::d5::d6::d7::d8::d9::e0::e1::e2::e3::e4::e5::e6::e7::e8::e9::f0::f1::f2::f3::f4::f5::f6::f7::f8::f9::g0::g1::g2::g3::g4::g5::g6::g7::g8::g9::j0::j1::j2::j3::j4::j5::j6::j7::j8::j9::[]), h)) := by rw [awp_eq]; kernel_rfl
theorem w30_3 : awp X n c30_3 Q st = awp X n c30_4 (thenQ (awp X n c30_5 Q) Q) st := by rw [awp_eq]; kernel_rfl
noncomputable def c30_10 : Code := cr c30_2
noncomputable def c30_11 : Code := cl c30_10
theorem w30_11 : awp X n c30_11 Q ((a0::a1::a2::a3::a4::a5::a6::a7::a8::a9::b0::b1::b2::b3::b4::b5::b6::b7::b8::b9::d0::d1::d2::d3::d4::d5::d6::d7::d8::d9::e0::e1::e2::e3::e4::e5::e6::e7::e8::e9::f0::f1::f2::f3::f4::f5::f6::f7::f8::f9::g0::g1::g2::g3::g4::g5::g6::g7::g8::g9::j0::j1::j2::j3::j4::j5::j6::j7::j8::j9::[]), h) = (a_mov a0 h (.c (fun t10 h1 => a_nilc t10 h1 (.c (fun t11 h2 => a_fa 1 t11 h2 (.c (fun t12 h3 => a_load 1 false t12 h3 (.c (fun t13 h4 => a_mov t13 h4 (.c (fun t3 h5 => Q .normal ((a0::a1::a2::t3::a4::a5::a6::a7::a8::a9::t10::t11::t12::t13::b4::b5::b6::b7::b8::b9::d0::d1::d2::d3::d4::d5::d6::d7::d8::d9::e0::e1::e2::e3::e4::e5::e6::e7::e8::e9::f0::f1::f2::f3::f4::f5::f6::f7::f8::f9::g0::g1::g2::g3::g4::g5::g6::g7::g8::g9::j0::j1::j2::j3::j4::j5::j6::j7::j8::j9::[]), h5)) ())) ())) ())) ())) ())) := by rw [awp_eq]; kernel_rfl
noncomputable def c30_12 : Code := cr c30_10
noncomputable def c30_13 : Code := cl c30_12
noncomputable def c30_14 : Code := cl c30_13
noncomputable def c30_15 : Code := cl c30_14
noncomputable def c30_16 : Code := cl c30_15
noncomputable def c30_17 : Code := cl c30_16
theorem w30_17 : awp X n c30_17 Q ((a0::a1::a2::a3::a4::a5::a6::a7::a8::a9::b0::b1::b2::b3::b4::b5::b6::b7::b8::b9::d0::d1::d2::d3::d4::d5::d6::d7::d8::d9::e0::e1::e2::e3::e4::e5::e6::e7::e8::e9::f0::f1::f2::f3::f4::f5::f6::f7::f8::f9::g0::g1::g2::g3::g4::g5::g6::g7::g8::g9::j0::j1::j2::j3::j4::j5::j6::j7::j8::j9::[]), h) = (a_mov a3 h (.c (fun t14 h1 => a_mov a0 h1 (.c (fun t15 h2 => a_nilc t15 h2 (.c (fun t16 h3 => a_fa 0 t16 h3 (.c (fun t17 h4 => a_load 1 false t17 h4 (.c (fun t18 h5 => a_len t18 h5 (.c (fun t19 h6 => a_bin .lss t14 t19 h6 (.c (fun t20 h7 => a_mov t20 h7 (.c (fun t21 h8 => a_on t21 true (fun k => a_mov a0 h8 k) h8 (.c (fun t22 h9 => a_on t21 true (fun k => a_nilc t22 h9 k) h9 (.c (fun t23 h10 => a_on t21 true (fun k => a_fa 0 t23 h10 k) h10 (.c (fun t24 h11 => a_on t21 true (fun k => a_load 1 false t24 h11 k) h11 (.c (fun t25 h12 => a_on t21 true (fun k => a_mov a3 h12 k) h12 (.c (fun t26 h13 => a_on t21 true (fun k => a_ia 1 t25 t26 h13 k) h13 (.c (fun t27 h14 => a_on t21 true (fun k => a_load 1 false t27 h14 k) h14 (.c (fun t28 h15 => a_on t21 true (fun k => a_bin .neq t28 (.v (.int .u8 0)) h15 k) h15 (.c (fun t29 h16 => a_pick t21 t29 (.v (.bool false)) h16 (.c (fun t30 h17 => Q .normal ((a0::a1::a2::a3::a4::a5::a6::a7::a8::a9::b0::b1::b2::b3::t14::t15::t16::t17::t18::t19::t20::t21::t22::t23::t24::t25::t26::t27::t28::t29::t30::e1::e2::e3::e4::e5::e6::e7::e8::e9::f0::f1::f2::f3::f4::f5::f6::f7::f8::f9::g0::g1::g2::g3::g4::g5::g6::g7::g8::g9::j0::j1::j2::j3::j4::j5::j6::j7::j8::j9::[]), h17)) ())) ())) ())) ())) ())) ())) ())) ())) ())) ())) ())) ())) ())) ())) ())) ())) ())) := by rw [awp_eq]; kernel_rfl
noncomputable def c30_18 : Code := cr c30_16
noncomputable def c30_19 : Code := cl c30_18
theorem w30_19 : awp X n c30_19 Q st = Q .normal st := by rw [awp_eq]; kernel_rfl
noncomputable def c30_20 : Code := cr c30_18
theorem w30_20 : awp X n c30_20 Q st = Q (.exit 0) st := by rw [awp_eq]; kernel_rfl
theorem w30_18 : awp X n c30_18 Q ((a0::a1::a2::a3::a4::a5::a6::a7::a8::a9::b0::b1::b2::b3::b4::b5::b6::b7::b8::b9::d0::d1::d2::d3::d4::d5::d6::d7::d8::d9::e0::e1::e2::e3::e4::e5::e6::e7::e8::e9::f0::f1::f2::f3::f4::f5::f6::f7::f8::f9::g0::g1::g2::g3::g4::g5::g6::g7::g8::g9::j0::j1::j2::j3::j4::j5::j6::j7::j8::j9::[]), h) = a_cond e0 (awp X n c30_19 Q ((a0::a1::a2::a3::a4::a5::a6::a7::a8::a9::b0::b1::b2::b3::b4::b5::b6::b7::b8::b9::d0::d1::d2::d3::d4::d5::d6::d7::d8::d9::e0::e1::e2::e3::e4::e5::e6::e7::e8::e9::f0::f1::f2::f3::f4::f5::f6::f7::f8::f9::g0::g1::g2::g3::g4::g5::g6::g7::g8::g9::j0::j1::j2::j3::j4::j5::j6::j7::j8::j9::[]), h)) (awp X n c30_20 Q ((a0::a1::a2::a3::a4::a5::a6::a7::a8::a9::b0::b1::b2::b3::b4::b5::b6::b7::b8::b9::d0::d1::d2::d3::d4::d5::d6::d7::d8::d9::e0::e1::e2::e3::e4::e5::e6::e7::e8::e9::f0::f1::f2::f3::f4::f5::f6::f7::f8::f9::g0::g1::g2::g3::g4::g5::g6::g7::g8::g9::j0::j1::j2::j3::j4::j5::j6::j7::j8::j9::[]), h)) := by rw [awp_eq]; kernel_rfl
theorem w30_16 : awp X n c30_16 Q st = awp X n c30_17 (thenQ (awp X n c30_18 Q) Q) st := by rw [awp_eq]; kernel_rfl
noncomputable def c30_21 : Code := cr c30_15
noncomputable def c30_22 : Code := cl c30_21
theorem w30_22 : awp X n c30_22 Q ((a0::a1::a2::a3::a4::a5::a6::a7::a8::a9::b0::b1::b2::b3::b4::b5::b6::b7::b8::b9::d0::d1::d2::d3::d4::d5::d6::d7::d8::d9::e0::e1::e2::e3::e4::e5::e6::e7::e8::e9::f0::f1::f2::f3::f4::f5::f6::f7::f8::f9::g0::g1::g2::g3::g4::g5::g6::g7::g8::g9::j0::j1::j2::j3::j4::j5::j6::j7::j8::j9::[]), h) = (a_mov a3 h (.c (fun t31 h1 => a_bin .add t31 (.v (.int .i64 1)) h1 (.c (fun t32 h2 => a_mov t32 h2 (.c (fun t3 h3 => Q .normal ((a0::a1::a2::t3::a4::a5::a6::a7::a8::a9::b0::b1::b2::b3::b4::b5::b6::b7::b8::b9::d0::d1::d2::d3::d4::d5::d6::d7::d8::d9::e0::t31::t32::e3::e4::e5::e6::e7::e8::e9::f0::f1::f2::f3::f4::f5::f6::f7::f8::f9::g0::g1::g2::g3::g4::g5::g6::g7::g8::g9::j0::j1::j2::j3::j4::j5::j6::j7::j8::j9::[]), h3)) ())) ())) ())) := by rw [awp_eq]; kernel_rfl
theorem w30_21 : awp X n c30_21 Q st = awp X n c30_22 (blockQ 1 Q) st := by rw [awp_eq]; kernel_rfl
theorem w30_15 : awp X n c30_15 Q st = awp X n c30_16 (thenQ (awp X n c30_21 Q) Q) st := by rw [awp_eq]; kernel_rfl
theorem w30_14 : awp X n c30_14 Q st = ALoop X n c30_15 Q st := by rw [awp_eq]; kernel_rfl
theorem w30_13 : awp X n c30_13 Q st = awp X n c30_14 (blockQ 0 Q) st := by rw [awp_eq]; kernel_rfl
noncomputable def c30_23 : Code := cr c30_12
noncomputable def c30_24 : Code := cl c30_23
noncomputable def c30_25 : Code := cl c30_24
theorem w30_25 : awp X n c30_25 Q ((a0::a1::a2::a3::a4::a5::a6::a7::a8::a9::b0::b1::b2::b3::b4::b5::b6::b7::b8::b9::d0::d1::d2::d3::d4::d5::d6::d7::d8::d9::e0::e1::e2::e3::e4::e5::e6::e7::e8::e9::f0::f1::f2::f3::f4::f5::f6::f7::f8::f9::g0::g1::g2::g3::g4::g5::g6::g7::g8::g9::j0::j1::j2::j3::j4::j5::j6::j7::j8::j9::[]), h) = (a_mov a3 h (.c (fun t33 h1 => a_mov a0 h1 (.c (fun t34 h2 => a_nilc t34 h2 (.c (fun t35 h3 => a_fa 0 t35 h3 (.c (fun t36 h4 => a_load 1 false t36 h4 (.c (fun t37 h5 => a_len t37 h5 (.c (fun t38 h6 => a_bin .eql t33 t38 h6 (.c (fun t39 h7 => Q .normal ((a0::a1::a2::a3::a4::a5::a6::a7::a8::a9::b0::b1::b2::b3::b4::b5::b6::b7::b8::b9::d0::d1::d2::d3::d4::d5::d6::d7::d8::d9::e0::e1::e2::t33::t34::t35::t36::t37::t38::t39::f0::f1::f2::f3::f4::f5::f6::f7::f8::f9::g0::g1::g2::g3::g4::g5::g6::g7::g8::g9::j0::j1::j2::j3::j4::j5::j6::j7::j8::j9::[]), h7)) ())) ())) ())) ())) ())) ())) ())) := by rw [awp_eq]; kernel_rfl
noncomputable def c30_26 : Code := cr c30_24
noncomputable def c30_27 : Code := cl c30_26
noncomputable def c30_28 : Code := cl c30_27
theorem w30_28 : awp X n c30_28 Q ((a0::a1::a2::a3::a4::a5::a6::a7::a8::a9::b0::b1::b2::b3::b4::b5::b6::b7::b8::b9::d0::d1::d2::d3::d4::d5::d6::d7::d8::d9::e0::e1::e2::e3::e4::e5::e6::e7::e8::e9::f0::f1::f2::f3::f4::f5::f6::f7::f8::f9::g0::g1::g2::g3::g4::g5::g6::g7::g8::g9::j0::j1::j2::j3::j4::j5::j6::j7::j8::j9::[]), h) = (a_mov a0 h (.c (fun t40 h1 => a_nilc t40 h1 (.c (fun t41 h2 => a_fa 2 t41 h2 (.c (fun t42 h3 => a_store 1 t42 (.v (.int .i64 12)) h3 (.c (fun _v3 h4 => Q .normal ((a0::a1::a2::a3::a4::a5::a6::a7::a8::a9::b0::b1::b2::b3::b4::b5::b6::b7::b8::b9::d0::d1::d2::d3::d4::d5::d6::d7::d8::d9::e0::e1::e2::e3::e4::e5::e6::e7::e8::e9::t40::t41::t42::f3::f4::f5::f6::f7::f8::f9::g0::g1::g2::g3::g4::g5::g6::g7::g8::g9::j0::j1::j2::j3::j4::j5::j6::j7::j8::j9::[]), h4)) ())) ())) ())) ())) := by rw [awp_eq]; kernel_rfl
noncomputable def c30_29 : Code := cr c30_27
noncomputable def c30_30 : Code := cl c30_29
theorem w30_30 : awp X n c30_30 Q ((a0::a1::a2::a3::a4::a5::a6::a7::a8::a9::b0::b1::b2::b3::b4::b5::b6::b7::b8::b9::d0::d1::d2::d3::d4::d5::d6::d7::d8::d9::e0::e1::e2::e3::e4::e5::e6::e7::e8::e9::f0::f1::f2::f3::f4::f5::f6::f7::f8::f9::g0::g1::g2::g3::g4::g5::g6::g7::g8::g9::j0::j1::j2::j3::j4::j5::j6::j7::j8::j9::[]), h) = (a_mov (.v (.string ⟨#[]⟩)) h (.c (fun t2 h1 => Q .normal ((a0::a1::t2::a3::a4::a5::a6::a7::a8::a9::b0::b1::b2::b3::b4::b5::b6::b7::b8::b9::d0::d1::d2::d3::d4::d5::d6::d7::d8::d9::e0::e1::e2::e3::e4::e5::e6::e7::e8::e9::f0::f1::f2::f3::f4::f5::f6::f7::f8::f9::g0::g1::g2::g3::g4::g5::g6::g7::g8::g9::j0::j1::j2::j3::j4::j5::j6::j7::j8::j9::[]), h1)) ())) := by rw [awp_eq]; kernel_rfl
noncomputable def c30_31 : Code := cr c30_29
theorem w30_31 : awp X n c30_31 Q st = Q .ret st := by rw [awp_eq]; kernel_rfl
theorem w30_29 : awp X n c30_29 Q st = awp X n c30_30 (thenQ (awp X n c30_31 Q) Q) st := by rw [awp_eq]; kernel_rfl
theorem w30_27 : awp X n c30_27 Q st = awp X n c30_28 (thenQ (awp X n c30_29 Q) Q) st := by rw [awp_eq]; kernel_rfl
noncomputable def c30_32 : Code := cr c30_26
theorem w30_32 : awp X n c30_32 Q st = Q .normal st := by rw [awp_eq]; kernel_rfl
theorem w30_26 : awp X n c30_26 Q ((a0::a1::a2::a3::a4::a5::a6::a7::a8::a9::b0::b1::b2::b3::b4::b5::b6::b7::b8::b9::d0::d1::d2::d3::d4::d5::d6::d7::d8::d9::e0::e1::e2::e3::e4::e5::e6::e7::e8::e9::f0::f1::f2::f3::f4::f5::f6::f7::f8::f9::g0::g1::g2::g3::g4::g5::g6::g7::g8::g9::j0::j1::j2::j3::j4::j5::j6::j7::j8::j9::[]), h) = a_cond e9 (awp X n c30_27 Q ((a0::a1::a2::a3::a4::a5::a6::a7::a8::a9::b0::b1::b2::b3::b4::b5::b6::b7::b8::b9::d0::d1::d2::d3::d4::d5::d6::d7::d8::d9::e0::e1::e2::e3::e4::e5::e6::e7::e8::e9::f0::f1::f2::f3::f4::f5::f6::f7::f8::f9::g0::g1::g2::g3::g4::g5::g6::g7::g8::g9::j0::j1::j2::j3::j4::j5::j6::j7::j8::j9::[]), h)) (awp X n c30_32 Q ((a0::a1::a2::a3::a4::a5::a6::a7::a8::a9::b0::b1::b2::b3::b4::b5::b6::b7::b8::b9::d0::d1::d2::d3::d4::d5::d6::d7::d8::d9::e0::e1::e2::e3::e4::e5::e6::e7::e8::e9::f0::f1::f2::f3::f4::f5::f6::f7::f8::f9::g0::g1::g2::g3::g4::g5::g6::g7::g8::g9::j0::j1::j2::j3::j4::j5::j6::j7::j8::j9::[]), h)) := by rw [awp_eq]; kernel_rfl
theorem w30_24 : awp X n c30_24 Q st = awp X n c30_25 (thenQ (awp X n c30_26 Q) Q) st := by rw [awp_eq]; kernel_rfl
noncomputable def c30_33 : Code := cr c30_23
noncomputable def c30_34 : Code := cl c30_33
noncomputable def c30_35 : Code := cl c30_34
theorem w30_35 : awp X n c30_35 Q ((a0::a1::a2::a3::a4::a5::a6::a7::a8::a9::b0::b1::b2::b3::b4::b5::b6::b7::b8::b9::d0::d1::d2::d3::d4::d5::d6::d7::d8::d9::e0::e1::e2::e3::e4::e5::e6::e7::e8::e9::f0::f1::f2::f3::f4::f5::f6::f7::f8::f9::g0::g1::g2::g3::g4::g5::g6::g7::g8::g9::j0::j1::j2::j3::j4::j5::j6::j7::j8::j9::[]), h) = (a_mov a3 h (.c (fun t43 h1 => a_mov a0 h1 (.c (fun t44 h2 => a_nilc t44 h2 (.c (fun t45 h3 => a_fa 1 t45 h3 (.c (fun t46 h4 => a_load 1 false t46 h4 (.c (fun t47 h5 => a_bin .sub t43 t47 h5 (.c (fun t48 h6 => a_bin .gtr t48 (.v (.int .i64 200)) h6 (.c (fun t49 h7 => Q .normal ((a0::a1::a2::a3::a4::a5::a6::a7::a8::a9::b0::b1::b2::b3::b4::b5::b6::b7::b8::b9::d0::d1::d2::d3::d4::d5::d6::d7::d8::d9::e0::e1::e2::e3::e4::e5::e6::e7::e8::e9::f0::f1::f2::t43::t44::t45::t46::t47::t48::t49::g0::g1::g2::g3::g4::g5::g6::g7::g8::g9::j0::j1::j2::j3::j4::j5::j6::j7::j8::j9::[]), h7)) ())) ())) ())) ())) ())) ())) ())) := by rw [awp_eq]; kernel_rfl
noncomputable def c30_36 : Code := cr c30_34
noncomputable def c30_37 : Code := cl c30_36
noncomputable def c30_38 : Code := cl c30_37
theorem w30_38 : awp X n c30_38 Q ((a0::a1::a2::a3::a4::a5::a6::a7::a8::a9::b0::b1::b2::b3::b4::b5::b6::b7::b8::b9::d0::d1::d2::d3::d4::d5::d6::d7::d8::d9::e0::e1::e2::e3::e4::e5::e6::e7::e8::e9::f0::f1::f2::f3::f4::f5::f6::f7::f8::f9::g0::g1::g2::g3::g4::g5::g6::g7::g8::g9::j0::j1::j2::j3::j4::j5::j6::j7::j8::j9::[]), h) = (a_mov a0 h (.c (fun t50 h1 => a_nilc t50 h1 (.c (fun t51 h2 => a_fa 2 t51 h2 (.c (fun t52 h3 => a_store 1 t52 (.v (.int .i64 3)) h3 (.c (fun _v3 h4 => Q .normal ((a0::a1::a2::a3::a4::a5::a6::a7::a8::a9::b0::b1::b2::b3::b4::b5::b6::b7::b8::b9::d0::d1::d2::d3::d4::d5::d6::d7::d8::d9::e0::e1::e2::e3::e4::e5::e6::e7::e8::e9::f0::f1::f2::f3::f4::f5::f6::f7::f8::f9::t50::t51::t52::g3::g4::g5::g6::g7::g8::g9::j0::j1::j2::j3::j4::j5::j6::j7::j8::j9::[]), h4)) ())) ())) ())) ())) := by rw [awp_eq]; kernel_rfl
noncomputable def c30_39 : Code := cr c30_37
noncomputable def c30_40 : Code := cl c30_39
theorem w30_40 : awp X n c30_40 Q ((a0::a1::a2::a3::a4::a5::a6::a7::a8::a9::b0::b1::b2::b3::b4::b5::b6::b7::b8::b9::d0::d1::d2::d3::d4::d5::d6::d7::d8::d9::e0::e1::e2::e3::e4::e5::e6::e7::e8::e9::f0::f1::f2::f3::f4::f5::f6::f7::f8::f9::g0::g1::g2::g3::g4::g5::g6::g7::g8::g9::j0::j1::j2::j3::j4::j5::j6::j7::j8::j9::[]), h) = (a_mov (.v (.string ⟨#[]⟩)) h (.c (fun t2 h1 => Q .normal ((a0::a1::t2::a3::a4::a5::a6::a7::a8::a9::b0::b1::b2::b3::b4::b5::b6::b7::b8::b9::d0::d1::d2::d3::d4::d5::d6::d7::d8::d9::e0::e1::e2::e3::e4::e5::e6::e7::e8::e9::f0::f1::f2::f3::f4::f5::f6::f7::f8::f9::g0::g1::g2::g3::g4::g5::g6::g7::g8::g9::j0::j1::j2::j3::j4::j5::j6::j7::j8::j9::[]), h1)) ())) := by rw [awp_eq]; kernel_rfl
noncomputable def c30_41 : Code := cr c30_39
theorem w30_41 : awp X n c30_41 Q st = Q .ret st := by rw [awp_eq]; kernel_rfl
theorem w30_39 : awp X n c30_39 Q st = awp X n c30_40 (thenQ (awp X n c30_41 Q) Q) st := by rw [awp_eq]; kernel_rfl
theorem w30_37 : awp X n c30_37 Q st = awp X n c30_38 (thenQ (awp X n c30_39 Q) Q) st := by rw [awp_eq]; kernel_rfl
noncomputable def c30_42 : Code := cr c30_36
theorem w30_42 : awp X n c30_42 Q st = Q .normal st := by rw [awp_eq]; kernel_rfl
theorem w30_36 : awp X n c30_36 Q ((a0::a1::a2::a3::a4::a5::a6::a7::a8::a9::b0::b1::b2::b3::b4::b5::b6::b7::b8::b9::d0::d1::d2::d3::d4::d5::d6::d7::d8::d9::e0::e1::e2::e3::e4::e5::e6::e7::e8::e9::f0::f1::f2::f3::f4::f5::f6::f7::f8::f9::g0::g1::g2::g3::g4::g5::g6::g7::g8::g9::j0::j1::j2::j3::j4::j5::j6::j7::j8::j9::[]), h) = a_cond f9 (awp X n c30_37 Q ((a0::a1::a2::a3::a4::a5::a6::a7::a8::a9::b0::b1::b2::b3::b4::b5::b6::b7::b8::b9::d0::d1::d2::d3::d4::d5::d6::d7::d8::d9::e0::e1::e2::e3::e4::e5::e6::e7::e8::e9::f0::f1::f2::f3::f4::f5::f6::f7::f8::f9::g0::g1::g2::g3::g4::g5::g6::g7::g8::g9::j0::j1::j2::j3::j4::j5::j6::j7::j8::j9::[]), h)) (awp X n c30_42 Q ((a0::a1::a2::a3::a4::a5::a6::a7::a8::a9::b0::b1::b2::b3::b4::b5::b6::b7::b8::b9::d0::d1::d2::d3::d4::d5::d6::d7::d8::d9::e0::e1::e2::e3::e4::e5::e6::e7::e8::e9::f0::f1::f2::f3::f4::f5::f6::f7::f8::f9::g0::g1::g2::g3::g4::g5::g6::g7::g8::g9::j0::j1::j2::j3::j4::j5::j6::j7::j8::j9::[]), h)) := by rw [awp_eq]; kernel_rfl
theorem w30_34 : awp X n c30_34 Q st = awp X n c30_35 (thenQ (awp X n c30_36 Q) Q) st := by rw [awp_eq]; kernel_rfl
noncomputable def c30_43 : Code := cr c30_33
noncomputable def c30_44 : Code := cl c30_43
theorem w30_44 : awp X n c30_44 Q ((a0::a1::a2::a3::a4::a5::a6::a7::a8::a9::b0::b1::b2::b3::b4::b5::b6::b7::b8::b9::d0::d1::d2::d3::d4::d5::d6::d7::d8::d9::e0::e1::e2::e3::e4::e5::e6::e7::e8::e9::f0::f1::f2::f3::f4::f5::f6::f7::f8::f9::g0::g1::g2::g3::g4::g5::g6::g7::g8::g9::j0::j1::j2::j3::j4::j5::j6::j7::j8::j9::[]), h) = (a_mov a0 h (.c (fun t53 h1 => a_nilc t53 h1 (.c (fun t54 h2 => a_fa 0 t54 h2 (.c (fun t55 h3 => a_load 1 false t55 h3 (.c (fun t56 h4 => a_mov a0 h4 (.c (fun t57 h5 => a_nilc t57 h5 (.c (fun t58 h6 => a_fa 1 t58 h6 (.c (fun t59 h7 => a_load 1 false t59 h7 (.c (fun t60 h8 => a_mov a3 h8 (.c (fun t61 h9 => a_slice 1 t56 (some t60) (some t61) none h9 (.c (fun t62 h10 => a_cstr t62 h10 (.c (fun t63 h11 => a_mov t63 h11 (.c (fun t4 h12 => Q .normal ((a0::a1::a2::a3::t4::a5::a6::a7::a8::a9::b0::b1::b2::b3::b4::b5::b6::b7::b8::b9::d0::d1::d2::d3::d4::d5::d6::d7::d8::d9::e0::e1::e2::e3::e4::e5::e6::e7::e8::e9::f0::f1::f2::f3::f4::f5::f6::f7::f8::f9::g0::g1::g2::t53::t54::t55::t56::t57::t58::t59::t60::t61::t62::t63::j4::j5::j6::j7::j8::j9::[]), h12)) ())) ())) ())) ())) ())) ())) ())) ())) ())) ())) ())) ())) := by rw [awp_eq]; kernel_rfl
noncomputable def c30_45 : Code := cr c30_43
noncomputable def c30_46 : Code := cl c30_45
theorem w30_46 : awp X n c30_46 Q ((a0::a1::a2::a3::a4::a5::a6::a7::a8::a9::b0::b1::b2::b3::b4::b5::b6::b7::b8::b9::d0::d1::d2::d3::d4::d5::d6::d7::d8::d9::e0::e1::e2::e3::e4::e5::e6::e7::e8::e9::f0::f1::f2::f3::f4::f5::f6::f7::f8::f9::g0::g1::g2::g3::g4::g5::g6::g7::g8::g9::j0::j1::j2::j3::j4::j5::j6::j7::j8::j9::[]), h) = (a_mov a0 h (.c (fun t64 h1 => a_mov a3 h1 (.c (fun t65 h2 => a_bin .add t65 (.v (.int .i64 1)) h2 (.c (fun t66 h3 => a_nilc t64 h3 (.c (fun t67 h4 => a_fa 1 t67 h4 (.c (fun t68 h5 => a_store 1 t68 t66 h5 (.c (fun _v5 h6 => Q .normal ((a0::a1::a2::a3::a4::a5::a6::a7::a8::a9::b0::b1::b2::b3::b4::b5::b6::b7::b8::b9::d0::d1::d2::d3::d4::d5::d6::d7::d8::d9::e0::e1::e2::e3::e4::e5::e6::e7::e8::e9::f0::f1::f2::f3::f4::f5::f6::f7::f8::f9::g0::g1::g2::g3::g4::g5::g6::g7::g8::g9::j0::j1::j2::j3::t64::t65::t66::t67::t68::j9::[]), h6)) ())) ())) ())) ())) ())) ())) := by rw [awp_eq]; kernel_rfl
noncomputable def c30_47 : Code := cr c30_45
noncomputable def c30_48 : Code := cl c30_47
theorem w30_48 : awp X n c30_48 Q ((a0::a1::a2::a3::a4::a5::a6::a7::a8::a9::b0::b1::b2::b3::b4::b5::b6::b7::b8::b9::d0::d1::d2::d3::d4::d5::d6::d7::d8::d9::e0::e1::e2::e3::e4::e5::e6::e7::e8::e9::f0::f1::f2::f3::f4::f5::f6::f7::f8::f9::g0::g1::g2::g3::g4::g5::g6::g7::g8::g9::j0::j1::j2::j3::j4::j5::j6::j7::j8::j9::[]), h) = (a_mov a4 h (.c (fun t69 h1 => a_mov t69 h1 (.c (fun t2 h2 => Q .normal ((a0::a1::t2::a3::a4::a5::a6::a7::a8::a9::b0::b1::b2::b3::b4::b5::b6::b7::b8::b9::d0::d1::d2::d3::d4::d5::d6::d7::d8::d9::e0::e1::e2::e3::e4::e5::e6::e7::e8::e9::f0::f1::f2::f3::f4::f5::f6::f7::f8::f9::g0::g1::g2::g3::g4::g5::g6::g7::g8::g9::j0::j1::j2::j3::j4::j5::j6::j7::j8::t69::[]), h2)) ())) ())) := by rw [awp_eq]; kernel_rfl
noncomputable def c30_49 : Code := cr c30_47
theorem w30_49 : awp X n c30_49 Q st = Q .ret st := by rw [awp_eq]; kernel_rfl
theorem w30_47 : awp X n c30_47 Q st = awp X n c30_48 (thenQ (awp X n c30_49 Q) Q) st := by rw [awp_eq]; kernel_rfl
theorem w30_45 : awp X n c30_45 Q st = awp X n c30_46 (thenQ (awp X n c30_47 Q) Q) st := by rw [awp_eq]; kernel_rfl
theorem w30_43 : awp X n c30_43 Q st = awp X n c30_44 (thenQ (awp X n c30_45 Q) Q) st := by rw [awp_eq]; kernel_rfl
theorem w30_33 : awp X n c30_33 Q st = awp X n c30_34 (thenQ (awp X n c30_43 Q) Q) st := by rw [awp_eq]; kernel_rfl
theorem w30_23 : awp X n c30_23 Q st = awp X n c30_24 (thenQ (awp X n c30_33 Q) Q) st := by rw [awp_eq]; kernel_rfl
theorem w30_12 : awp X n c30_12 Q st = awp X n c30_13 (thenQ (awp X n c30_23 Q) Q) st := by rw [awp_eq]; kernel_rfl
theorem w30_10 : awp X n c30_10 Q st = awp X n c30_11 (thenQ (awp X n c30_12 Q) Q) st := by rw [awp_eq]; kernel_rfl
theorem w30_2 : awp X n c30_2 Q st = awp X n c30_3 (thenQ (awp X n c30_10 Q) Q) st := by rw [awp_eq]; kernel_rfl
theorem w30_0 : awp X n c30_0 Q st = awp X n c30_1 (thenQ (awp X n c30_2 Q) Q) st := by rw [awp_eq]; kernel_rfl
theorem q30_ret : retQ X Try.f30 K .ret ((a0::a1::a2::a3::a4::a5::a6::a7::a8::a9::b0::b1::b2::b3::b4::b5::b6::b7::b8::b9::d0::d1::d2::d3::d4::d5::d6::d7::d8::d9::e0::e1::e2::e3::e4::e5::e6::e7::e8::e9::f0::f1::f2::f3::f4::f5::f6::f7::f8::f9::g0::g1::g2::g3::g4::g5::g6::g7::g8::g9::j0::j1::j2::j3::j4::j5::j6::j7::j8::j9::[]), h) = (K.K a2 h) := by kernel_rfl
theorem q30_normal : retQ X Try.f30 K .normal ((a0::a1::a2::a3::a4::a5::a6::a7::a8::a9::b0::b1::b2::b3::b4::b5::b6::b7::b8::b9::d0::d1::d2::d3::d4::d5::d6::d7::d8::d9::e0::e1::e2::e3::e4::e5::e6::e7::e8::e9::f0::f1::f2::f3::f4::f5::f6::f7::f8::f9::g0::g1::g2::g3::g4::g5::g6::g7::g8::g9::j0::j1::j2::j3::j4::j5::j6::j7::j8::j9::[]), h) = (K.K a2 h) := by kernel_rfl
theorem i30 (H : awp X h.length c30_0 (retQ X Try.f30 K) ((a0::.bad::.bad::.bad::.bad::.bad::.bad::.bad::.bad::.bad::.bad::.bad::.bad::.bad::.bad::.bad::.bad::.bad::.bad::.bad::.bad::.bad::.bad::.bad::.bad::.bad::.bad::.bad::.bad::.bad::.bad::.bad::.bad::.bad::.bad::.bad::.bad::.bad::.bad::.bad::.bad::.bad::.bad::.bad::.bad::.bad::.bad::.bad::.bad::.bad::.bad::.bad::.bad::.bad::.bad::.bad::.bad::.bad::.bad::.bad::.bad::.bad::.bad::.bad::.bad::.bad::.bad::.bad::.bad::.bad::[]), h)) : ACall X 30 [a0] h K := acall_intro (fn := Try.f30) (by kernel_rfl) (by kernel_rfl) (by kernel_rfl) H
noncomputable def R30 := And.intro (And.intro (And.intro (And.intro (And.intro (w30_1) (And.intro w30_4 w30_7)) (And.intro (w30_8) (And.intro w30_6 w30_9))) (And.intro (And.intro (w30_5) (And.intro w30_3 w30_11)) (And.intro (And.intro w30_17 w30_19) (And.intro w30_20 w30_18)))) (And.intro (And.intro (And.intro (w30_16) (And.intro w30_22 w30_21)) (And.intro (w30_15) (And.intro w30_14 w30_13))) (And.intro (And.intro (w30_25) (And.intro w30_28 w30_30)) (And.intro (And.intro w30_31 w30_29) (And.intro w30_27 w30_32))))) (And.intro (And.intro (And.intro (And.intro (w30_26) (And.intro w30_24 w30_35)) (And.intro (w30_38) (And.intro w30_40 w30_41))) (And.intro (And.intro (w30_39) (And.intro w30_37 w30_42)) (And.intro (And.intro w30_36 w30_34) (And.intro w30_44 w30_46)))) (And.intro (And.intro (And.intro (w30_48) (And.intro w30_49 w30_47)) (And.intro (w30_45) (And.intro w30_43 w30_33))) (And.intro (And.intro (w30_23) (And.intro w30_12 w30_10)) (And.intro (And.intro w30_2 w30_0) (And.intro q30_ret q30_normal)))))
end Go.Proofs.Ytgpddpdhkhfdjaa
